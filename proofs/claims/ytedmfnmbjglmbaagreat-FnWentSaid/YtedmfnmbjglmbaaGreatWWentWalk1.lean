/- Printed by a program of ours: each Go function computes its Lean function. -/
import Derived.Test.YtedmfnmbjglmbaaGreatProg
import Derived.Test.YtedmfnmbjglmbaaGreatWWentSort
import Derived.Test.YtedmfnmbjglmbaaGreatEP
namespace Go.Proofs.YtedmfnmbjglmbaaGreat
open Eng Tryz
open Go.RowKit (Below)
set_option linter.unusedVariables false
set_option linter.unusedSimpArgs false
set_option maxRecDepth 100000
set_option maxHeartbeats 1000000
theorem mixed:prog.follows .mixedOrders=true:=OU
theorem Di:Sl prog 22 5 1=true:=OU
theorem to:Str prog 9=true:=OU
theorem Db:Fld prog 87 2 2=true:=OU
theorem tI:Sl prog 83 201 3=true:=OU
theorem wO:Tn prog 201 3=true:=OU
theorem mi:(prog.info? 201).map (·.zero)=some (some (.agg #[.string ⟨#[]⟩,.slice none 0 0,.bool false])):=OU
theorem pX:Sz prog 201 3=true:=OU
theorem wJ:Fld prog 201 2 2=true:=OU
theorem tQ:T1 prog 3=true:=OU
theorem MM:Fun prog 97=true:=OU
theorem Ow:T1 prog 9=true:=OU
theorem An:Fld prog 171 0 0=true:=OU
theorem B6:Fld prog 171 1 1=true:=OU
theorem lR:Tn prog 95 3=true:=OU
theorem xI:Pl prog 95 #[(0,1),(1,1),(2,1)]=true:=OU
theorem kW:(prog.info? 95).map (·.zero)=some (some (.agg #[iV 0,iV 0,.string ⟨#[]⟩])):=OU
theorem oN:EqT prog 95 [.i .i64,.i .i64,.s]=true:=OU
theorem zz:Sl prog 199 171 5=true:=OU
theorem nC:Tn prog 171 5=true:=OU
theorem kY:(prog.info? 171).map (·.zero)=some (some (.agg #[iV 0,.string ⟨#[]⟩,iV 0,iV 0,.string ⟨#[]⟩])):=OU
theorem jm:Sz prog 171 5=true:=OU
theorem ur:Tn prog 87 5=true:=OU
theorem Ff:Fun prog 165=true:=OU
theorem Kl:Fun prog 211=true:=OU
theorem NR:Bo prog 4=true:=OU
theorem Gc:Fld prog 173 1 1=true:=OU
theorem H5:Fld prog 173 2 6=true:=OU
theorem AY:Fld prog 216 0 0=true:=OU
theorem AP:Fld prog 216 1 1=true:=OU
theorem wX:Fld prog 216 2 6=true:=OU
theorem BY:Pl prog 171 #[(0,1),(1,1),(2,3)]=true:=OU
theorem KF:EqT prog 171 [.i .i64,.s,.i .i64,.i .i64,.s]=true:=OU
theorem Gm:Fld prog 213 1 1=true:=OU
theorem u6:Fld prog 213 2 2=true:=OU
theorem BC:T1 prog 211=true:=OU
theorem wL:Sl prog 211 216 11=true:=OU
theorem ML:Tn prog 216 11=true:=OU
theorem xo:(prog.info? 216).map (·.zero)=some (some (.agg #[.string ⟨#[]⟩,iV 0,.string ⟨#[]⟩,iV 0,iV 0,.string ⟨#[]⟩,iV 0,.string ⟨#[]⟩,iV 0,iV 0,.string ⟨#[]⟩])):=OU
theorem Bl:Sz prog 216 11=true:=OU
theorem BL:Tn prog 213 5=true:=OU
theorem AM:Fld prog 213 3 3=true:=OU
theorem GK:Fld prog 213 4 4=true:=OU
theorem jP:Sl prog 146 9 1=true:=OU
theorem E5:madeCells (Value.string ⟨#[]⟩:Value).cells (1*1) = #[.string ⟨#[]⟩]:=OU
theorem uX:(prog.info? 9).map (·.zero)=some (some (.string ⟨#[]⟩)):=OU
theorem MW:(prog.info? 9).map (fun i=>(i.zero,i.size,i.bytes))=some (some (.string ⟨#[]⟩),1,16):=OU
theorem HM:Fld prog 87 3 3=true:=OU
theorem KQ:Sl prog 84 173 11=true:=OU
theorem MQ:Tn prog 173 11=true:=OU
theorem uU:(prog.info? 173).map (·.zero)=some (some (.agg #[iV 0,iV 0,.string ⟨#[]⟩,iV 0,iV 0,.string ⟨#[]⟩,iV 0,.string ⟨#[]⟩,iV 0,iV 0,.string ⟨#[]⟩])):=OU
theorem zh:Sz prog 173 11=true:=OU
theorem C9:madeCells (Value.agg #[iV 0,.string ⟨#[]⟩,iV 0,iV 0,.string ⟨#[]⟩]:Value).cells (2*5) = #[iV 0,.string ⟨#[]⟩,iV 0,iV 0,.string ⟨#[]⟩,iV 0,.string ⟨#[]⟩,iV 0,iV 0,.string ⟨#[]⟩]:=OU
theorem Hz:Fld prog 87 4 4=true:=OU
theorem KU:Sl prog 85 213 5=true:=OU
theorem vm:(prog.info? 213).map (·.zero)=some (some (.agg #[iV 0,.string ⟨#[]⟩,.slice none 0 0,iV 0,.string ⟨#[]⟩])):=OU
theorem uR:Sz prog 213 5=true:=OU
theorem Km:Fun prog 164=true:=OU
theorem FN:Sl prog 24 87 5=true:=OU
theorem yE:Fld prog 26 1 1=true:=OU
theorem Lr:T1 prog 24=true:=OU
theorem Jm:Fun prog 170=true:=OU
theorem wv:(prog.info? 87).map (·.zero)=some (some (.agg #[.string ⟨#[]⟩,iV 0,.slice none 0 0,.slice none 0 0,.slice none 0 0])):=OU
theorem zK:Sz prog 87 5=true:=OU
theorem CJ:Tn prog 26 2=true:=OU
theorem II:Fld prog 52 1 1=true:=OU
theorem jr:Sl prog 50 95 3=true:=OU
theorem pL:Sz prog 95 3=true:=OU
theorem jR:Fld prog 29 0 0=true:=OU
theorem IZ:T1 prog 27=true:=OU
theorem np:Sl prog 27 66 3=true:=OU
theorem zo:Fld prog 29 1 1=true:=OU
theorem qM:(prog.info? 66).map (·.zero)=some (some (.agg #[iV 0,.string ⟨#[]⟩,.slice none 0 0])):=OU
theorem xF:Sz prog 66 3=true:=OU
theorem zp:Fld prog 66 1 1=true:=OU
theorem oU:Tn prog 52 2=true:=OU
theorem Me:Fun prog 63=true:=OU
theorem tq:Fld prog 66 0 0=true:=OU
theorem Dp:(prog.info? 95).map (fun i=>(i.zero,i.size,i.bytes))=some (some (.agg #[iV 0,iV 0,.string ⟨#[]⟩]),3,32):=OU
theorem ni:(prog.info? 52).map (·.zero)=some (some (.agg #[.string ⟨#[]⟩,.slice none 0 0])):=OU
theorem JN:Fun prog 196=true:=OU
theorem ET:Pl prog 52 #[(0,1),(1,1)]=true:=OU
theorem oq:Sz prog 52 2=true:=OU
theorem KC:Fun prog 127=true:=OU
theorem Al:Fld prog 137 3 3=true:=OU
theorem sR:T1 prog 60=true:=OU
theorem bR:Sl prog 60 3 1=true:=OU
theorem GG:Fld prog 137 2 2=true:=OU
theorem yn:madeCells (Value.agg #[.string ⟨#[]⟩,.slice none 0 0,.bool false]:Value).cells (1*3) = #[.string ⟨#[]⟩,.slice none 0 0,.bool false]:=OU
theorem El:(prog.info? 201).map (fun i=>(i.zero,i.size,i.bytes))=some (some (.agg #[.string ⟨#[]⟩,.slice none 0 0,.bool false]),3,48):=OU
theorem Eh:(prog.info? 191).map (·.zero)=some (some (.agg #[.slice none 0 0,.slice none 0 0,.slice none 0 0,.slice none 0 0,.slice none 0 0,.slice none 0 0,iV 0,iV 0])):=OU
theorem Cu:Fld prog 47 1 1=true:=OU
theorem AV:Sl prog 45 141 2=true:=OU
theorem HS:Tn prog 141 2=true:=OU
theorem jq:Fld prog 35 0 0=true:=OU
theorem yx:T1 prog 32=true:=OU
theorem oV:Tn prog 29 2=true:=OU
theorem Ey:Fun prog 115=true:=OU
theorem LR:Pl prog 191 #[(0,1),(1,1),(2,2),(4,1),(5,2),(7,1)]=true:=OU
theorem IP:Sz prog 191 8=true:=OU
theorem I9:Tn prog 191 8=true:=OU
theorem pU:Sl prog 61 97 4=true:=OU
theorem wa:(prog.info? 97).map (·.zero)=some (some (.agg #[.string ⟨#[]⟩,iV 0,iV 0,.string ⟨#[]⟩])):=OU
theorem Dg:(prog.info? 97).map (fun i=>(i.zero,i.size,i.bytes))=some (some (.agg #[.string ⟨#[]⟩,iV 0,iV 0,.string ⟨#[]⟩]),4,48):=OU
theorem Lf:Tn prog 97 4=true:=OU
theorem MZ:Sz prog 97 4=true:=OU
theorem Ib:Fld prog 97 0 0=true:=OU
theorem HH:Fld prog 97 1 1=true:=OU
theorem Jt:Fun prog 222=true:=OU
theorem Lh:Pl prog 97 #[(0,1),(1,3)]=true:=OU
theorem EE:madeCells (Value.agg #[.string ⟨#[]⟩,iV 0,iV 0,.string ⟨#[]⟩]:Value).cells (1*4) = #[.string ⟨#[]⟩,iV 0,iV 0,.string ⟨#[]⟩]:=OU
theorem FM:Fun prog 184=true:=OU
theorem dl:Sl prog 101 105 2=true:=OU
theorem DJ:Tn prog 105 2=true:=OU
theorem gS:(prog.info? 105).map (·.zero)=some (some (.agg #[.slice none 0 0,.slice none 0 0])):=OU
theorem nI:Sz prog 105 2=true:=OU
theorem ue:Fld prog 105 0 0=true:=OU
theorem u9:Fld prog 105 1 1=true:=OU
theorem zM:Sz prog 3 1=true:=OU
theorem tz:madeCells (Value.agg #[.slice none 0 0,.slice none 0 0]:Value).cells (0*2) = #[]:=OU
theorem rd:(prog.info? 105).map (fun i=>(i.zero,i.size,i.bytes))=some (some (.agg #[.slice none 0 0,.slice none 0 0]),2,48):=OU
theorem mj:(prog.info? 3).map (·.zero)=some (some (iV 0)):=OU
theorem tt:(prog.info? 3).map (fun i=>(i.zero,i.size,i.bytes))=some (some (iV 0),1,8):=OU
theorem wM:Fun prog 56=true:=OU
theorem kL:madeCells (Value.int .i64 0:Value).cells (1*1) = #[iV 0]:=OU
theorem DW:Pl prog 105 #[(0,1),(1,1)]=true:=OU
theorem w9:madeCells (Value.agg #[.slice none 0 0,.slice none 0 0]:Value).cells (1*2) = #[.slice none 0 0,.slice none 0 0]:=OU
theorem sO:Sz prog 60 1=true:=OU
theorem qf:Sl prog 98 103 1=true:=OU
theorem fk:Fld prog 103 0 0=true:=OU
theorem xk:T1 prog 101=true:=OU
theorem EL:Fun prog 179=true:=OU
theorem zB:Sz prog 101 1=true:=OU
theorem KJ:Fun prog 197=true:=OU
theorem wT:Fld prog 141 0 0=true:=OU
theorem rn:Sl prog 32 133 1=true:=OU
theorem jx:Fld prog 133 0 0=true:=OU
theorem pC:Fld prog 47 0 0=true:=OU
theorem IN:T1 prog 44=true:=OU
theorem Ar:Sl prog 44 137 4=true:=OU
theorem uW:Tn prog 137 4=true:=OU
theorem nL:(prog.info? 137).map (·.zero)=some (some (.agg #[.string ⟨#[]⟩,iV 0,.slice none 0 0,.slice none 0 0])):=OU
theorem rZ:Sz prog 137 4=true:=OU
theorem vK:Fld prog 35 1 1=true:=OU
theorem AC:Sl prog 33 100 1=true:=OU
theorem BP:Tn prog 100 1=true:=OU
theorem ny:(prog.info? 100).map (·.zero)=some (some (.agg #[.slice none 0 0])):=OU
theorem ve:Sz prog 100 1=true:=OU
theorem Da:Tn prog 47 2=true:=OU
theorem uO:Tn prog 35 2=true:=OU
theorem Kk:Fun prog 133=true:=OU
theorem iA:Fld prog 100 0 0=true:=OU
theorem AX:T1 prog 98=true:=OU
theorem FC:Fun prog 134=true:=OU
theorem I4:Pl prog 137 #[(0,1),(1,1),(2,1),(3,1)]=true:=OU
theorem B8:madeCells (Value.agg #[iV 0,iV 0,.string ⟨#[]⟩]:Value).cells (1*3) = #[iV 0,iV 0,.string ⟨#[]⟩]:=OU
theorem Fe:Sz prog 50 1=true:=OU
theorem M9:Fun prog 85=true:=OU
theorem Cj:madeCells (Value.agg #[.string ⟨#[]⟩,iV 0,.slice none 0 0,.slice none 0 0]:Value).cells (1*4) = #[.string ⟨#[]⟩,iV 0,.slice none 0 0,.slice none 0 0]:=OU
theorem J7:(prog.info? 137).map (fun i=>(i.zero,i.size,i.bytes))=some (some (.agg #[.string ⟨#[]⟩,iV 0,.slice none 0 0,.slice none 0 0]),4,72):=OU
theorem Lg:Sz prog 44 1=true:=OU
theorem tl:(prog.info? 47).map (·.zero)=some (some (.agg #[.slice none 0 0,.slice none 0 0])):=OU
theorem sc:(prog.info? 141).map (·.zero)=some (some (.agg #[.slice none 0 0,.slice none 0 0])):=OU
theorem B4:Fld prog 141 1 1=true:=OU
theorem Ch:madeCells (Value.agg #[.slice none 0 0,.slice none 0 0]:Value).cells (1*2) = #[.slice none 0 0,.slice none 0 0]:=OU
theorem IX:(prog.info? 141).map (fun i=>(i.zero,i.size,i.bytes))=some (some (.agg #[.slice none 0 0,.slice none 0 0]),2,48):=OU
theorem L0:Sz prog 45 1=true:=OU
theorem w4:Sz prog 47 2=true:=OU
theorem mM:(prog.info? 35).map (·.zero)=some (some (.agg #[.slice none 0 0,.slice none 0 0])):=OU
theorem tM:(prog.info? 133).map (·.zero)=some (some (.agg #[.slice none 0 0])):=OU
theorem M5:By prog 133 24=true:=OU
theorem KT:Pl prog 35 #[(0,1),(1,1)]=true:=OU
theorem oC:Sz prog 35 2=true:=OU
theorem zA:Sz prog 141 2=true:=OU
theorem rY:(prog.info? 103).map (·.zero)=some (some (.agg #[.slice none 0 0])):=OU
theorem Mo:By prog 103 24=true:=OU
theorem I8:Pl prog 100 #[(0,1)]=true:=OU
theorem yH:madeCells (Value.agg #[.slice none 0 0]:Value).cells (1*1) = #[.slice none 0 0]:=OU
theorem DX:(prog.info? 100).map (fun i=>(i.zero,i.size,i.bytes))=some (some (.agg #[.slice none 0 0]),1,24):=OU
theorem HO:Sz prog 33 1=true:=OU
theorem I3:Pl prog 29 #[(0,1),(1,1)]=true:=OU
theorem sU:(prog.info? 29).map (·.zero)=some (some (.agg #[.slice none 0 0,iV 0])):=OU
theorem Mn:Fun prog 68=true:=OU
theorem Ia:Tn prog 133 1=true:=OU
theorem Ej:Sz prog 133 1=true:=OU
theorem DB:Tn prog 103 1=true:=OU
theorem Bj:Sz prog 103 1=true:=OU
theorem NY:Fun prog 259=true:=OU
theorem OM:Ik prog 278 .u32=true:=OU
theorem LI:Ik prog 5 .u8=true:=OU
theorem zG:Ik prog 3 .i64=true:=OU
theorem Ok:Ik prog 280 .u64=true:=OU
theorem tw:Ik prog 249 .u64=true:=OU
theorem Oz:T1 prog 282=true:=OU
theorem Ox:Sz prog 282 1=true:=OU
theorem OJ:Ik prog 282 .u64=true:=OU
theorem OL:(prog.info? 282).map (·.zero)=some (some (.int .u64 0)):=OU
theorem NU:Fun prog 268=true:=OU
theorem O4:Fun prog 263=true:=OU
theorem NX:Fun prog 262=true:=OU
theorem O0:Fun prog 242=true:=OU
theorem NW:Fun prog 243=true:=OU
theorem O7:Fun prog 245=true:=OU
theorem NV:Fun prog 248=true:=OU
theorem NT:Fun prog 249=true:=OU
theorem O5:Fun prog 220=true:=OU
theorem NZ:Fun prog 247=true:=OU
theorem O6:Fun prog 246=true:=OU
theorem O3:Fun prog 244=true:=OU
theorem Iv:madeCells (Value.int .i64 0:Value).cells (2*1) = #[iV 0,iV 0]:=OU
theorem FH:Fun prog 181=true:=OU
theorem JV:Fun prog 183=true:=OU
theorem Kc:Fun prog 114=true:=OU
theorem Kx:Fun prog 110=true:=OU
theorem Jw:Fun prog 112=true:=OU
theorem MD:Fun prog 42=true:=OU
theorem ik:Sl prog 41 63 3=true:=OU
theorem kF:Tn prog 63 3=true:=OU
theorem xD:(prog.info? 63).map (·.zero)=some (some (.agg #[iV 0,.slice none 0 0,.slice none 0 0])):=OU
theorem tg:Sz prog 63 3=true:=OU
theorem Hi:Fld prog 63 1 1=true:=OU
theorem MF:EqT prog 97 [.s,.i .i64,.i .i64,.s]=true:=OU
theorem LG:Fun prog 51=true:=OU
theorem MP:madeCells (Value.int .i64 0:Value).cells (3*1) = #[iV 0,iV 0,iV 0]:=OU
theorem Bv:Fun prog 253=true:=OU
theorem ya:Fun prog 188=true:=OU
theorem JQ:Fun prog 225=true:=OU
theorem EJ:Fun prog 187=true:=OU
theorem JU:Fun prog 118=true:=OU
theorem Lt:Pl prog 63 #[(0,1),(1,1),(2,1)]=true:=OU
theorem Bb:madeCells (Value.agg #[iV 0,.slice none 0 0,.slice none 0 0]:Value).cells (1*3) = #[iV 0,.slice none 0 0,.slice none 0 0]:=OU
theorem FY:(prog.info? 63).map (fun i=>(i.zero,i.size,i.bytes))=some (some (.agg #[iV 0,.slice none 0 0,.slice none 0 0]),3,56):=OU
theorem Mi:Fun prog 58=true:=OU
theorem MX:T1 prog 41=true:=OU
theorem Np:Sz prog 41 1=true:=OU
theorem ES:Fun prog 190=true:=OU
theorem N6:(prog.info? 41).map (·.zero)=some (some (.slice none 0 0)):=OU
theorem OI:T1 prog 5=true:=OU
theorem LY:Pl prog 144 #[(0,1),(1,1),(2,1)]=true:=OU
theorem Mt:(prog.info? 144).map (·.zero)=some (some (.agg #[.slice none 0 0,iV 0,iV 0])):=OU
theorem Ak:Fld prog 144 2 2=true:=OU
theorem Ge:Fld prog 144 1 1=true:=OU
theorem MU:Fun prog 75=true:=OU
theorem Br:madeCells (Value.string ⟨#[]⟩:Value).cells (2*1) = #[.string ⟨#[]⟩,.string ⟨#[]⟩]:=OU
theorem KH:Fun prog 126=true:=OU
theorem Bx:madeCells (Value.string ⟨#[]⟩:Value).cells (4*1) = #[.string ⟨#[]⟩,.string ⟨#[]⟩,.string ⟨#[]⟩,.string ⟨#[]⟩]:=OU
theorem Mr:Pl prog 201 #[(0,1),(1,1),(2,1)]=true:=OU
theorem JO:Fun prog 205=true:=OU
theorem HW:madeCells (Value.agg #[iV 0,.string ⟨#[]⟩,iV 0,iV 0,.string ⟨#[]⟩]:Value).cells (1*5) = #[iV 0,.string ⟨#[]⟩,iV 0,iV 0,.string ⟨#[]⟩]:=OU
theorem Lx:(prog.info? 171).map (fun i=>(i.zero,i.size,i.bytes))=some (some (.agg #[iV 0,.string ⟨#[]⟩,iV 0,iV 0,.string ⟨#[]⟩]),5,56):=OU
theorem My:Sz prog 199 1=true:=OU
theorem MJ:Pl prog 173 #[(0,1),(1,5),(6,5)]=true:=OU
theorem LB:Pl prog 216 #[(0,1),(1,5),(6,5)]=true:=OU
theorem MR:Sz prog 9 1=true:=OU
theorem M1:madeCells (Value.int .i64 0:Value).cells (8*1) = #[iV 0,iV 0,iV 0,iV 0,iV 0,iV 0,iV 0,iV 0]:=OU
theorem Mz:Pl prog 213 #[(0,1),(1,1),(2,1),(3,1),(4,1)]=true:=OU
theorem MI:madeCells (Value.string ⟨#[]⟩:Value).cells (5*1) = #[.string ⟨#[]⟩,.string ⟨#[]⟩,.string ⟨#[]⟩,.string ⟨#[]⟩,.string ⟨#[]⟩]:=OU
theorem JP:Fun prog 209=true:=OU
theorem HC:madeCells (Value.agg #[.string ⟨#[]⟩,iV 0,.string ⟨#[]⟩,iV 0,iV 0,.string ⟨#[]⟩,iV 0,.string ⟨#[]⟩,iV 0,iV 0,.string ⟨#[]⟩]:Value).cells (1*11) = #[.string ⟨#[]⟩,iV 0,.string ⟨#[]⟩,iV 0,iV 0,.string ⟨#[]⟩,iV 0,.string ⟨#[]⟩,iV 0,iV 0,.string ⟨#[]⟩]:=OU
theorem MC:(prog.info? 216).map (fun i=>(i.zero,i.size,i.bytes))=some (some (.agg #[.string ⟨#[]⟩,iV 0,.string ⟨#[]⟩,iV 0,iV 0,.string ⟨#[]⟩,iV 0,.string ⟨#[]⟩,iV 0,iV 0,.string ⟨#[]⟩]),11,128):=OU
theorem Mf:Sz prog 211 1=true:=OU
theorem LC:madeCells (Value.int .i64 0:Value).cells (4*1) = #[iV 0,iV 0,iV 0,iV 0]:=OU
theorem Mw:madeCells (Value.int .i64 0:Value).cells (5*1) = #[iV 0,iV 0,iV 0,iV 0,iV 0]:=OU
theorem Ns:Pl prog 87 #[(0,1),(1,1),(2,1),(3,1),(4,1)]=true:=OU
theorem FA:Fun prog 150=true:=OU
theorem Lc:Sz prog 83 1=true:=OU
theorem Ih:madeCells (Value.agg #[iV 0,.string ⟨#[]⟩,.slice none 0 0,iV 0,.string ⟨#[]⟩]:Value).cells (1*5) = #[iV 0,.string ⟨#[]⟩,.slice none 0 0,iV 0,.string ⟨#[]⟩]:=OU
theorem MH:(prog.info? 213).map (fun i=>(i.zero,i.size,i.bytes))=some (some (.agg #[iV 0,.string ⟨#[]⟩,.slice none 0 0,iV 0,.string ⟨#[]⟩]),5,72):=OU
theorem N9:Sz prog 85 1=true:=OU
theorem I5:madeCells (Value.agg #[iV 0,iV 0,.string ⟨#[]⟩,iV 0,iV 0,.string ⟨#[]⟩,iV 0,.string ⟨#[]⟩,iV 0,iV 0,.string ⟨#[]⟩]:Value).cells (1*11) = #[iV 0,iV 0,.string ⟨#[]⟩,iV 0,iV 0,.string ⟨#[]⟩,iV 0,.string ⟨#[]⟩,iV 0,iV 0,.string ⟨#[]⟩]:=OU
theorem MV:(prog.info? 173).map (fun i=>(i.zero,i.size,i.bytes))=some (some (.agg #[iV 0,iV 0,.string ⟨#[]⟩,iV 0,iV 0,.string ⟨#[]⟩,iV 0,.string ⟨#[]⟩,iV 0,iV 0,.string ⟨#[]⟩]),11,120):=OU
theorem NS:Sz prog 84 1=true:=OU
theorem yC:(prog.info? 26).map (·.zero)=some (some (.agg #[.string ⟨#[]⟩,.slice none 0 0])):=OU
theorem Mc:madeCells (Value.string ⟨#[]⟩:Value).cells (3*1) = #[.string ⟨#[]⟩,.string ⟨#[]⟩,.string ⟨#[]⟩]:=OU
theorem Nl:Pl prog 26 #[(0,1),(1,1)]=true:=OU
theorem B1:Sz prog 26 2=true:=OU
theorem Ly:Fun prog 89=true:=OU
theorem Kj:madeCells (Value.agg #[.string ⟨#[]⟩,iV 0,.slice none 0 0,.slice none 0 0,.slice none 0 0]:Value).cells (1*5) = #[.string ⟨#[]⟩,iV 0,.slice none 0 0,.slice none 0 0,.slice none 0 0]:=OU
theorem N8:(prog.info? 87).map (fun i=>(i.zero,i.size,i.bytes))=some (some (.agg #[.string ⟨#[]⟩,iV 0,.slice none 0 0,.slice none 0 0,.slice none 0 0]),5,96):=OU
theorem NM:Sz prog 24 1=true:=OU
theorem Jc:Fun prog 108=true:=OU
theorem Jj:Fun prog 203=true:=OU
theorem Nz:Pl prog 47 #[(0,1),(1,1)]=true:=OU
theorem Mh:Pl prog 141 #[(0,1),(1,1)]=true:=OU
theorem JG:madeCells (Value.agg #[iV 0,.string ⟨#[]⟩,.slice none 0 0]:Value).cells (0*3) = #[]:=OU
theorem Bd:madeCells (Value.agg #[iV 0,.string ⟨#[]⟩,.slice none 0 0]:Value).cells (1*3) = #[iV 0,.string ⟨#[]⟩,.slice none 0 0]:=OU
theorem EW:(prog.info? 66).map (fun i=>(i.zero,i.size,i.bytes))=some (some (.agg #[iV 0,.string ⟨#[]⟩,.slice none 0 0]),3,48):=OU
theorem FT:Sz prog 27 1=true:=OU
theorem M7:Fun prog 48=true:=OU
theorem Ku:Fun prog 154=true:=OU
theorem Lo:Pl prog 66 #[(0,1),(1,2)]=true:=OU
theorem Ii:Pl prog 133 #[(0,1)]=true:=OU
theorem CU:madeCells (Value.agg #[.slice none 0 0]:Value).cells (1*1) = #[.slice none 0 0]:=OU
theorem IY:(prog.info? 133).map (fun i=>(i.zero,i.size,i.bytes))=some (some (.agg #[.slice none 0 0]),1,24):=OU
theorem Ll:Sz prog 32 1=true:=OU
theorem LD:Pl prog 103 #[(0,1)]=true:=OU
theorem Dv:madeCells (Value.agg #[.slice none 0 0]:Value).cells (1*1) = #[.slice none 0 0]:=OU
theorem Hv:(prog.info? 103).map (fun i=>(i.zero,i.size,i.bytes))=some (some (.agg #[.slice none 0 0]),1,24):=OU
theorem KX:Sz prog 98 1=true:=OU
theorem EG:Fun prog 191=true:=OU
theorem EC:Fun prog 235=true:=OU
theorem Kq:Fun prog 228=true:=OU
theorem KA:Fun prog 229=true:=OU
theorem FQ:Fun prog 193=true:=OU
theorem M8:Fun prog 46=true:=OU
theorem ON:By prog 3 8=true:=OU
theorem Es:Sl prog 242 4 1=true:=OU
theorem EU:Fun prog 230=true:=OU
theorem Ki:Fun prog 231=true:=OU
theorem Nd:(prog.info? 4).map (·.zero)=some (some (.bool false)):=OU
theorem KL:Fun prog 194=true:=OU
theorem Mp:madeCells (Value.bool false:Value).cells (1*1) = #[.bool false]:=OU
theorem Ol:(prog.info? 4).map (fun i=>(i.zero,i.size,i.bytes))=some (some (.bool false),1,1):=OU
theorem JK:Fun prog 195=true:=OU
theorem vF:Sz prog 29 2=true:=OU
theorem LV:Fun prog 87=true:=OU
theorem Je:Fun prog 198=true:=OU
theorem KG:Fun prog 199=true:=OU
theorem KE:Fun prog 137=true:=OU
theorem K8:Fun prog 138=true:=OU
theorem Jx:Fun prog 140=true:=OU
theorem Jr:Fun prog 139=true:=OU
theorem Mj:Fun prog 24=true:=OU
variable {e a:Hp} {g f k j n ad:Value} {a1 l o p ai pG1_0:List Nat} {a6:Nat} (N:Nat)
theorem E7 (w0:aA e a []) (b:(List Int)) (c:RSl (RI .u8) 1 e a1 g b) {r:Bool} (h:y7 N b=some r) :
  CB w0 prog 8 [g] (.bool r):=by
 refine eN func8 J ntmps8 J w0 fun d=>?_
 unfold y7 at h
 refine atr 7 [] J<|lnr c J<|art 3 [] J ?_
 exact rt d h
theorem tH  (w0:aA e a []) (c:Int)  {r:Bool} (h:kJ N c=some r) :
  CB w0 prog 160 [.int .u8 c] (.bool r):=by
 refine eN func160 J ntmps160 J w0 fun d=>?_
 unfold kJ at h
 refine atr 9 [] J ?_
 obtain⟨i,b,h⟩:=bs h
 refine WL.cutN 3 [(8,.bool i),(2,.bool false)] ?_ (fun K=>?_)
 rotate_left
 ·refine sp 5 b J (fun b=>?_) fun b=>?_
  ·refine arr 3 [] J ?_
   cases b
   exact ku K
  ·refine arr 3 [] J ?_
   cases b
   exact ku K
 refine la J<|en ?_
 exact rt d h
theorem yX  (w0:aA e a []) (c:Int)  {r:Bool} (h:qW N c=some r) :
  CB w0 prog 236 [.int .u8 c] (.bool r):=by
 refine eN func236 J ntmps236 J w0 fun d=>?_
 unfold qW at h
 refine atr 9 [] J ?_
 obtain⟨i,b,h⟩:=bs h
 refine WL.cutN 3 [(8,.bool i),(2,.bool false)] ?_ (fun K=>?_)
 rotate_left
 ·refine sp 5 b J (fun b=>?_) fun b=>?_
  ·refine arr 3 [] J ?_
   cases b
   exact ku K
  ·refine arr 3 [] J ?_
   cases b
   exact ku K
 refine la J<|en ?_
 exact rt d h
theorem qQ  (w0:aA e a []) (c:Int)  {r:Bool} (h:jn N c=some r) :
  CB w0 prog 210 [.int .u8 c] (.bool r):=by
 refine eN func210 J ntmps210 J w0 fun i=>?_
 unfold jn at h
 refine atr 7 [] J<|qc h (tH N · c ·) J J J fun s h=>la J ?_
 obtain⟨m,b,h⟩:=bs h
 refine WL.cutN 3 [(8,.bool m),(0,.int .u8 c),(2,.bool false)] ?_ (fun K=>?_)
 rotate_left
 ·refine sp 5 b J (fun b=>?_) fun b=>?_
  ·refine arr 3 [] J ?_
   cases b
   exact ku K
  ·refine ly J J<|la J<|ly J J<|qc b (yX N · c ·) J J J fun t b=>la J ?_
   cases b
   exact ku K
 refine la J ?_
 obtain⟨q,d,h⟩:=bs h
 refine WL.cutN 3 [(12,.bool q),(2,.bool false)] ?_ (fun K=>?_)
 rotate_left
 ·refine sp 9 d J (fun d=>?_) fun d=>?_
  ·refine arr 3 [] J ?_
   cases d
   exact ku K
  ·refine arr 3 [] J ?_
   cases d
   exact ku K
 refine la J<|en ?_
 exact rt i h
theorem uq  (w0:aA e a []) (b:Qr) (d:Int)  {r:Bool} (h:nP N b d=some r) :
  CB w0 prog 161 [.string b,iV d] (.bool r):=by
 refine eN func161 J ntmps161 J w0 fun c=>?_
 unfold nP at h
 refine atr 8 [] J<|lq (wG to J J) J<|art 3 [] J ?_
 refine ch h J ?_ ?_<;>intro h
 ·refine att 4 [] J ?_
  exact rt c h
 refine att 7 [] J ?_
 refine lin (σ:=Int) (fun s=>[(0,.string b),(5,iV s)]) (fun s=>St w0 a [] []) (fun m s=>fN N b m s=some r) (0) N h (sx [] []) (fun i q s hm=>?_)
 revert hm;revert s;intro s1 hm
 have h:fN N b (i+1) s1=some r:=hm
 show WT _ _ [(0,.string b),(5,iV s1)] (St w0 a [] [])
 unfold fN at h
 refine atr 5 [] J<|lq (wG to J J) J<|la J<|en ?_
 refine ch h J ?_ ?_<;>intro h
 ·refine atr 7 [] J ?_
  obtain⟨t,u,h⟩:=bs h
  refine lq (tG to J J u) J<|qc h (qQ N · (t.toNat:Int) ·) J J J fun v h=>la J<|en ?_
  refine ch h J ?_ ?_<;>intro h
  ·refine att 4 [] J ?_
   exact rt c h
  refine att 7 [] J ?_
  exact lb [] [] (q _ h)
 refine att 5 [] J ?_
 exact rt c h
theorem kr  (w0:aA e a []) (d:Qr)  {r:Bool} (h:ig N d=some r) :
  CB w0 prog 96 [.string d] (.bool r):=by
 refine eN func96 J ntmps96 J w0 fun i=>?_
 unfold ig at h
 refine atr 7 [] J<|lq (wG to J J) J<|arr 2 [] J ?_
 obtain⟨m,b,h⟩:=bs h
 refine WL.cutN 4 [(10,.bool m),(0,.string d),(2,.bool false)] ?_ (fun K=>?_)
 rotate_left
 ·refine sp 6 b J (fun b=>?_) fun b=>?_
  ·refine ly J J<|la J<|ly J J ?_
   obtain⟨q,s,b⟩:=bs b
   refine lq (tG to J J s) J<|ly J J<|qc b (tH N · (q.toNat:Int) ·) J J J fun u b=>la J ?_
   cases b
   exact ku K
  ·refine arr 4 [] J ?_
   cases b
   exact ku K
 refine la J ?_
 obtain⟨t,c,h⟩:=bs h
 refine WL.cutN 3 [(14,.bool t),(2,.bool false)] ?_ (fun K=>?_)
 rotate_left
 ·refine sp 11 c J (fun c=>?_) fun c=>?_
  ·refine ly J J<|la J<|ly J J<|qc c (uq N · d 12 ·) J J J fun v c=>la J ?_
   cases c
   exact ku K
  ·refine arr 3 [] J ?_
   cases c
   exact ku K
 refine la J<|en ?_
 exact rt i h
theorem dS  (w0:aA e a []) (c:Int) (d:Int) (i:Int)  {r:Bool} (h:dL N c d i=some r) :
  CB w0 prog 97 [iV c,iV d,iV i] (.bool r):=by
 refine eN func97 J ntmps97 J w0 fun m=>?_
 unfold dL at h
 refine atr 10 [] J ?_
 obtain⟨q,b,h⟩:=bs h
 refine WL.cutN 4 [(14,.bool q),(6,.bool false)] ?_ (fun K=>?_)
 rotate_left
 ·refine sp 10 b J (fun b=>?_) fun b=>?_
  ·refine arr 4 [] J ?_
   cases b
   exact ku K
  ·refine arr 4 [] J ?_
   cases b
   exact ku K
 refine la J<|en ?_
 exact rt m h
theorem oM (w0:aA e a []) (b:ah) (c:RSl cX 3 e l f b.Pats) (w:RSl cL 11 e o k b.Conds) (x:RSl ij 5 e p j b.Acts) {r:Int} (h:jK N b=some r) :
  CB w0 prog 165 [.agg [.string b.Name,iV b.Sal,f,k,j].toArray] (iV r):=by
 refine eN func165 J ntmps165 J w0 fun q=>?_
 unfold jK at h
 refine sr<|lbx J fun y=>arr 11 [2,0] J<|lnr c J<|art 3 [] J ?_
 refine lin (σ:=Int × Int) (fun s=>[(3,iV s.1),(7,f),(8,iV (b.Pats.length:Int)),(9,iV s.2)]) (fun s=>St w0 a [] []) (fun m s=>eC N b m s.1 s.2=some r) (0,0) N h (sx [] []) (fun t d s hm=>?_)
 obtain⟨s1,s2⟩:=s
 have h:eC N b (t+1) s1 s2=some r:=hm
 show WT _ _ [(3,iV s1),(7,f),(8,iV (b.Pats.length:Int)),(9,iV s2)] (St w0 a [] [])
 unfold eC at h
 refine att 5 [] J ?_
 refine ch h J ?_ ?_<;>intro h
 ·refine atr 5 [] J ?_
  obtain⟨z,i,h⟩:=bs h
  obtain⟨A,B,-,g1,C,D,u⟩:=c.el (a8 i).2.2
  obtain⟨v1,E,rfl,v,h1⟩:=u
  obtain rfl:=v.symm
  refine lia c i J<|lhx 0 3 g1 J<|lnz mi J fun F=>soN 0 pX J ⟨J,h1.one,J,trivial⟩ J ?_
  refine art 7 [2,0] J ?_
  refine ch h J ?_ ?_<;>intro h
  ·refine att 10 [] J ?_
   exact lb [] [] (d (_,_) h)
  refine att 6 [] J ?_
  exact lb [] [] (d (_,_) h)
 refine att 6 [] J ?_
 exact rt q h
theorem vG  (w0:aA e a []) (c:bP)  {r:Bool} (h:po N c=some r) :
  CB w0 prog 128 [.agg [iV c.K,iV c.N,.string c.S].toArray] (.bool r):=by
 refine eN func128 J ntmps128 J w0 fun i=>?_
 unfold po at h
 refine sr<|lbx J fun s=>art 14 [0,0] J ?_
 refine ch h J ?_ ?_<;>intro h
 ·refine atr 4 [1,0] J<|qc h (dS N · c.N (-1000000000) 1000000000 ·) J J J fun t h=>la J ?_
  obtain⟨m,d,h⟩:=bs h
  refine WL.cutN 4 [(14,.bool m),(2,.bool false)] ?_ (fun K=>?_)
  rotate_left
  ·refine sp 10 d J (fun d=>?_) fun d=>?_
   ·refine arr 4 [2,0] J ?_
    cases d
    exact ku K
   ·refine arr 4 [] J ?_
    cases d
    exact ku K
  refine la J<|en ?_
  exact rt i h
 refine att 5 [] J ?_
 refine ch h J ?_ ?_<;>intro h
 ·refine atr 6 [1,0] J ?_
  obtain⟨q,b,h⟩:=bs h
  refine WL.cutN 4 [(24,.bool q),(2,.bool false)] ?_ (fun K=>?_)
  rotate_left
  ·refine sp 20 b J (fun b=>?_) fun b=>?_
   ·refine arr 2 [2,0] J<|ly J J<|qc b (uq N · c.S 20 ·) J J J fun u b=>la J ?_
    cases b
    exact ku K
   ·refine arr 4 [] J ?_
    cases b
    exact ku K
  refine la J<|en ?_
  exact rt i h
 refine att 6 [] J ?_
 exact rt i h
theorem tb  (w0:aA e a []) (c:Int)  {r:Bool} (h:mo N c=some r) :
  CB w0 prog 267 [.int .u8 c] (.bool r):=by
 refine eN func267 J ntmps267 J w0 fun d=>?_
 unfold mo at h
 refine atr 9 [] J ?_
 obtain⟨i,b,h⟩:=bs h
 refine WL.cutN 3 [(8,.bool i),(2,.bool false)] ?_ (fun K=>?_)
 rotate_left
 ·refine sp 5 b J (fun b=>?_) fun b=>?_
  ·refine arr 3 [] J ?_
   cases b
   exact ku K
  ·refine arr 3 [] J ?_
   cases b
   exact ku K
 refine la J<|en ?_
 exact rt d h
theorem BA  (w0:aA e a []) (b:Qr)  {r:Bool} (h:rI N b=some r) :
  CB w0 prog 256 [.string b] (.bool r):=by
 refine eN func256 J ntmps256 J w0 fun q=>?_
 unfold rI at h
 refine atr 8 [] J<|lq (wG to J J) J<|arr 2 [] J ?_
 obtain⟨t,i,h⟩:=bs h
 refine WL.cutN 4 [(11,.bool t),(0,.string b)] ?_ (fun K=>?_)
 rotate_left
 ·refine sp 7 i J (fun i=>?_) fun i=>?_
  ·refine arr 4 [] J ?_
   cases i
   exact ku K
  ·refine ly J J<|la J<|ly J J<|lq (wG to J J) J<|arr 2 [] J ?_
   cases i
   exact ku K
 refine la J ?_
 obtain⟨u,c,h⟩:=bs h
 refine WL.cutN 5 [(17,.bool u),(0,.string b)] ?_ (fun K=>?_)
 rotate_left
 ·refine sp 12 c J (fun c=>?_) fun c=>?_
  ·refine arr 5 [] J ?_
   cases c
   exact ku K
  ·refine ly J J<|la J<|ly J J ?_
   obtain⟨v,w,c⟩:=bs c
   refine lq (tG to J J w) J<|ly J J<|qc c (tb N · (v.toNat:Int) ·) J J J fun E c=>arr 2 [] J ?_
   cases c
   exact ku K
 refine en ?_
 refine ch h J ?_ ?_<;>intro h
 ·refine att 4 [] J ?_
  exact rt q h
 refine att 7 [] J ?_
 refine lin (σ:=Int) (fun s=>[(0,.string b),(3,iV s)]) (fun s=>St w0 a [] []) (fun m s=>iI N b m s=some r) (0) N h (sx [] []) (fun x y s hm=>?_)
 revert hm;revert s;intro s1 hm
 have h:iI N b (x+1) s1=some r:=hm
 show WT _ _ [(0,.string b),(3,iV s1)] (St w0 a [] [])
 unfold iI at h
 refine atr 5 [] J<|lq (wG to J J) J<|la J<|en ?_
 refine ch h J ?_ ?_<;>intro h
 ·refine atr 7 [] J ?_
  obtain⟨z,A,h⟩:=bs h
  refine lq (tG to J J A) J<|qc h (qQ N · (z.toNat:Int) ·) J J J fun F h=>arr 2 [] J ?_
  obtain⟨B,d,h⟩:=bs h
  refine WL.cutN 6 [(35,.bool B),(0,.string b),(3,iV s1)] ?_ (fun K=>?_)
  rotate_left
  ·refine sp 29 d J (fun d=>?_) fun d=>?_
   ·refine arr 2 [] J<|ly J J ?_
    obtain⟨C,D,d⟩:=bs d
    refine lq (tG to J J D) J<|ly J J<|qc d (tb N · (C.toNat:Int) ·) J J J fun G d=>arr 2 [] J ?_
    cases d
    exact ku K
   ·refine arr 6 [] J ?_
    cases d
    exact ku K
  refine en ?_
  refine ch h J ?_ ?_<;>intro h
  ·refine att 4 [] J ?_
   exact rt q h
  refine att 7 [] J ?_
  exact lb [] [] (y _ h)
 refine att 5 [] J ?_
 exact rt q h
theorem wn  (w0:aA e a []) (b:cO)  {r:Bool} (h:pn N b=some r) :
  CB w0 prog 237 [.agg [iV b.K,.string b.S,iV b.V.K,iV b.V.N,.string b.V.S].toArray] (.bool r):=by
 refine eN func237 J ntmps237 J w0 fun m=>?_
 unfold pn at h
 refine sr<|lbx J fun u=>art 14 [0,0] J ?_
 refine ch h J ?_ ?_<;>intro h
 ·refine atr 4 [1,0] J<|qc h (BA N · b.S ·) J J J fun v h=>la J ?_
  obtain⟨q,d,h⟩:=bs h
  refine WL.cutN 5 [(15,.bool q),(2,.bool false)] ?_ (fun K=>?_)
  rotate_left
  ·refine sp 10 d J (fun d=>?_) fun d=>?_
   ·refine arr 2 [2,3] J<|ly J J<|lq (bE (vs:=[]) (C:=#[iV 0,iV 0,.string (⟨#[]⟩:Qr)]) xI kW J (af)) J<|ly J J<|lq (Ez oN J J J (r:=bS b.V (⟨0,0,(⟨#[]⟩:Qr)⟩:bP)) J) J<|la J ?_
    cases d
    exact ku K
   ·refine arr 5 [] J ?_
    cases d
    exact ku K
  refine la J<|en ?_
  exact rt m h
 refine att 5 [] J ?_
 refine ch h J ?_ ?_<;>intro h
 ·refine atr 6 [1,0] J ?_
  obtain⟨s,c,h⟩:=bs h
  refine WL.cutN 4 [(25,.bool s),(2,.bool false)] ?_ (fun K=>?_)
  rotate_left
  ·refine sp 21 c J (fun c=>?_) fun c=>?_
   ·refine arr 2 [2,3] J<|ly J J<|qc c (vG N · b.V ·) J J J fun w c=>la J ?_
    cases c
    exact ku K
   ·refine arr 4 [] J ?_
    cases c
    exact ku K
  refine la J<|en ?_
  exact rt m h
 refine att 5 [] J ?_
 refine ch h J ?_ ?_<;>intro h
 ·refine atr 6 [1,0] J ?_
  obtain⟨t,i,h⟩:=bs h
  refine WL.cutN 5 [(36,.bool t),(2,.bool false)] ?_ (fun K=>?_)
  rotate_left
  ·refine sp 31 i J (fun i=>?_) fun i=>?_
   ·refine arr 2 [2,3] J<|ly J J<|lq (bE (vs:=[]) (C:=#[iV 0,iV 0,.string (⟨#[]⟩:Qr)]) xI kW J (af)) J<|ly J J<|lq (Ez oN J J J (r:=bS b.V (⟨0,0,(⟨#[]⟩:Qr)⟩:bP)) J) J<|la J ?_
    cases i
    exact ku K
   ·refine arr 5 [] J ?_
    cases i
    exact ku K
  refine la J<|en ?_
  exact rt m h
 refine att 6 [] J ?_
 exact rt m h
theorem BK (w0:aA e a []) (b:az) (d:RSl fu 5 e l f b.Args) {r:Bool} (h:rK N b=some r) :
  CB w0 prog 211 [.agg [.string b.Kind,f,.bool b.Not].toArray] (.bool r):=by
 refine eN func211 J ntmps211 J w0 fun i=>?_
 unfold rK at h
 refine sr<|lbx J fun t=>arr 7 [0,0] J<|qc h (kr N · b.Kind ·) J J J fun z h=>arr 2 [] J ?_
 obtain⟨u,c,h⟩:=bs h
 refine WL.cutN 5 [(14,.bool u),(1,pQ t)] ?_ (fun K=>?_)
 rotate_left
 ·refine sp 9 c J (fun c=>?_) fun c=>?_
  ·refine arr 5 [] J ?_
   cases c
   exact ku K
  ·refine arr 2 [1,0] J<|ly J J<|lnr d J<|arr 2 [] J ?_
   cases c
   exact ku K
 refine en ?_
 refine ch h J ?_ ?_<;>intro h
 ·refine att 4 [] J ?_
  exact rt i h
 refine atr 6 [1,0] J<|lnr d J<|art 3 [] J ?_
 refine lin (σ:=Int) (fun s=>[(16,f),(17,iV (b.Args.length:Int)),(18,iV s)]) (fun s=>St w0 a [] []) (fun m s=>iM N b m s=some r) (0) N h (sx [] []) (fun v w s hm=>?_)
 revert hm;revert s;intro s1 hm
 have h:iM N b (v+1) s1=some r:=hm
 show WT _ _ [(16,f),(17,iV (b.Args.length:Int)),(18,iV s1)] (St w0 a [] [])
 unfold iM at h
 refine att 5 [] J ?_
 refine ch h J ?_ ?_<;>intro h
 ·refine atr 5 [] J ?_
  obtain⟨x,q,h⟩:=bs h
  obtain⟨A,B,-,g1,C,D,y⟩:=d.el (a8 q).2.2
  obtain⟨rfl,-⟩:=y
  refine lia d q J<|lhx 0 5 g1 J<|lnz kY J fun E=>soN 0 jm J ⟨J,J,J,J,J,trivial⟩ J ?_
  refine arr 4 [5] J<|qc h (wn N · x ·) J J J fun F h=>la J<|en ?_
  refine ch h J ?_ ?_<;>intro h
  ·refine att 4 [] J ?_
   exact rt i h
  refine att 6 [] J ?_
  exact lb [] [] (w _ h)
 refine att 5 [] J ?_
 exact rt i h
theorem Ac (w0:aA e a []) (b:ah) (t:RSl cX 3 e l f b.Pats) (y:RSl cL 11 e o k b.Conds) (z:RSl ij 5 e p j b.Acts) {r:Bool} (h:pR N b=some r) :
  CB w0 prog 162 [.agg [.string b.Name,iV b.Sal,f,k,j].toArray] (.bool r):=by
 refine eN func162 J ntmps162 J w0 fun v=>?_
 unfold pR at h
 refine sr<|lbx J fun u=>arr 7 [2,0] J<|lnr t J<|qc h (dS N · (b.Pats.length:Int) 1 6 ·) J J J fun O h=>arr 2 [] J ?_
 obtain⟨C,c,h⟩:=bs h
 refine WL.cutN 5 [(15,.bool C),(1,pQ u)] ?_ (fun K=>?_)
 rotate_left
 ·refine sp 10 c J (fun c=>?_) fun c=>?_
  ·refine arr 5 [] J ?_
   cases c
   exact ku K
  ·refine ly J J<|ld5 ur 0 J<|ly J J<|qd c (oM N · b t y z ·) J J J fun D c=>ly J J<|qc c (dS N · D 1 3 ·) J J J fun P c=>arr 2 [] J ?_
   cases c
   exact ku K
 refine en ?_
 refine ch h J ?_ ?_<;>intro h
 ·refine att 4 [] J ?_
  exact rt v h
 refine atr 6 [2,0] J<|lnr t J<|art 3 [] J ?_
 refine lin (σ:=Int) (fun s=>[(1,pQ u),(17,f),(18,iV (b.Pats.length:Int)),(19,iV s)]) (fun s=>St w0 a [(u,.cells #[.string b.Name,iV b.Sal,f,k,j] 87 (0,0))] []) (fun m s=>fF N b m s=some r) (0) N h (sx [] [0]) (fun E F s hm=>?_)
 revert hm;revert s;intro s1 hm
 have h:fF N b (E+1) s1=some r:=hm
 show WT _ _ [(1,pQ u),(17,f),(18,iV (b.Pats.length:Int)),(19,iV s1)] (St w0 a [(u,.cells #[.string b.Name,iV b.Sal,f,k,j] 87 (0,0))] [])
 unfold fF at h
 refine att 5 [] J ?_
 refine ch h J ?_ ?_<;>intro h
 ·refine atr 6 [] J ?_
  obtain⟨w,A,h⟩:=bs h
  obtain⟨Q,R,-,g1,S,T,G⟩:=t.el (a8 A).2.2
  obtain⟨v1,U,rfl,H,h1⟩:=G
  obtain rfl:=H.symm
  refine lia t A J<|lhx 0 3 g1 J<|lnz mi J fun V=>la J<|soN 0 pX J ⟨J,h1.one,J,trivial⟩ J ?_
  refine en<|sq<|WT.draw mixed OU (fun _ h=>h.drew)<|qq (ay wO J (fun B hw=>hw.rgO (i:=0) J 0 3 [.string w.Kind,v1,.bool w.Not] J) J) J ?_
  obtain⟨W,I,h⟩:=bs h
  refine qp (jj Kl J (fun B hw=>BK N (ba hw.in0) w h1 I)) J<|aqq 2 [] J ?_
  obtain⟨L,q,h⟩:=bs h
  refine WQ.cutN 8 [(35,.bool L),(1,pQ u),(17,f),(18,iV (b.Pats.length:Int)),(19,iV s1)] ?_ (fun K=>?_)
  rotate_left
  ·refine WQ.split (d:=27) J (fun x=>?_) (fun x=>?_)
   ·replace q:=mC q x
    refine aqq 8 [] J ?_
    cases q
    exact kq K
   ·replace q:=mE q x
    refine aqq 4 [2,0,37] J<|WQ.yes J J ?_
    obtain⟨X,M,q⟩:=bs q
    refine qp (jj Ff J (fun B hw=>oM N (ba hw.in0) b t y z M)) J<|WQ.yes J J<|qq (KV J J) J<|WQ.yes J J<|qq (N0 NR J J) J<|WQ.q (sy J J) J J J ?_
    cases q
    exact kq K
  refine WQ.nil ?_
  refine ch h J ?_ ?_<;>intro h
  ·refine att 4 [] J ?_
   exact rt v h
  refine att 6 [] J ?_
  exact lb [] [1] (F _ h)
 refine att 5 [] J ?_
 exact rt v h
theorem m4  (w0:aA e a []) (b:cO)  {r:Bool} (h:jI N b=some r) :
  CB w0 prog 212 [.agg [iV b.K,.string b.S,iV b.V.K,iV b.V.N,.string b.V.S].toArray] (.bool r):=by
 refine eN func212 J ntmps212 J w0 fun d=>?_
 unfold jI at h
 refine sr<|lbx J fun m=>arr 8 [0,0] J ?_
 obtain⟨i,c,h⟩:=bs h
 refine WL.cutN 3 [(9,.bool i),(2,.bool false)] ?_ (fun K=>?_)
 rotate_left
 ·refine sp 6 c J (fun c=>?_) fun c=>?_
  ·refine ly J J<|ld5 nC 0 J<|ly J J<|qc c (wn N · b ·) J J J fun q c=>la J ?_
   cases c
   exact ku K
  ·refine arr 3 [] J ?_
   cases c
   exact ku K
 refine la J<|en ?_
 exact rt d h
theorem A1  (w0:aA e a []) (b:fm)  {r:Bool} (h:pF N b=some r) :
  CB w0 prog 163 [.agg [iV b.Op,iV b.L.K,.string b.L.S,iV b.L.V.K,iV b.L.V.N,.string b.L.V.S,iV b.R.K,.string b.R.S,iV b.R.V.K,iV b.R.V.N,.string b.R.V.S].toArray] (.bool r):=by
 refine eN func163 J ntmps163 J w0 fun i=>?_
 unfold pF at h
 refine sr<|lbx J fun m=>arr 6 [0,0] J<|qc h (dS N · b.Op 1 3 ·) J J J fun t h=>la J ?_
 obtain⟨q,c,h⟩:=bs h
 refine WL.cutN 4 [(10,.bool q),(1,pQ m),(2,.bool false)] ?_ (fun K=>?_)
 rotate_left
 ·refine sp 6 c J (fun c=>?_) fun c=>?_
  ·refine arr 2 [1,5] J<|ly J J<|qc c (m4 N · b.L ·) J J J fun u c=>la J ?_
   cases c
   exact ku K
  ·refine arr 4 [] J ?_
   cases c
   exact ku K
 refine la J ?_
 obtain⟨s,d,h⟩:=bs h
 refine WL.cutN 4 [(15,.bool s),(2,.bool false)] ?_ (fun K=>?_)
 rotate_left
 ·refine sp 11 d J (fun d=>?_) fun d=>?_
  ·refine arr 2 [6,5] J<|ly J J<|qc d (m4 N · b.R ·) J J J fun v d=>la J ?_
   cases d
   exact ku K
  ·refine arr 4 [] J ?_
   cases d
   exact ku K
 refine la J<|en ?_
 exact rt i h
theorem zY  (w0:aA e a []) (b:eo)  {r:Bool} (h:qC N b=some r) :
  CB w0 prog 238 [.agg [.string b.Op,iV b.L.K,.string b.L.S,iV b.L.V.K,iV b.L.V.N,.string b.L.V.S,iV b.R.K,.string b.R.S,iV b.R.V.K,iV b.R.V.N,.string b.R.V.S].toArray] (.bool r):=by
 refine eN func238 J ntmps238 J w0 fun m=>?_
 unfold qC at h
 refine sr<|lbx J fun i=>art 14 [0,0] J ?_
 refine ch h J ?_ ?_<;>intro h
 ·refine atr 4 [1,5] J<|qc h (m4 N · b.L ·) J J J fun u h=>la J ?_
  obtain⟨q,d,h⟩:=bs h
  refine WL.cutN 5 [(15,.bool q),(2,.bool false)] ?_ (fun K=>?_)
  rotate_left
  ·refine sp 10 d J (fun d=>?_) fun d=>?_
   ·refine arr 2 [6,5] J<|ly J J<|lq (bE (vs:=[]) (C:=#[iV 0,.string (⟨#[]⟩:Qr),iV 0,iV 0,.string (⟨#[]⟩:Qr)]) BY kY J (af)) J<|ly J J<|lq (Ez KF J J J (r:=rU b.R (⟨0,(⟨#[]⟩:Qr),(⟨0,0,(⟨#[]⟩:Qr)⟩:bP)⟩:cO)) J) J<|la J ?_
    cases d
    exact ku K
   ·refine arr 5 [] J ?_
    cases d
    exact ku K
  refine la J<|en ?_
  exact rt m h
 refine att 6 [] J ?_
 refine cut (σ:=Bool) (fun s=>[(1,pQ i),(16,.bool s)]) (fun s=>St w0 a [(i,.cells #[.string b.Op,iV b.L.K,.string b.L.S,iV b.L.V.K,iV b.L.V.N,.string b.L.V.S,iV b.R.K,.string b.R.S,iV b.R.V.K,iV b.R.V.N,.string b.R.V.S] 216 (0,0))] []) (fun s=>kv N b s=some r) (fun s hm=>?_) (fun K=>?_)
 ·clear h
  revert hm;revert s;intro s1 hm
  have h:kv N b s1=some r:=hm
  show WT _ _ [(1,pQ i),(16,.bool s1)] (St w0 a [(i,.cells #[.string b.Op,iV b.L.K,.string b.L.S,iV b.L.V.K,iV b.L.V.N,.string b.L.V.S,iV b.R.K,.string b.R.S,iV b.R.V.K,iV b.R.V.N,.string b.R.V.S] 216 (0,0))] [])
  unfold kv at h
  refine ch h J ?_ ?_<;>intro h
  ·refine atr 4 [1,5] J<|qc h (m4 N · b.L ·) J J J fun v h=>la J ?_
   obtain⟨t,c,h⟩:=bs h
   refine WL.cutN 4 [(26,.bool t)] ?_ (fun K=>?_)
   rotate_left
   ·refine sp 22 c J (fun c=>?_) fun c=>?_
    ·refine arr 2 [6,5] J<|ly J J<|qc c (m4 N · b.R ·) J J J fun w c=>la J ?_
     cases c
     exact ku K
    ·refine arr 4 [] J ?_
     cases c
     exact ku K
   refine la J<|en ?_
   exact rt m h
  refine att 6 [] J ?_
  exact rt m h
 refine ch h J ?_ ?_<;>intro h
 ·refine WT.skip ?_
  exact wo [] [0] (K _ h)
 refine att 4 [] J ?_
 exact wo [] [0] (K _ h)
theorem rc (w0:aA e a []) (b:fD) (d:RSl dO 11 e l f b.Args) {r:Bool} (h:mg N b=some r) :
  CB w0 prog 213 [.agg [iV b.Kind,.string b.Name,f,iV b.N,.string b.Undo].toArray] (.bool r):=by
 refine eN func213 J ntmps213 J w0 fun i=>?_
 unfold mg at h
 refine sr<|lbx J fun t=>arr 7 [1,0] J<|qc h (kr N · b.Name ·) J J J fun z h=>arr 2 [] J ?_
 obtain⟨u,c,h⟩:=bs h
 refine WL.cutN 5 [(14,.bool u),(1,pQ t)] ?_ (fun K=>?_)
 rotate_left
 ·refine sp 9 c J (fun c=>?_) fun c=>?_
  ·refine arr 5 [] J ?_
   cases c
   exact ku K
  ·refine arr 2 [2,0] J<|ly J J<|lnr d J<|arr 2 [] J ?_
   cases c
   exact ku K
 refine en ?_
 refine ch h J ?_ ?_<;>intro h
 ·refine att 4 [] J ?_
  exact rt i h
 refine atr 6 [2,0] J<|lnr d J<|art 3 [] J ?_
 refine lin (σ:=Int) (fun s=>[(16,f),(17,iV (b.Args.length:Int)),(18,iV s)]) (fun s=>St w0 a [] []) (fun m s=>fG N b m s=some r) (0) N h (sx [] []) (fun v w s hm=>?_)
 revert hm;revert s;intro s1 hm
 have h:fG N b (v+1) s1=some r:=hm
 show WT _ _ [(16,f),(17,iV (b.Args.length:Int)),(18,iV s1)] (St w0 a [] [])
 unfold fG at h
 refine att 5 [] J ?_
 refine ch h J ?_ ?_<;>intro h
 ·refine atr 5 [] J ?_
  obtain⟨x,q,h⟩:=bs h
  obtain⟨A,B,-,g1,C,D,y⟩:=d.el (a8 q).2.2
  obtain⟨rfl,-⟩:=y
  refine lia d q J<|lhx 0 11 g1 J<|lnz xo J fun E=>soN 0 Bl J ⟨J,J,J,J,J,J,J,J,J,J,J,trivial⟩ J ?_
  refine arr 4 [11] J<|qc h (zY N · x ·) J J J fun F h=>la J<|en ?_
  refine ch h J ?_ ?_<;>intro h
  ·refine att 4 [] J ?_
   exact rt i h
  refine att 6 [] J ?_
  exact lb [] [] (w _ h)
 refine att 5 [] J ?_
 exact rt i h
theorem zX  (w0:aA e a []) (c:Qr)  {r:Bool} (h:sI N c=some r) :
  CB w0 prog 214 [.string c] (.bool r):=by
 refine eN func214 J ntmps214 J w0 fun d=>?_
 unfold sI at h
 refine atr 9 [] J ?_
 obtain⟨i,b,h⟩:=bs h
 refine WL.cutN 3 [(8,.bool i),(2,.bool false)] ?_ (fun K=>?_)
 rotate_left
 ·refine sp 5 b J (fun b=>?_) fun b=>?_
  ·refine arr 3 [] J ?_
   cases b
   exact ku K
  ·refine ly J J<|la J<|ly J J<|qc b (kr N · c ·) J J J fun m b=>la J ?_
   cases b
   exact ku K
 refine la J<|en ?_
 exact rt d h
theorem C0 (w0:aA e a []) (b:fD) (C:RSl dO 11 e l f b.Args) {r:Bool} (h:rJ N b=some r) :
  CB w0 prog 164 [.agg [iV b.Kind,.string b.Name,f,iV b.N,.string b.Undo].toArray] (.bool r):=by
 refine eN func164 J ntmps164 J w0 fun q=>?_
 unfold rJ at h
 refine sr<|lbx J fun c=>arr 8 [1,0] J ?_
 obtain⟨t,u,h⟩:=bs h
 refine WL.cutN 5 [(12,.bool t),(1,pQ c)] ?_ (fun K=>?_)
 rotate_left
 ·refine sp 7 u J (fun u=>?_) fun u=>?_
  ·refine arr 2 [2,0] J<|ly J J<|lnr C J<|arr 2 [] J ?_
   cases u
   exact ku K
  ·refine arr 5 [] J ?_
   cases u
   exact ku K
 refine art 14 [0,0] J ?_
 refine ch h J ?_ ?_<;>intro h
 ·refine atr 3 [5] J<|qd h (rc N · b C ·) J J J fun Q h=>la J ?_
  obtain⟨D,v,h⟩:=bs h
  refine WL.cutN 4 [(23,.bool D),(1,pQ c)] ?_ (fun K=>?_)
  rotate_left
  ·refine sp 19 v J (fun v=>?_) fun v=>?_
   ·refine arr 4 [3,0] J ?_
    cases v
    exact ku K
   ·refine arr 4 [] J ?_
    cases v
    exact ku K
  refine la J ?_
  obtain⟨E,w,h⟩:=bs h
  refine WL.cutN 4 [(28,.bool E)] ?_ (fun K=>?_)
  rotate_left
  ·refine sp 24 w J (fun w=>?_) fun w=>?_
   ·refine arr 4 [4,0] J ?_
    cases w
    exact ku K
   ·refine arr 4 [] J ?_
    cases w
    exact ku K
  refine la J<|en ?_
  exact rt q h
 refine att 5 [] J ?_
 refine ch h J ?_ ?_<;>intro h
 ·refine atr 4 [] J ?_
  obtain⟨F,d,h⟩:=bs h
  refine WL.cutN 4 [(36,.bool F),(1,pQ c)] ?_ (fun K=>?_)
  rotate_left
  ·refine sp 32 d J (fun d=>?_) fun d=>?_
   ·refine arr 2 [3,0] J<|ly J J<|qc d (dS N · b.N 0 7 ·) J J J fun R d=>la J ?_
    cases d
    exact ku K
   ·refine arr 4 [] J ?_
    cases d
    exact ku K
  refine la J ?_
  obtain⟨G,x,h⟩:=bs h
  refine WL.cutN 4 [(41,.bool G)] ?_ (fun K=>?_)
  rotate_left
  ·refine sp 37 x J (fun x=>?_) fun x=>?_
   ·refine arr 4 [4,0] J ?_
    cases x
    exact ku K
   ·refine arr 4 [] J ?_
    cases x
    exact ku K
  refine la J<|en ?_
  exact rt q h
 refine att 5 [] J ?_
 refine ch h J ?_ ?_<;>intro h
 ·refine atr 3 [5] J<|qd h (rc N · b C ·) J J J fun S h=>la J ?_
  obtain⟨H,y,h⟩:=bs h
  refine WL.cutN 4 [(50,.bool H),(1,pQ c)] ?_ (fun K=>?_)
  rotate_left
  ·refine sp 46 y J (fun y=>?_) fun y=>?_
   ·refine arr 4 [3,0] J ?_
    cases y
    exact ku K
   ·refine arr 4 [] J ?_
    cases y
    exact ku K
  refine la J ?_
  obtain⟨I,i,h⟩:=bs h
  refine WL.cutN 4 [(55,.bool I)] ?_ (fun K=>?_)
  rotate_left
  ·refine sp 51 i J (fun i=>?_) fun i=>?_
   ·refine arr 2 [4,0] J<|ly J J<|qc i (zX N · b.Undo ·) J J J fun T i=>la J ?_
    cases i
    exact ku K
   ·refine arr 4 [] J ?_
    cases i
    exact ku K
  refine la J<|en ?_
  exact rt q h
 refine att 5 [] J ?_
 refine ch h J ?_ ?_<;>intro h
 ·refine atr 3 [5] J<|qd h (rc N · b C ·) J J J fun U h=>la J ?_
  obtain⟨L,m,h⟩:=bs h
  refine WL.cutN 4 [(64,.bool L),(1,pQ c)] ?_ (fun K=>?_)
  rotate_left
  ·refine sp 60 m J (fun m=>?_) fun m=>?_
   ·refine arr 2 [3,0] J<|ly J J<|qc m (dS N · b.N 0 100000 ·) J J J fun V m=>la J ?_
    cases m
    exact ku K
   ·refine arr 4 [] J ?_
    cases m
    exact ku K
  refine la J ?_
  obtain⟨M,z,h⟩:=bs h
  refine WL.cutN 4 [(69,.bool M)] ?_ (fun K=>?_)
  rotate_left
  ·refine sp 65 z J (fun z=>?_) fun z=>?_
   ·refine arr 4 [4,0] J ?_
    cases z
    exact ku K
   ·refine arr 4 [] J ?_
    cases z
    exact ku K
  refine la J<|en ?_
  exact rt q h
 refine att 6 [] J ?_
 refine cut (σ:=Bool) (fun s=>[(1,pQ c),(3,.bool t),(70,.bool s)]) (fun s=>St w0 a [(c,.cells #[iV b.Kind,.string b.Name,f,iV b.N,.string b.Undo] 213 (0,0))] []) (fun s=>lw N b t s=some r) (fun s hm=>?_) (fun K=>?_)
 ·clear h
  revert hm;revert s;intro s1 hm
  have h:lw N b t s1=some r:=hm
  show WT _ _ [(1,pQ c),(3,.bool t),(70,.bool s1)] (St w0 a [(c,.cells #[iV b.Kind,.string b.Name,f,iV b.N,.string b.Undo] 213 (0,0))] [])
  unfold lw at h
  refine ch h J ?_ ?_<;>intro h
  ·refine atr 4 [] J ?_
   obtain⟨O,A,h⟩:=bs h
   refine WL.cutN 4 [(78,.bool O),(1,pQ c)] ?_ (fun K=>?_)
   rotate_left
   ·refine sp 74 A J (fun A=>?_) fun A=>?_
    ·refine arr 4 [3,0] J ?_
     cases A
     exact ku K
    ·refine arr 4 [] J ?_
     cases A
     exact ku K
   refine la J ?_
   obtain⟨P,B,h⟩:=bs h
   refine WL.cutN 4 [(83,.bool P)] ?_ (fun K=>?_)
   rotate_left
   ·refine sp 79 B J (fun B=>?_) fun B=>?_
    ·refine arr 4 [4,0] J ?_
     cases B
     exact ku K
    ·refine arr 4 [] J ?_
     cases B
     exact ku K
   refine la J<|en ?_
   exact rt q h
  refine att 6 [] J ?_
  exact rt q h
 refine ch h J ?_ ?_<;>intro h
 ·refine WT.skip ?_
  exact wo [] [0] (K _ h)
 refine att 4 [] J ?_
 exact wo [] [0] (K _ h)
theorem oS (w0:aA e a []) (b:(List Qr)) (c:Qr) (d:RSl RS 1 e a1 g b) {r:Int} (h:dZ N b c=some r) :
  CB w0 prog 216 [g,.string c] (iV r):=by
 refine eN func216 J ntmps216 J w0 fun i=>?_
 unfold dZ at h
 refine atr 8 [] J<|lnr d J<|art 3 [] J ?_
 refine lin (σ:=Int) (fun s=>[(0,g),(1,.string c),(7,iV (b.length:Int)),(8,iV s)]) (fun s=>St w0 a [] []) (fun m s=>bL N b c m s=some r) (0) N h (sx [] []) (fun t u s hm=>?_)
 revert hm;revert s;intro s1 hm
 have h:bL N b c (t+1) s1=some r:=hm
 show WT _ _ [(0,g),(1,.string c),(7,iV (b.length:Int)),(8,iV s1)] (St w0 a [] [])
 unfold bL at h
 refine att 5 [] J ?_
 refine ch h J ?_ ?_<;>intro h
 ·refine atr 13 [] J ?_
  obtain⟨w,q,h⟩:=bs h
  obtain⟨x,y,-,g1,z,A,v⟩:=d.el (a8 q).2.2
  obtain⟨rfl,-⟩:=v
  refine lia d q J<|lhx 0 0 g1 J<|la J<|en ?_
  refine ch h J ?_ ?_<;>intro h
  ·refine att 5 [] J ?_
   exact rt i h
  refine att 6 [] J ?_
  exact lb [] [] (u _ h)
 refine att 5 [] J ?_
 exact rt i h
theorem jc (w0:aA e a []) (b:(List Qr)) (c:Qr) (d:RSl RS 1 e a1 g b) {r:Bool} (h:cP N b c=some r) :
  CB w0 prog 168 [g,.string c] (.bool r):=by
 refine eN func168 J ntmps168 J w0 fun i=>?_
 unfold cP at h
 refine atr 8 [] J<|qd h (oS N · b c d ·) J J J fun m h=>art 3 [] J ?_
 exact rt i h
theorem ze (w0:aA e a [ob g].flatten) (i:(List Qr)) (b:Qr) (d:OSl RS 9 1 a [] g i) {r:(List Qr)} (h:ot N i b=some r) :
  Calls prog 239 [g,.string b].toArray w0.w (bc a w0.w [ob g].flatten (fun s Fs v=>∃ (m:Value),v=m∧Fs=[ob m]∧OSl RS 9 1 s [] m r)):=by
 refine eL func239 J ntmps239 J (L:=[ob g]) w0 (fun q=>?_)
 unfold ot at h
 refine atr 9 [] J<|qc h (jc N · i b d.rsl ·) J J J fun A h=>en ?_
 refine ch h J ?_ ?_<;>intro h
 ·refine att 5 [] J ?_
  exact rtg [0] q (aB.one J) J (by cases h;exact fun t hw=>⟨g,rfl,rfl,d⟩)
 refine atr 5 [] J ?_
 have u:RC RS 1 a ([[]]:List (List Nat)) [.string b] ([b]:List Qr):=RC.cons (c:=[.string b]) (cells:=[]) ⟨J,J⟩ J (RC.nil _ _ _)
 refine le' (bC (vs:=[(0,.string b)]) (C:=#[.string b]) RS.lasts jP uX J J J J (av E5 (aa (C':=[.string b]) J J J J J (af))) J u J (by simpa using Kw.nil)) J ?_
 rintro v1 w B ⟨x,h1⟩
 replace h1:OSl RS 9 1 w [] v1 ([b]:List Qr):=by simpa using h1
 replace d:=d.f0 x
 obtain⟨D,y,h⟩:=bs h
 refine le' (dW RS.lasts RS.one RS.flat jP MW J J J J J (js:=[1]) (Rr:=[ob v1]) J d h1.rsl y) J ?_
 rintro v2 E F ⟨⟨G,H⟩,z⟩
 refine la J<|en ?_
 exact rtg [0] q (aB.one J) J (by cases h;exact fun t hw=>⟨v2,rfl,rfl,z⟩)
theorem pZ (w0:aA e a [ob g].flatten) (i:(List Qr)) (c:(List cO)) (y:OSl RS 9 1 a [] g i) (t:RSl fu 5 e ai n c) {r:(List Qr)} (h:l9 N i c=some r) :
  Calls prog 215 [g,n].toArray w0.w (bc a w0.w [ob g].flatten (fun A Fs v=>∃ (u:Value),v=u∧Fs=[ob u]∧OSl RS 9 1 A [] u r)):=by
 refine eL func215 J ntmps215 J (L:=[ob g]) w0 (fun B=>?_)
 unfold l9 at h
 refine atr 8 [] J<|lnr t J<|art 3 [] J ?_
 refine lin (σ:=Hp × (List Qr) × Value × Int) (fun s=>[(0,s.2.2.1),(7,n),(8,iV (c.length:Int)),(9,iV s.2.2.2)]) (fun s=>St w0 s.1 [] [ob s.2.2.1]) (fun m s=>gq N c m s.2.1 s.2.2.2=some r∧(OSl RS 9 1 s.1 [] s.2.2.1 s.2.1)) (a,i,g,0) N ⟨h,y⟩ (sx [0] []) (fun F w s hm=>?_)
 obtain⟨G,s1,C,s2⟩:=s
 obtain⟨h,d⟩:=hm
 dsimp only at h d ⊢
 unfold gq at h
 refine att 5 [] J ?_
 refine ch h J ?_ ?_<;>intro h
 ·refine atr 5 [] J ?_
  obtain⟨D,x,h⟩:=bs h
  obtain⟨H,I,-,g1,K,M,E⟩:=t.el (a8 x).2.2
  obtain⟨rfl,-⟩:=E
  refine lia t x J<|lhx 0 5 g1 J<|lnz kY J fun O=>soN 0 jm J ⟨J,J,J,J,J,trivial⟩ J ?_
  refine art 7 [0,0] J ?_
  refine ch h J ?_ ?_<;>intro h
  ·refine atr 4 [1,0] J<|kcb [0] h J J J J (fun b ap z q=>ze N b s1 D.S d q) ?_
   rintro P h v1 Q R ⟨S,T,v2,rfl,rfl,h1⟩
   refine art 7 [] J ?_
   exact lb [0] [] (w (_,_,_,_) ⟨h,h1⟩)
  refine att 6 [] J ?_
  exact lb [0] [] (w (_,_,_,_) ⟨h,d⟩)
 refine att 6 [] J ?_
 exact rtg [0] B (aB.one J) J (by cases h;exact fun U hw=>⟨C,rfl,rfl,d⟩)
theorem yF (w0:aA e a []) (c:ah) (i:RSl cX 3 e l f c.Pats) (G:RSl cL 11 e o k c.Conds) (H:RSl ij 5 e p j c.Acts) {r:(List Qr)} (h:mz N c=some r) :
  Calls prog 166 [.agg [.string c.Name,iV c.Sal,f,k,j].toArray].toArray w0.w (bc a w0.w [] (fun x Fs v=>∃ (t:Value),v=t∧Fs=[ob t]∧OSl RS 9 1 x [] t r)):=by
 refine eN func166 J ntmps166 J w0 fun y=>?_
 unfold mz at h
 refine sr<|lbx J fun I=>arr 11 [2,0] J<|lnr i J<|art 3 [] J<|wtS ?_
 have A:=OSl.nil RS 9 1 a
 refine lin (σ:=Hp × (List Qr) × Value × Int) (fun s=>[(3,s.2.2.1),(7,f),(8,iV (c.Pats.length:Int)),(9,iV s.2.2.2)]) (fun s=>St w0 s.1 [] [ob s.2.2.1]) (fun m s=>gu N c m s.2.1 s.2.2.2=some r∧(OSl RS 9 1 s.1 [] s.2.2.1 s.2.1)) (a,([]:List Qr),(.slice none 0 0),0) N ⟨h,A⟩ (sx [0] []) (fun K u s hm=>?_)
 obtain⟨L,s1,B,s2⟩:=s
 obtain⟨h,d⟩:=hm
 dsimp only at h d ⊢
 unfold gu at h
 refine att 5 [] J ?_
 refine ch h J ?_ ?_<;>intro h
 ·refine atr 5 [] J ?_
  obtain⟨C,w,h⟩:=bs h
  obtain⟨M,O,-,g1,P,Q,D⟩:=i.el (a8 w).2.2
  obtain⟨v1,R,rfl,E,h1⟩:=D
  obtain rfl:=E.symm
  refine lia i w J<|lhx 0 3 g1 J<|lnz mi J fun S=>soN 0 pX J ⟨J,h1.one,J,trivial⟩ J ?_
  refine art 7 [2,0] J ?_
  refine ch h J ?_ ?_<;>intro h
  ·refine atr 4 [1,0] J<|kcb [0] h J J J J (fun b ap z q=>pZ N b s1 C.Args d (h1.y z) q) ?_
   rintro T h v2 U V ⟨W,X,v3,rfl,rfl,F⟩
   refine art 7 [] J ?_
   exact lb [0] [] (u (_,_,_,_) ⟨h,F⟩)
  refine att 6 [] J ?_
  exact lb [0] [] (u (_,_,_,_) ⟨h,d⟩)
 refine att 6 [] J ?_
 exact rtg [0] y (aB.one J) J (by cases h;exact fun Y hw=>⟨B,rfl,rfl,d⟩)
theorem xS (w0:aA e a []) (t:ah) (ao:RSl cX 3 e l f t.Pats) (y:RSl cL 11 e o k t.Conds) (A:RSl ij 5 e p j t.Acts) {r:(List Qr)} (h:mW N t=some r) :
  Calls prog 167 [.agg [.string t.Name,iV t.Sal,f,k,j].toArray].toArray w0.w (bc a w0.w [] (fun P Fs v=>∃ (B:Value),v=B∧Fs=[ob B]∧OSl RS 9 1 P [] B r)):=by
 refine eN func167 J ntmps167 J w0 fun Q=>?_
 unfold mW at h
 refine sr<|lbx J fun F=>arr 11 [3,0] J<|lnr y J<|art 3 [] J<|wtS ?_
 have R:=OSl.nil RS 9 1 a
 refine lin (σ:=Hp × (List Qr) × Value × Int) (fun s=>[(1,pQ F),(3,s.2.2.1),(11,k),(12,iV (t.Conds.length:Int)),(13,iV s.2.2.2)]) (fun s=>St w0 s.1 [(F,.cells #[.string t.Name,iV t.Sal,f,k,j] 87 (0,0))] [ob s.2.2.1]) (fun m s=>gJ N t m s.2.1 s.2.2.2=some r∧(OSl RS 9 1 s.1 [] s.2.2.1 s.2.1)) (a,([]:List Qr),(.slice none 0 0),0) N ⟨h,R⟩ (sx [0] [0]) (fun n1 S s hm=>?_)
 obtain⟨G,s1,T,s2⟩:=s
 obtain⟨h,u⟩:=hm
 dsimp only at h u ⊢
 unfold gJ at h
 refine att 5 [] J ?_
 refine ch h J ?_ ?_<;>intro h
 ·refine atr 5 [] J ?_
  obtain⟨d,H,h⟩:=bs h
  obtain⟨aq,F1,-,g1,ar,au,U⟩:=y.el (a8 H).2.2
  obtain⟨rfl,-⟩:=U
  refine lia y H J<|lhx 0 11 g1 J<|lnz uU J fun aw=>soN 0 zh J ⟨J,J,J,J,J,J,J,J,J,J,J,trivial⟩ J ?_
  refine arr 7 [1,5,6,5] J ?_
  have V:RC fu 5 G ([[],[]]:List (List Nat)) [iV d.L.K,.string d.L.S,iV d.L.V.K,iV d.L.V.N,.string d.L.V.S,iV d.R.K,.string d.R.S,iV d.R.V.K,iV d.R.V.N,.string d.R.V.S] ([d.L,d.R]:List cO):=RC.cons (c:=[iV d.L.K,.string d.L.S,iV d.L.V.K,iV d.L.V.N,.string d.L.V.S]) (cells:=[iV d.R.K,.string d.R.S,iV d.R.V.K,iV d.R.V.N,.string d.R.V.S]) ⟨J,J⟩ J (RC.cons (c:=[iV d.R.K,.string d.R.S,iV d.R.V.K,iV d.R.V.N,.string d.R.V.S]) (cells:=[]) ⟨J,J⟩ J (RC.nil _ _ _))
  refine le' (bC (vs:=[(0,.agg [iV d.L.K,.string d.L.S,iV d.L.V.K,iV d.L.V.N,.string d.L.V.S].toArray),(1,.agg [iV d.R.K,.string d.R.S,iV d.R.V.K,iV d.R.V.N,.string d.R.V.S].toArray)]) (C:=#[iV d.L.K,.string d.L.S,iV d.L.V.K,iV d.L.V.N,.string d.L.V.S,iV d.R.K,.string d.R.S,iV d.R.V.K,iV d.R.V.N,.string d.R.V.S]) fu.lasts zz kY J J J J (av C9 (aa (C':=[iV d.L.K,.string d.L.S,iV d.L.V.K,iV d.L.V.N,.string d.L.V.S,iV 0,.string ⟨#[]⟩,iV 0,iV 0,.string ⟨#[]⟩]) J J J J J (aa (C':=[iV d.L.K,.string d.L.S,iV d.L.V.K,iV d.L.V.N,.string d.L.V.S,iV d.R.K,.string d.R.S,iV d.R.V.K,iV d.R.V.N,.string d.R.V.S]) J J J J J (af)))) J V J (by simpa using Kw.nil)) J ?_
  rintro v1 W D1 ⟨X,h1⟩
  replace h1:OSl fu 171 5 W [] v1 ([d.L,d.R]:List cO):=by simpa using h1
  replace u:=u.f0 X
  refine kcb [1] h J J J J (fun b ap z q=>pZ N b s1 ([d.L,d.R]:List cO) u (h1.rsl.x (Dj.app (ap.q 0 J) dN)) q) ?_
  rintro x2 h v2 ax F2 ⟨ay,az,v3,rfl,rfl,Y⟩
  refine art 7 [] J ?_
  exact lb [0] [1] (S (_,_,_,_) ⟨h,Y⟩)
 refine atr 6 [4,0] J<|lnr A J<|art 3 [] J ?_
 refine lin (σ:=Hp × (List Qr) × Value × Int) (fun s=>[(3,s.2.2.1),(26,j),(27,iV (t.Acts.length:Int)),(28,iV s.2.2.2)]) (fun s=>St w0 s.1 [] [ob s.2.2.1]) (fun m s=>dV N t m s.2.1 s.2.2.2=some r∧(OSl RS 9 1 s.1 [] s.2.2.1 s.2.1)) (G,s1,T,0) N ⟨h,u⟩ (sx [0] []) (fun Z a7 s hm=>?_)
 obtain⟨ab,s3,I,K⟩:=s
 obtain⟨h,D⟩:=hm
 dsimp only at h D ⊢
 unfold dV at h
 refine att 5 [] J ?_
 refine ch h J ?_ ?_<;>intro h
 ·refine atr 5 [] J ?_
  obtain⟨L,M,h⟩:=bs h
  obtain⟨aC,F3,-,g2,aD,aE,r2⟩:=A.el (a8 M).2.2
  obtain⟨v4,G1,rfl,ae,x⟩:=r2
  obtain rfl:=ae.symm
  refine lia A M J<|lhx 0 5 g2 J<|lnz vm J fun aF=>soN 0 uR J ⟨J,J,x.one,J,J,trivial⟩ J ?_
  refine arr 5 [2,0] J<|lnr x J<|art 3 [] J ?_
  refine lin (σ:=Hp × (List Qr) × Value × Int) (fun s=>[(3,s.2.2.1),(26,j),(27,iV (t.Acts.length:Int)),(28,iV K),(33,v4),(34,iV (L.Args.length:Int)),(35,iV s.2.2.2)]) (fun s=>St w0 s.1 [] [ob s.2.2.1]) (fun m s=>fo N K (dV N t Z) L m s.2.1 s.2.2.2=some r∧(OSl RS 9 1 s.1 [] s.2.2.1 s.2.1)) (ab,s3,I,0) N ⟨h,D⟩ (sx [0] []) (fun n3 ag s hm=>?_)
  obtain⟨aj,s5,u3,s6⟩:=s
  obtain⟨h,w⟩:=hm
  dsimp only at h w ⊢
  unfold fo at h
  refine att 5 [] J ?_
  refine ch h J ?_ ?_<;>intro h
  ·refine atr 5 [] J ?_
   obtain⟨i,O,h⟩:=bs h
   obtain⟨aG,F4,-,g3,aH,aI,r3⟩:=x.el (a8 O).2.2
   obtain⟨rfl,-⟩:=r3
   refine lia x O J<|lhx 0 11 g3 J<|lnz xo J fun aJ=>soN 0 Bl J ⟨J,J,J,J,J,J,J,J,J,J,J,trivial⟩ J ?_
   refine arr 7 [1,5,6,5] J ?_
   have ak:RC fu 5 aj ([[],[]]:List (List Nat)) [iV i.L.K,.string i.L.S,iV i.L.V.K,iV i.L.V.N,.string i.L.V.S,iV i.R.K,.string i.R.S,iV i.R.V.K,iV i.R.V.N,.string i.R.V.S] ([i.L,i.R]:List cO):=RC.cons (c:=[iV i.L.K,.string i.L.S,iV i.L.V.K,iV i.L.V.N,.string i.L.V.S]) (cells:=[iV i.R.K,.string i.R.S,iV i.R.V.K,iV i.R.V.N,.string i.R.V.S]) ⟨J,J⟩ J (RC.cons (c:=[iV i.R.K,.string i.R.S,iV i.R.V.K,iV i.R.V.N,.string i.R.V.S]) (cells:=[]) ⟨J,J⟩ J (RC.nil _ _ _))
   refine le' (bC (vs:=[(0,.agg [iV i.L.K,.string i.L.S,iV i.L.V.K,iV i.L.V.N,.string i.L.V.S].toArray),(1,.agg [iV i.R.K,.string i.R.S,iV i.R.V.K,iV i.R.V.N,.string i.R.V.S].toArray)]) (C:=#[iV i.L.K,.string i.L.S,iV i.L.V.K,iV i.L.V.N,.string i.L.V.S,iV i.R.K,.string i.R.S,iV i.R.V.K,iV i.R.V.N,.string i.R.V.S]) fu.lasts zz kY J J J J (av C9 (aa (C':=[iV i.L.K,.string i.L.S,iV i.L.V.K,iV i.L.V.N,.string i.L.V.S,iV 0,.string ⟨#[]⟩,iV 0,iV 0,.string ⟨#[]⟩]) J J J J J (aa (C':=[iV i.L.K,.string i.L.S,iV i.L.V.K,iV i.L.V.N,.string i.L.V.S,iV i.R.K,.string i.R.S,iV i.R.V.K,iV i.R.V.N,.string i.R.V.S]) J J J J J (af)))) J ak J (by simpa using Kw.nil)) J ?_
   rintro v5 al D2 ⟨an,E⟩
   replace E:OSl fu 171 5 al [] v5 ([i.L,i.R]:List cO):=by simpa using E
   replace w:=w.f0 an
   refine kcb [1] h J J J J (fun b ap z q=>pZ N b s5 ([i.L,i.R]:List cO) w (E.rsl.x (Dj.app (ap.q 0 J) dN)) q) ?_
   rintro x5 h v6 aK F5 ⟨aL,aM,v7,rfl,rfl,h5⟩
   refine art 7 [] J ?_
   exact lb [0] [] (ag (_,_,_,_) ⟨h,h5⟩)
  refine att 6 [] J ?_
  exact lb [0] [] (a7 (_,_,_,_) ⟨h,w⟩)
 refine att 6 [] J ?_
 exact rtg [0] Q (aB.one J) J (by cases h;exact fun w1 hw=>⟨I,rfl,rfl,D⟩)
theorem A0 (w0:aA e a []) (c:ah) (E:RSl cX 3 e l f c.Pats) (u:RSl cL 11 e o k c.Conds) (v:RSl ij 5 e p j c.Acts) {r:Bool} (h:pP N c=some r) :
  CB w0 prog 98 [.agg [.string c.Name,iV c.Sal,f,k,j].toArray] (.bool r):=by
 refine eN func98 J ntmps98 J w0 fun C=>?_
 unfold pP at h
 refine sr<|lbx J fun t=>arr 7 [0,0] J<|qc h (kr N · c.Name ·) J J J fun x1 h=>arr 2 [] J ?_
 obtain⟨U,y,h⟩:=bs h
 refine WL.cutN 5 [(19,.bool U),(1,pQ t)] ?_ (fun K=>?_)
 rotate_left
 ·refine sp 14 y J (fun y=>?_) fun y=>?_
  ·refine arr 5 [] J ?_
   cases y
   exact ku K
  ·refine arr 2 [1,0] J<|ly J J<|qc y (dS N · c.Sal (-100) 100 ·) J J J fun x2 y=>arr 2 [] J ?_
   cases y
   exact ku K
 refine la J ?_
 obtain⟨V,A,h⟩:=bs h
 refine WL.cutN 4 [(24,.bool V),(1,pQ t)] ?_ (fun K=>?_)
 rotate_left
 ·refine sp 20 A J (fun A=>?_) fun A=>?_
  ·refine arr 4 [] J ?_
   cases A
   exact ku K
  ·refine ly J J<|ld5 ur 0 J<|ly J J<|qd A (Ac N · c E u v ·) J J J fun x3 A=>arr 2 [] J ?_
   cases A
   exact ku K
 refine en ?_
 refine ch h J ?_ ?_<;>intro h
 ·refine att 4 [] J ?_
  exact rt C h
 refine atr 6 [3,0] J<|lnr u J<|arr 2 [] J ?_
 obtain⟨W,B,h⟩:=bs h
 refine WL.cutN 6 [(35,.bool W),(1,pQ t)] ?_ (fun K=>?_)
 rotate_left
 ·refine sp 29 B J (fun B=>?_) fun B=>?_
  ·refine arr 6 [] J ?_
   cases B
   exact ku K
  ·refine arr 2 [4,0] J<|ly J J<|lnr v J<|ly J J<|qc B (dS N · (c.Acts.length:Int) 1 6 ·) J J J fun x4 B=>arr 2 [] J ?_
   cases B
   exact ku K
 refine en ?_
 refine ch h J ?_ ?_<;>intro h
 ·refine att 4 [] J ?_
  exact rt C h
 refine atr 6 [3,0] J<|lnr u J<|art 3 [] J ?_
 refine lin (σ:=Int) (fun s=>[(1,pQ t),(37,k),(38,iV (c.Conds.length:Int)),(39,iV s)]) (fun s=>St w0 a [(t,.cells #[.string c.Name,iV c.Sal,f,k,j] 87 (0,0))] []) (fun m s=>fR N c m s=some r) (0) N h (sx [] [0]) (fun X Y s hm=>?_)
 revert hm;revert s;intro s1 hm
 have h:fR N c (X+1) s1=some r:=hm
 show WT _ _ [(1,pQ t),(37,k),(38,iV (c.Conds.length:Int)),(39,iV s1)] (St w0 a [(t,.cells #[.string c.Name,iV c.Sal,f,k,j] 87 (0,0))] [])
 unfold fR at h
 refine att 5 [] J ?_
 refine ch h J ?_ ?_<;>intro h
 ·refine atr 5 [] J ?_
  obtain⟨Z,O,h⟩:=bs h
  obtain⟨al,F1,-,g1,an,ao,r1⟩:=u.el (a8 O).2.2
  obtain⟨rfl,-⟩:=r1
  refine lia u O J<|lhx 0 11 g1 J<|lnz uU J fun aq=>soN 0 zh J ⟨J,J,J,J,J,J,J,J,J,J,J,trivial⟩ J ?_
  refine arr 4 [11] J<|qc h (A1 N · Z ·) J J J fun x6 h=>la J<|en ?_
  refine ch h J ?_ ?_<;>intro h
  ·refine att 4 [] J ?_
   exact rt C h
  refine att 6 [] J ?_
  exact lb [] [1] (Y _ h)
 refine atr 6 [4,0] J<|lnr v J<|art 3 [] J ?_
 refine lin (σ:=Int) (fun s=>[(1,pQ t),(48,j),(49,iV (c.Acts.length:Int)),(50,iV s)]) (fun s=>St w0 a [(t,.cells #[.string c.Name,iV c.Sal,f,k,j] 87 (0,0))] []) (fun m s=>fH N c m s=some r) (0) N h (sx [] [0]) (fun n2 a7 s hm=>?_)
 revert hm;revert s;intro s2 hm
 have h:fH N c (n2+1) s2=some r:=hm
 show WT _ _ [(1,pQ t),(48,j),(49,iV (c.Acts.length:Int)),(50,iV s2)] (St w0 a [(t,.cells #[.string c.Name,iV c.Sal,f,k,j] 87 (0,0))] [])
 unfold fH at h
 refine att 5 [] J ?_
 refine ch h J ?_ ?_<;>intro h
 ·refine atr 5 [] J ?_
  obtain⟨D,P,h⟩:=bs h
  obtain⟨ar,F2,-,g2,au,av,r2⟩:=v.el (a8 P).2.2
  obtain⟨v1,G1,rfl,aa,h1⟩:=r2
  obtain rfl:=aa.symm
  refine lia v P J<|lhx 0 5 g2 J<|lnz vm J fun aw=>soN 0 uR J ⟨J,J,h1.one,J,J,trivial⟩ J ?_
  refine en<|sq<|WT.draw mixed OU (fun _ h=>h.drew)<|qq (ay BL J (fun Q hw=>hw.rgO (i:=0) J 0 5 [iV D.Kind,.string D.Name,v1,iV D.N,.string D.Undo] J) J) J ?_
  obtain⟨x8,ab,h⟩:=bs h
  refine qp (jj Km J (fun Q hw=>C0 N (ba hw.in0) D h1 ab)) J<|aqq 2 [] J ?_
  obtain⟨b4,w,h⟩:=bs h
  refine WQ.cutN 11 [(68,.bool b4),(1,pQ t),(48,j),(49,iV (c.Acts.length:Int)),(50,iV s2)] ?_ (fun K=>?_)
  rotate_left
  ·refine WQ.split (d:=57) J (fun G=>?_) (fun G=>?_)
   ·replace w:=mC w G
    refine aqq 11 [] J ?_
    cases w
    exact kq K
   ·replace w:=mE w G
    refine aqq 4 [0,0] J ?_
    obtain⟨b5,x,w⟩:=bs w
    refine WQ.cutN 6 [(67,.bool b5),(1,pQ t),(48,j),(49,iV (c.Acts.length:Int)),(50,iV s2),(57,.bool false)] ?_ (fun K=>?_)
    rotate_left
    ·refine WQ.split (d:=61) J (fun H=>?_) (fun H=>?_)
     ·replace x:=mC x H
      refine aqq 3 [3,0,37] J<|WQ.yes J J ?_
      obtain⟨x9,ae,x⟩:=bs x
      refine qp (jj Ff J (fun Q hw=>oM N (ba hw.in0) c E u v ae)) J<|aqq 2 [] J ?_
      cases x
      exact kq K
     ·replace x:=mE x H
      refine aqq 6 [] J ?_
      cases x
      exact kq K
    refine WQ.q (sy J J) J J J ?_
    cases w
    exact kq K
  refine WQ.nil ?_
  refine ch h J ?_ ?_<;>intro h
  ·refine att 4 [] J ?_
   exact rt C h
  refine att 6 [] J ?_
  exact lb [] [1] (a7 _ h)
 refine atr 4 [5] J<|kab h J J J (fun b z q=>yF N b c (E.y z) (u.y z) (v.y z) q) ?_
 rintro I h v2 ax F3 ⟨az,aB,v3,rfl,rfl,L⟩
 refine arr 6 [5] J<|kab h J J J (fun b z q=>xS N b c (E.y z) (u.y z) (v.y z) q) ?_
 rintro F h v4 R F4 ⟨af,ag,v5,rfl,rfl,M⟩
 replace L:=L.fr ag (af.q 0 J) dN
 refine lno M J<|art 3 [] J ?_
 refine lin (σ:=Int) (fun s=>[(7,v2),(73,v4),(74,iV (F.length:Int)),(75,iV s)]) (fun s=>St w0 R [] [ob v4,ob v2]) (fun m s=>fO N I F m s=some r) (0) N h (sx [0,0] []) (fun n3 aj s hm=>?_)
 revert hm;revert s;intro S hm
 have h:fO N I F (n3+1) S=some r:=hm
 show WT _ _ [(7,v2),(73,v4),(74,iV (F.length:Int)),(75,iV S)] (St w0 R [] [ob v4,ob v2])
 unfold fO at h
 refine att 5 [] J ?_
 refine ch h J ?_ ?_<;>intro h
 ·refine atr 5 [] J ?_
  obtain⟨ak,T,h⟩:=bs h
  obtain⟨aC,F5,-,g3,aD,aE,r3⟩:=M.elS (a8 T).2.2
  obtain⟨rfl,-⟩:=r3
  refine lio M T J<|lgx 0 0 g3 J<|arr 6 [] J<|qc h (jc N · I ak L.rsl ·) J J J fun aF h=>la J<|en ?_
  refine ch h J ?_ ?_<;>intro h
  ·refine att 4 [] J ?_
   exact rt C h
  refine att 6 [] J ?_
  exact lb [0,0] [] (aj _ h)
 refine att 5 [] J ?_
 exact rt C h
theorem mQ {d:Nat} {q:List Value} (w0:aA e a []) (b:(List ah)) (t:ah→Option (Bool)) (u:RSl eK 5 e a1 g b) (A:Fun prog d=true) (B:∀ {i:Hp} {w':World},FrH [] a i→In i w'→∀ (c:ah) {v:Value} {C:List Nat} {w:Value} {D:List Nat} {x:Value} {E:List Nat} (_:RSl cX 3 i C v c.Pats) (_:RSl cL 11 i D w c.Conds) (_:RSl ij 5 i E x c.Acts) {r:Bool},t c=some r→Calls prog d (([.agg [.string c.Name,iV c.Sal,v,w,x].toArray]:List Value)++q).toArray w' (lg (.bool r) w')) {r:Int} (h:ee N b t=some r) :
  CB w0 prog 169 [g,.func (.func d) #[] q.toArray] (iV r):=by
 refine eN func169 J ntmps169 J w0 fun y=>?_
 unfold ee at h
 refine atr 8 [] J<|lnr u J<|art 3 [] J ?_
 refine lin (σ:=Int) (fun s=>[(0,g),(1,.func (.func d) #[] q.toArray),(7,iV (b.length:Int)),(8,iV s)]) (fun s=>St w0 a [] []) (fun m s=>bq N b t m s=some r) (0) N h (sx [] []) (fun F G s hm=>?_)
 revert hm;revert s;intro s1 hm
 have h:bq N b t (F+1) s1=some r:=hm
 show WT _ _ [(0,g),(1,.func (.func d) #[] q.toArray),(7,iV (b.length:Int)),(8,iV s1)] (St w0 a [] [])
 unfold bq at h
 refine att 5 [] J ?_
 refine ch h J ?_ ?_<;>intro h
 ·refine atr 13 [] J ?_
  obtain⟨H,z,h⟩:=bs h
  obtain⟨O,P,-,g1,Q,R,I⟩:=u.el (a8 z).2.2
  obtain⟨v1,S,v2,T,v3,U,rfl,rfl,h1,K,L⟩:=I
  refine lia u z J<|lhx 0 5 g1 J ?_
  obtain⟨V,M,h⟩:=bs h
  refine lp (je A J J (fun W hw=>B hw.frB hw.fro H (h1.y hw.up) (K.y hw.up) (L.y hw.up) M)) J<|en ?_
  refine ch h J ?_ ?_<;>intro h
  ·refine att 5 [] J ?_
   exact rt y h
  refine att 6 [] J ?_
  exact lb [] [] (G _ h)
 refine att 5 [] J ?_
 exact rt y h
theorem wH (w0:aA e a []) (b:ah) (c:Qr) (m:RSl cX 3 e l f b.Pats) (q:RSl cL 11 e o k b.Conds) (s:RSl ij 5 e p j b.Acts) (d:e a6=some (.cells #[.string c] 9 (0,0))) {r:Bool} (h:kf N b c=some r) :
  CB w0 prog 170 [.agg [.string b.Name,iV b.Sal,f,k,j].toArray,pQ a6] (.bool r):=by
 refine eN func170 J ntmps170 J w0 fun i=>?_
 unfold kf at h
 refine sr<|lbx J fun t=>arr 6 [0,0] J<|lhx 0 0 (cn d) J<|art 3 [] J ?_
 exact rt i h
theorem Ai (w0:aA e a []) (c:bf) (d:Qr) (i:RSl eK 5 e l f c.Rules) {r:Int} (h:qA N c d=some r) :
  CB w0 prog 99 [.agg [.string c.Name,f].toArray,.string d] (iV r):=by
 refine eN func99 J ntmps99 J w0 fun m=>?_
 unfold qA at h
 refine sr<|lbx J fun s=>?_
 refine ln (vD (C:=#[.string d]) J (J)) J (fun x=>?_)
 refine arr 6 [1,32] J ?_
 refine WL.frz (js:=[0]) (R:=[(s,.cells #[.string c.Name,f] 26 (0,0))]) J (fun y A t=>?_)
 refine lq (uY J) J<|qz h (fun b z q=>mQ N b c.Rules (fun a0=>kf N a0 d) (i.y z) Jm (fun u v a0=>fun f0 f1 f2=>fun w=>wH N (ba v) a0 d f0 f1 f2 (u _ _ OW t) w) q) J J J fun B h=>la J<|en ?_
 exact rt m h
theorem sG (w0:aA e a []) (b:bf) (q:RSl eK 5 e l f b.Rules) {r:Bool} (h:nV N b=some r) :
  CB w0 prog 40 [.agg [.string b.Name,f].toArray] (.bool r):=by
 refine eN func40 J ntmps40 J w0 fun t=>?_
 unfold nV at h
 refine sr<|lbx J fun i=>arr 7 [0,0] J<|qc h (kr N · b.Name ·) J J J fun D h=>arr 2 [] J ?_
 obtain⟨y,c,h⟩:=bs h
 refine WL.cutN 6 [(15,.bool y),(1,pQ i)] ?_ (fun K=>?_)
 rotate_left
 ·refine sp 9 c J (fun c=>?_) fun c=>?_
  ·refine arr 6 [] J ?_
   cases c
   exact ku K
  ·refine arr 2 [1,0] J<|ly J J<|lnr q J<|ly J J<|qc c (dS N · (b.Rules.length:Int) 1 12 ·) J J J fun E c=>arr 2 [] J ?_
   cases c
   exact ku K
 refine en ?_
 refine ch h J ?_ ?_<;>intro h
 ·refine att 4 [] J ?_
  exact rt t h
 refine atr 6 [1,0] J<|lnr q J<|art 3 [] J ?_
 refine lin (σ:=Int) (fun s=>[(1,pQ i),(17,f),(18,iV (b.Rules.length:Int)),(19,iV s)]) (fun s=>St w0 a [(i,.cells #[.string b.Name,f] 26 (0,0))] []) (fun m s=>gP N b m s=some r) (0) N h (sx [] [0]) (fun z A s hm=>?_)
 revert hm;revert s;intro s1 hm
 have h:gP N b (z+1) s1=some r:=hm
 show WT _ _ [(1,pQ i),(17,f),(18,iV (b.Rules.length:Int)),(19,iV s1)] (St w0 a [(i,.cells #[.string b.Name,f] 26 (0,0))] [])
 unfold gP at h
 refine att 5 [] J ?_
 refine ch h J ?_ ?_<;>intro h
 ·refine atr 6 [] J ?_
  obtain⟨u,v,h⟩:=bs h
  obtain⟨F,G,-,g1,H,I,B⟩:=q.el (a8 v).2.2
  obtain⟨v1,L,v2,M,v3,O,rfl,rfl,h1,w,x⟩:=B
  refine lia q v J<|lhx 0 5 g1 J<|lnz wv J fun P=>la J<|soN 0 zK J ⟨J,J,h1.one,w.one,x.one,trivial⟩ J ?_
  refine arr 4 [5] J<|qd h (A0 N · u h1 w x ·) J J J fun Q h=>arr 2 [] J ?_
  obtain⟨C,d,h⟩:=bs h
  refine WL.cutN 7 [(34,.bool C),(1,pQ i),(17,f),(18,iV (b.Rules.length:Int)),(19,iV s1)] ?_ (fun K=>?_)
  rotate_left
  ·refine sp 27 d J (fun d=>?_) fun d=>?_
   ·refine arr 7 [] J ?_
    cases d
    exact ku K
   ·refine arr 3 [34,0,0] J<|ly J J<|qd d (Ai N · b u.Name q ·) J J J fun R d=>arr 3 [] J ?_
    cases d
    exact ku K
  refine en ?_
  refine ch h J ?_ ?_<;>intro h
  ·refine att 4 [] J ?_
   exact rt t h
  refine att 6 [] J ?_
  exact lb [] [1] (A _ h)
 refine att 5 [] J ?_
 exact rt t h
theorem zV (w0:aA e a []) (b:aL) (d:RSl aY 3 e l f b.Fields) {r:Bool} (h:pY N b=some r) :
  CB w0 prog 63 [.agg [.string b.Kind,f].toArray] (.bool r):=by
 refine eN func63 J ntmps63 J w0 fun i=>?_
 unfold pY at h
 refine sr<|lbx J fun t=>arr 7 [0,0] J<|qc h (kr N · b.Kind ·) J J J fun z h=>arr 2 [] J ?_
 obtain⟨u,c,h⟩:=bs h
 refine WL.cutN 5 [(14,.bool u),(1,pQ t)] ?_ (fun K=>?_)
 rotate_left
 ·refine sp 9 c J (fun c=>?_) fun c=>?_
  ·refine arr 5 [] J ?_
   cases c
   exact ku K
  ·refine arr 2 [1,0] J<|ly J J<|lnr d J<|arr 2 [] J ?_
   cases c
   exact ku K
 refine en ?_
 refine ch h J ?_ ?_<;>intro h
 ·refine att 4 [] J ?_
  exact rt i h
 refine atr 6 [1,0] J<|lnr d J<|art 3 [] J ?_
 refine lin (σ:=Int) (fun s=>[(16,f),(17,iV (b.Fields.length:Int)),(18,iV s)]) (fun s=>St w0 a [] []) (fun m s=>fS N b m s=some r) (0) N h (sx [] []) (fun v w s hm=>?_)
 revert hm;revert s;intro s1 hm
 have h:fS N b (v+1) s1=some r:=hm
 show WT _ _ [(16,f),(17,iV (b.Fields.length:Int)),(18,iV s1)] (St w0 a [] [])
 unfold fS at h
 refine att 5 [] J ?_
 refine ch h J ?_ ?_<;>intro h
 ·refine atr 5 [] J ?_
  obtain⟨x,q,h⟩:=bs h
  obtain⟨A,B,-,g1,C,D,y⟩:=d.el (a8 q).2.2
  obtain⟨rfl,-⟩:=y
  refine lia d q J<|lhx 0 3 g1 J<|lnz kW J fun E=>soN 0 pL J ⟨J,J,J,trivial⟩ J ?_
  refine arr 4 [3] J<|qc h (vG N · x ·) J J J fun F h=>la J<|en ?_
  refine ch h J ?_ ?_<;>intro h
  ·refine att 4 [] J ?_
   exact rt i h
  refine att 6 [] J ?_
  exact lb [] [] (w _ h)
 refine att 5 [] J ?_
 exact rt i h
theorem kP (w0:aA e a []) (b:(List bP)) (c:(List bP)) (d:RSl aY 3 e a1 g b) (t:RSl aY 3 e ai n c) {r:Bool} (h:cJ N b c=some r) :
  CB w0 prog 129 [g,n] (.bool r):=by
 refine eN func129 J ntmps129 J w0 fun u=>?_
 unfold cJ at h
 refine atr 8 [] J<|lnr d J<|la J<|lnr t J<|la J<|en ?_
 refine ch h J ?_ ?_<;>intro h
 ·refine att 4 [] J ?_
  exact rt u h
 refine atr 5 [] J<|lnr d J<|art 3 [] J ?_
 refine lin (σ:=Int) (fun s=>[(0,g),(1,n),(12,iV (b.length:Int)),(13,iV s)]) (fun s=>St w0 a [] []) (fun m s=>bD N b c m s=some r) (0) N h (sx [] []) (fun x y s hm=>?_)
 revert hm;revert s;intro s1 hm
 have h:bD N b c (x+1) s1=some r:=hm
 show WT _ _ [(0,g),(1,n),(12,iV (b.length:Int)),(13,iV s1)] (St w0 a [] [])
 unfold bD at h
 refine att 5 [] J ?_
 refine ch h J ?_ ?_<;>intro h
 ·refine att 9 [] J<|WT.draw mixed OU (fun _ h=>h.drew)<|aqq 2 [] J ?_
  obtain⟨i,v,h⟩:=bs h
  obtain⟨C,D,-,g1,E,F,z⟩:=d.el (a8 v).2.2
  obtain⟨rfl,-⟩:=z
  refine qq (aq jr J J d v) J<|qq (ay lR J (fun A hw=>(g1.of_eq 0 3 J J:rg _ _ _ [iV i.K,iV i.N,.string i.S]).rangeAt hw.in0) J) J<|aqq 2 [] J ?_
  obtain⟨q,w,h⟩:=bs h
  obtain⟨G,H,-,g2,I,K,B⟩:=t.el (a8 w).2.2
  obtain⟨rfl,-⟩:=B
  refine qq (aq jr J J t w) J<|qq (ay lR J (fun A hw=>(g2.of_eq 0 3 J J:rg _ _ _ [iV q.K,iV q.N,.string q.S]).rangeAt hw.in0) J) J<|qq (uF oN J J J (r:=bS i q) J) J<|WQ.nil ?_
  refine ch h J ?_ ?_<;>intro h
  ·refine att 4 [] J ?_
   exact rt u h
  refine att 6 [] J ?_
  exact lb [] [] (y _ h)
 refine att 5 [] J ?_
 exact rt u h
theorem xP (w0:aA e a []) (c:aL) (d:aL) (i:RSl aY 3 e l f c.Fields) (m:RSl aY 3 e pG1_0 ad d.Fields) {r:Bool} (h:nq N c d=some r) :
  CB w0 prog 65 [.agg [.string c.Kind,f].toArray,.agg [.string d.Kind,ad].toArray] (.bool r):=by
 refine eN func65 J ntmps65 J w0 fun q=>?_
 unfold nq at h
 refine sr<|lbx J fun t=>lbx J fun u=>arr 10 [0,32,0,0] J ?_
 obtain⟨s,b,h⟩:=bs h
 refine WL.cutN 6 [(16,.bool s),(4,.bool false)] ?_ (fun K=>?_)
 rotate_left
 ·refine sp 10 b J (fun b=>?_) fun b=>?_
  ·refine arr 4 [1,32,1,0] J<|ly J J<|qd b (kP N · c.Fields d.Fields i m ·) J J J fun v b=>la J ?_
   cases b
   exact ku K
  ·refine arr 6 [] J ?_
   cases b
   exact ku K
 refine la J<|en ?_
 exact rt q h
end Go.Proofs.YtedmfnmbjglmbaaGreat
