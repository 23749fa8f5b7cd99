/- Printed by a program of ours: each Go function computes its Lean function. -/
import Derived.Test.YtnnkgijdbebnaaaGreatProg
import Derived.Test.YtnnkgijdbebnaaaGreatWExactAddItemMod
import Derived.Test.YtnnkgijdbebnaaaGreatEP
namespace Go.Proofs.YtnnkgijdbebnaaaGreat
open Eng Tryz
open Go.RowKit (Below)
set_option linter.unusedVariables false
set_option linter.unusedSimpArgs false

set_option maxRecDepth 100000
set_option maxHeartbeats 1000000
theorem co:prog.follows .mixedOrders=true:=by kernel_rfl
theorem P4:T1 prog 9=true:=by kernel_rfl
theorem fL:Str prog 9=true:=by kernel_rfl
theorem aR:Sl prog 105 3 1=true:=by kernel_rfl
theorem jK:T1 prog 105=true:=by kernel_rfl
theorem uF:madeCells (Value.agg #[.slice none 0 0,.slice none 0 0]:Value).cells (0*2) = #[]:=by kernel_rfl
theorem cg:Sl prog 127 160 2=true:=by kernel_rfl
theorem eD:(prog.info? 160).map (·.zero)=some (some (.agg #[.slice none 0 0,.slice none 0 0])):=by kernel_rfl
theorem o2:Fld prog 160 0 0=true:=by kernel_rfl
theorem lW:Fld prog 160 1 1=true:=by kernel_rfl
theorem o7:(prog.info? 3).map (·.zero)=some (some (iV 0)):=by kernel_rfl
theorem sP:(prog.info? 3).map (fun i=>(i.zero,i.size,i.bytes))=some (some (iV 0),1,8):=by kernel_rfl
theorem xx:Pl prog 160 #[(0,1),(1,1)]=true:=by kernel_rfl
theorem tF:madeCells (Value.agg #[.slice none 0 0,.slice none 0 0]:Value).cells (1*2) = #[.slice none 0 0,.slice none 0 0]:=by kernel_rfl
theorem pC:(prog.info? 160).map (fun i=>(i.zero,i.size,i.bytes))=some (some (.agg #[.slice none 0 0,.slice none 0 0]),2,48):=by kernel_rfl
theorem j6:(prog.info? 43).map (·.zero)=some (some (.agg #[.slice none 0 0,.slice none 0 0])):=by kernel_rfl
theorem NZ:Pl prog 43 #[(0,1),(1,1)]=true:=by kernel_rfl
theorem kI:Sz prog 43 2=true:=by kernel_rfl
theorem to:Fld prog 43 0 0=true:=by kernel_rfl
theorem FG:T1 prog 40=true:=by kernel_rfl
theorem ss:Sl prog 40 123 1=true:=by kernel_rfl
theorem mr:Fld prog 123 0 0=true:=by kernel_rfl
theorem J9:Pl prog 123 #[(0,1)]=true:=by kernel_rfl
theorem uN:(prog.info? 123).map (·.zero)=some (some (.agg #[.slice none 0 0])):=by kernel_rfl
theorem FU:madeCells (Value.agg #[.slice none 0 0]:Value).cells (1*1) = #[.slice none 0 0]:=by kernel_rfl
theorem Jf:(prog.info? 123).map (fun i=>(i.zero,i.size,i.bytes))=some (some (.agg #[.slice none 0 0]),1,24):=by kernel_rfl
theorem Jy:Sz prog 40 1=true:=by kernel_rfl
theorem wk:Fld prog 43 1 1=true:=by kernel_rfl
theorem xO:Sl prog 41 126 1=true:=by kernel_rfl
theorem MB:Pl prog 126 #[(0,1)]=true:=by kernel_rfl
theorem rG:(prog.info? 126).map (·.zero)=some (some (.agg #[.slice none 0 0])):=by kernel_rfl
theorem xK:Sz prog 126 1=true:=by kernel_rfl
theorem jA:Fld prog 126 0 0=true:=by kernel_rfl
theorem Hi:T1 prog 124=true:=by kernel_rfl
theorem pw:Sl prog 124 130 1=true:=by kernel_rfl
theorem gg:Fld prog 130 0 0=true:=by kernel_rfl
theorem Ff:T1 prog 127=true:=by kernel_rfl
theorem MK:Fun prog 61=true:=by kernel_rfl
theorem Lu:Pl prog 130 #[(0,1)]=true:=by kernel_rfl
theorem tI:(prog.info? 130).map (·.zero)=some (some (.agg #[.slice none 0 0])):=by kernel_rfl
theorem FP:madeCells (Value.agg #[.slice none 0 0]:Value).cells (1*1) = #[.slice none 0 0]:=by kernel_rfl
theorem IH:(prog.info? 130).map (fun i=>(i.zero,i.size,i.bytes))=some (some (.agg #[.slice none 0 0]),1,24):=by kernel_rfl
theorem Hb:Sz prog 124 1=true:=by kernel_rfl
theorem xN:Tn prog 126 1=true:=by kernel_rfl
theorem Ft:madeCells (Value.agg #[.slice none 0 0]:Value).cells (1*1) = #[.slice none 0 0]:=by kernel_rfl
theorem Jv:(prog.info? 126).map (fun i=>(i.zero,i.size,i.bytes))=some (some (.agg #[.slice none 0 0]),1,24):=by kernel_rfl
theorem IN:Sz prog 41 1=true:=by kernel_rfl
theorem Gl:Tn prog 43 2=true:=by kernel_rfl
theorem kj:(prog.info? 133).map (·.zero)=some (some (.agg #[.string ⟨#[]⟩,.slice none 0 0])):=by kernel_rfl
theorem ep:Sl prog 131 193 3=true:=by kernel_rfl
theorem jI:(prog.info? 193).map (·.zero)=some (some (.agg #[iV 0,iV 0,.string ⟨#[]⟩])):=by kernel_rfl
theorem Dc:Fld prog 133 1 1=true:=by kernel_rfl
theorem N3:T1 prog 131=true:=by kernel_rfl
theorem DA:(prog.info? 193).map (fun i=>(i.zero,i.size,i.bytes))=some (some (.agg #[iV 0,iV 0,.string ⟨#[]⟩]),3,32):=by kernel_rfl
theorem AG:Sz prog 131 1=true:=by kernel_rfl
theorem pq:Tn prog 133 2=true:=by kernel_rfl
theorem kL:Sz prog 133 2=true:=by kernel_rfl
theorem IE:Fld prog 57 0 0=true:=by kernel_rfl
theorem xR:Sl prog 55 156 3=true:=by kernel_rfl
theorem sU:Fld prog 156 0 0=true:=by kernel_rfl
theorem vd:T1 prog 3=true:=by kernel_rfl
theorem xG:Fld prog 156 1 1=true:=by kernel_rfl
theorem H6:Pl prog 133 #[(0,1),(1,1)]=true:=by kernel_rfl
theorem HX:Ik prog 5 .u8=true:=by kernel_rfl
theorem Jn:Ik prog 3 .i64=true:=by kernel_rfl
theorem HC:Fun prog 106=true:=by kernel_rfl
theorem Ia:Fld prog 193 0 0=true:=by kernel_rfl
theorem Iq:Fld prog 193 1 1=true:=by kernel_rfl
theorem I6:Fld prog 193 2 2=true:=by kernel_rfl
theorem iY:Tn prog 193 3=true:=by kernel_rfl
theorem KA:Fun prog 154=true:=by kernel_rfl
theorem mK:EqT prog 193 [.i .i64,.i .i64,.s]=true:=by kernel_rfl
theorem KT:Fun prog 156=true:=by kernel_rfl
theorem GC:Tn prog 156 3=true:=by kernel_rfl
theorem uM:(prog.info? 156).map (·.zero)=some (some (.agg #[iV 0,.string ⟨#[]⟩,.slice none 0 0])):=by kernel_rfl
theorem vP:Sz prog 156 3=true:=by kernel_rfl
theorem KL:Fun prog 107=true:=by kernel_rfl
theorem y6:Tn prog 57 2=true:=by kernel_rfl
theorem KK:Fun prog 108=true:=by kernel_rfl
theorem uU:Fld prog 148 2 2=true:=by kernel_rfl
theorem tY:Sl prog 144 212 3=true:=by kernel_rfl
theorem lP:Fld prog 212 2 2=true:=by kernel_rfl
theorem uB:Sl prog 287 9 1=true:=by kernel_rfl
theorem ID:(prog.info? 9).map (·.zero)=some (some (.string ⟨#[]⟩)):=by kernel_rfl
theorem Dr:Fld prog 212 1 1=true:=by kernel_rfl
theorem xf:Sl prog 210 224 5=true:=by kernel_rfl
theorem xB:Fld prog 224 0 0=true:=by kernel_rfl
theorem xm:Fld prog 224 1 1=true:=by kernel_rfl
theorem GI:madeCells (Value.string ⟨#[]⟩:Value).cells (1*1) = #[.string ⟨#[]⟩]:=by kernel_rfl
theorem MA:(prog.info? 9).map (fun i=>(i.zero,i.size,i.bytes))=some (some (.string ⟨#[]⟩),1,16):=by kernel_rfl
theorem vU:Tn prog 212 3=true:=by kernel_rfl
theorem Im:Fld prog 224 2 2=true:=by kernel_rfl
theorem za:Pl prog 193 #[(0,1),(1,1),(2,1)]=true:=by kernel_rfl
theorem DF:Tn prog 224 5=true:=by kernel_rfl
theorem HZ:Fld prog 212 0 0=true:=by kernel_rfl
theorem Ie:Fld prog 226 0 0=true:=by kernel_rfl
theorem Da:Fld prog 226 1 1=true:=by kernel_rfl
theorem Dg:Fld prog 226 2 6=true:=by kernel_rfl
theorem GD:Sl prog 145 226 11=true:=by kernel_rfl
theorem GG:Tn prog 226 11=true:=by kernel_rfl
theorem HY:Fld prog 281 0 0=true:=by kernel_rfl
theorem Dq:Fld prog 281 1 1=true:=by kernel_rfl
theorem Dn:Fld prog 281 2 6=true:=by kernel_rfl
theorem Jm:Pl prog 224 #[(0,1),(1,1),(2,3)]=true:=by kernel_rfl
theorem pG:(prog.info? 224).map (·.zero)=some (some (.agg #[iV 0,.string ⟨#[]⟩,iV 0,iV 0,.string ⟨#[]⟩])):=by kernel_rfl
theorem HL:EqT prog 224 [.i .i64,.s,.i .i64,.i .i64,.s]=true:=by kernel_rfl
theorem H1:Sl prog 227 281 11=true:=by kernel_rfl
theorem Hf:Tn prog 281 11=true:=by kernel_rfl
theorem I7:Fld prog 229 1 1=true:=by kernel_rfl
theorem tA:Fld prog 229 2 2=true:=by kernel_rfl
theorem I3:Fld prog 229 4 4=true:=by kernel_rfl
theorem CX:Fld prog 229 0 0=true:=by kernel_rfl
theorem Db:Fld prog 229 3 3=true:=by kernel_rfl
theorem GV:Sl prog 146 229 5=true:=by kernel_rfl
theorem DO:Tn prog 229 5=true:=by kernel_rfl
theorem pn:Tn prog 148 5=true:=by kernel_rfl
theorem xu:Fld prog 148 0 0=true:=by kernel_rfl
theorem Is:Fld prog 148 1 1=true:=by kernel_rfl
theorem JT:Fun prog 195=true:=by kernel_rfl
theorem CT:Fld prog 148 3 3=true:=by kernel_rfl
theorem KW:Fun prog 196=true:=by kernel_rfl
theorem CY:Fld prog 148 4 4=true:=by kernel_rfl
theorem JM:Fun prog 165=true:=by kernel_rfl
theorem KC:Fun prog 197=true:=by kernel_rfl
theorem J7:Fld prog 47 1 1=true:=by kernel_rfl
theorem CR:Sl prog 45 148 5=true:=by kernel_rfl
theorem KR:Fun prog 157=true:=by kernel_rfl
theorem La:Tn prog 47 2=true:=by kernel_rfl
theorem JQ:Fun prog 158=true:=by kernel_rfl
theorem HS:Fld prog 142 0 0=true:=by kernel_rfl
theorem Ii:Fld prog 142 1 1=true:=by kernel_rfl
theorem uY:Fld prog 142 3 3=true:=by kernel_rfl
theorem HP:Fun prog 160=true:=by kernel_rfl
theorem xl:Fld prog 142 2 2=true:=by kernel_rfl
theorem oZ:Fld prog 52 0 0=true:=by kernel_rfl
theorem Jx:T1 prog 49=true:=by kernel_rfl
theorem uE:Sl prog 49 142 4=true:=by kernel_rfl
theorem Aj:Fld prog 52 1 1=true:=by kernel_rfl
theorem th:Sl prog 50 149 2=true:=by kernel_rfl
theorem pr:Tn prog 142 4=true:=by kernel_rfl
theorem HA:Fun prog 159=true:=by kernel_rfl
theorem nQ:Fld prog 149 0 0=true:=by kernel_rfl
theorem nL:Fld prog 149 1 1=true:=by kernel_rfl
theorem FR:madeCells (Value.agg #[.string ⟨#[]⟩,iV 0,.slice none 0 0,.slice none 0 0]:Value).cells (1*4) = #[.string ⟨#[]⟩,iV 0,.slice none 0 0,.slice none 0 0]:=by kernel_rfl
theorem kP:(prog.info? 142).map (·.zero)=some (some (.agg #[.string ⟨#[]⟩,iV 0,.slice none 0 0,.slice none 0 0])):=by kernel_rfl
theorem Jh:(prog.info? 142).map (fun i=>(i.zero,i.size,i.bytes))=some (some (.agg #[.string ⟨#[]⟩,iV 0,.slice none 0 0,.slice none 0 0]),4,72):=by kernel_rfl
theorem JA:Sz prog 49 1=true:=by kernel_rfl
theorem IT:Pl prog 142 #[(0,1),(1,1),(2,1),(3,1)]=true:=by kernel_rfl
theorem qP:Sz prog 142 4=true:=by kernel_rfl
theorem Gi:madeCells (Value.agg #[iV 0,iV 0,.string ⟨#[]⟩]:Value).cells (1*3) = #[iV 0,iV 0,.string ⟨#[]⟩]:=by kernel_rfl
theorem mE:madeCells (Value.int .i64 0:Value).cells (1*1) = #[iV 0]:=by kernel_rfl
theorem kO:Sz prog 105 1=true:=by kernel_rfl
theorem w5:(prog.info? 52).map (·.zero)=some (some (.agg #[.slice none 0 0,.slice none 0 0])):=by kernel_rfl
theorem Od:Pl prog 52 #[(0,1),(1,1)]=true:=by kernel_rfl
theorem Du:Sz prog 52 2=true:=by kernel_rfl
theorem Mt:Pl prog 149 #[(0,1),(1,1)]=true:=by kernel_rfl
theorem qG:(prog.info? 149).map (·.zero)=some (some (.agg #[.slice none 0 0,.slice none 0 0])):=by kernel_rfl
theorem xw:Sz prog 149 2=true:=by kernel_rfl
theorem pE:(prog.info? 212).map (·.zero)=some (some (.agg #[.string ⟨#[]⟩,.slice none 0 0,.bool false])):=by kernel_rfl
theorem sN:Sz prog 212 3=true:=by kernel_rfl
theorem AF:Tn prog 149 2=true:=by kernel_rfl
theorem FB:madeCells (Value.agg #[.slice none 0 0,.slice none 0 0]:Value).cells (1*2) = #[.slice none 0 0,.slice none 0 0]:=by kernel_rfl
theorem IC:(prog.info? 149).map (fun i=>(i.zero,i.size,i.bytes))=some (some (.agg #[.slice none 0 0,.slice none 0 0]),2,48):=by kernel_rfl
theorem Iq0:Sz prog 50 1=true:=by kernel_rfl
theorem Hw:Tn prog 52 2=true:=by kernel_rfl
theorem KO:Fun prog 111=true:=by kernel_rfl
theorem Jp:Fun prog 62=true:=by kernel_rfl
theorem o4:Sl prog 207 271 4=true:=by kernel_rfl
theorem I1:Fld prog 271 0 0=true:=by kernel_rfl
theorem I9:Fld prog 271 1 1=true:=by kernel_rfl
theorem rR:Sz prog 193 3=true:=by kernel_rfl
theorem tU:(prog.info? 271).map (·.zero)=some (some (.agg #[.string ⟨#[]⟩,iV 0,iV 0,.string ⟨#[]⟩])):=by kernel_rfl
theorem zu:(prog.info? 271).map (fun i=>(i.zero,i.size,i.bytes))=some (some (.agg #[.string ⟨#[]⟩,iV 0,iV 0,.string ⟨#[]⟩]),4,48):=by kernel_rfl
theorem qO:Sz prog 224 5=true:=by kernel_rfl
theorem JD:Pl prog 271 #[(0,1),(1,3)]=true:=by kernel_rfl
theorem FA:madeCells (Value.agg #[.string ⟨#[]⟩,iV 0,iV 0,.string ⟨#[]⟩]:Value).cells (1*4) = #[.string ⟨#[]⟩,iV 0,iV 0,.string ⟨#[]⟩]:=by kernel_rfl
theorem Ho:Fun prog 198=true:=by kernel_rfl
theorem JL:Fun prog 163=true:=by kernel_rfl
theorem Kv:Fun prog 164=true:=by kernel_rfl
theorem j5:Sz prog 3 1=true:=by kernel_rfl
theorem NP:By prog 3 8=true:=by kernel_rfl
theorem zM:Tn prog 160 2=true:=by kernel_rfl
theorem sO:Sz prog 160 2=true:=by kernel_rfl
theorem Kb:Fun prog 113=true:=by kernel_rfl
theorem Gq:Sl prog 139 4 1=true:=by kernel_rfl
theorem HO:Fun prog 114=true:=by kernel_rfl
theorem Kx:Fun prog 115=true:=by kernel_rfl
theorem El:Sz prog 127 1=true:=by kernel_rfl
theorem Ow:(prog.info? 4).map (·.zero)=some (some (.bool false)):=by kernel_rfl
theorem Mg:Fun prog 66=true:=by kernel_rfl
theorem Nf:madeCells (Value.bool false:Value).cells (1*1) = #[.bool false]:=by kernel_rfl
theorem Pa:(prog.info? 4).map (fun i=>(i.zero,i.size,i.bytes))=some (some (.bool false),1,1):=by kernel_rfl
theorem MG:Fun prog 67=true:=by kernel_rfl
theorem nA:Sz prog 9 1=true:=by kernel_rfl
theorem M1:By prog 224 56=true:=by kernel_rfl
theorem LM:Sz prog 210 1=true:=by kernel_rfl
theorem NA:Sz prog 4 1=true:=by kernel_rfl
theorem LN:By prog 212 48=true:=by kernel_rfl
theorem zr:(prog.info? 226).map (·.zero)=some (some (.agg #[iV 0,iV 0,.string ⟨#[]⟩,iV 0,iV 0,.string ⟨#[]⟩,iV 0,.string ⟨#[]⟩,iV 0,iV 0,.string ⟨#[]⟩])):=by kernel_rfl
theorem DR:Sz prog 226 11=true:=by kernel_rfl
theorem Ly:By prog 226 120=true:=by kernel_rfl
theorem zY:(prog.info? 281).map (·.zero)=some (some (.agg #[.string ⟨#[]⟩,iV 0,.string ⟨#[]⟩,iV 0,iV 0,.string ⟨#[]⟩,iV 0,.string ⟨#[]⟩,iV 0,iV 0,.string ⟨#[]⟩])):=by kernel_rfl
theorem E1:Sz prog 281 11=true:=by kernel_rfl
theorem M3:By prog 281 128=true:=by kernel_rfl
theorem AD:(prog.info? 229).map (·.zero)=some (some (.agg #[iV 0,.string ⟨#[]⟩,.slice none 0 0,iV 0,.string ⟨#[]⟩])):=by kernel_rfl
theorem MU:Sz prog 227 1=true:=by kernel_rfl
theorem Fi:Sz prog 229 5=true:=by kernel_rfl
theorem MD:By prog 229 72=true:=by kernel_rfl
theorem xC:(prog.info? 148).map (·.zero)=some (some (.agg #[.string ⟨#[]⟩,iV 0,.slice none 0 0,.slice none 0 0,.slice none 0 0])):=by kernel_rfl
theorem My:Sz prog 144 1=true:=by kernel_rfl
theorem M5:Sz prog 145 1=true:=by kernel_rfl
theorem N7:Sz prog 146 1=true:=by kernel_rfl
theorem Ad:Sz prog 148 5=true:=by kernel_rfl
theorem Ns:By prog 148 96=true:=by kernel_rfl
theorem Jd:(prog.info? 47).map (·.zero)=some (some (.agg #[.string ⟨#[]⟩,.slice none 0 0])):=by kernel_rfl
theorem Ox:Sz prog 45 1=true:=by kernel_rfl
theorem KZ:Sz prog 47 2=true:=by kernel_rfl
theorem Lo:By prog 193 32=true:=by kernel_rfl
theorem N8:By prog 142 72=true:=by kernel_rfl
theorem LJ:By prog 149 48=true:=by kernel_rfl
theorem EW:Tn prog 123 1=true:=by kernel_rfl
theorem GY:Sz prog 123 1=true:=by kernel_rfl
theorem Mh:By prog 123 24=true:=by kernel_rfl
theorem MP:By prog 160 48=true:=by kernel_rfl
theorem zo:Tn prog 130 1=true:=by kernel_rfl
theorem EQ:Sz prog 130 1=true:=by kernel_rfl
theorem N4:By prog 130 24=true:=by kernel_rfl
theorem Ng:By prog 126 24=true:=by kernel_rfl
theorem Lm:By prog 156 48=true:=by kernel_rfl
theorem IZ:(prog.info? 57).map (·.zero)=some (some (.agg #[.slice none 0 0,iV 0])):=by kernel_rfl
theorem Oa:Sz prog 55 1=true:=by kernel_rfl
theorem KY:Sz prog 57 2=true:=by kernel_rfl
theorem Gu:Fun prog 74=true:=by kernel_rfl
theorem Kc:Fun prog 129=true:=by kernel_rfl
theorem Hr:Fun prog 208=true:=by kernel_rfl
theorem Kt:Fun prog 232=true:=by kernel_rfl
theorem MM:Bo prog 4=true:=by kernel_rfl
theorem FF:madeCells (Value.agg #[iV 0,.string ⟨#[]⟩,iV 0,iV 0,.string ⟨#[]⟩]:Value).cells (2*5) = #[iV 0,.string ⟨#[]⟩,iV 0,iV 0,.string ⟨#[]⟩,iV 0,.string ⟨#[]⟩,iV 0,iV 0,.string ⟨#[]⟩]:=by kernel_rfl
theorem Kr:Fun prog 207=true:=by kernel_rfl
theorem JZ:Fun prog 213=true:=by kernel_rfl
theorem KH:Fun prog 126=true:=by kernel_rfl
theorem JO:Fun prog 128=true:=by kernel_rfl
theorem KM:Fun prog 130=true:=by kernel_rfl
theorem KJ:Fun prog 178=true:=by kernel_rfl
theorem Ix:madeCells (Value.agg #[.string ⟨#[]⟩,.slice none 0 0,.bool false]:Value).cells (1*3) = #[.string ⟨#[]⟩,.slice none 0 0,.bool false]:=by kernel_rfl
theorem Nh:(prog.info? 212).map (fun i=>(i.zero,i.size,i.bytes))=some (some (.agg #[.string ⟨#[]⟩,.slice none 0 0,.bool false]),3,48):=by kernel_rfl
theorem H4:(prog.info? 162).map (·.zero)=some (some (.agg #[.slice none 0 0,.slice none 0 0,.slice none 0 0,.slice none 0 0,.slice none 0 0,.slice none 0 0,iV 0,iV 0])):=by kernel_rfl
theorem HQ:Fun prog 133=true:=by kernel_rfl
theorem Nr:Pl prog 162 #[(0,1),(1,1),(2,2),(4,1),(5,2),(7,1)]=true:=by kernel_rfl
theorem IX:Sz prog 162 8=true:=by kernel_rfl
theorem IF:Tn prog 162 8=true:=by kernel_rfl
theorem Mo:Sz prog 271 4=true:=by kernel_rfl
theorem JR:Fun prog 135=true:=by kernel_rfl
theorem JI:Fun prog 136=true:=by kernel_rfl
theorem LF:Fun prog 81=true:=by kernel_rfl
theorem Lw:Fun prog 83=true:=by kernel_rfl
theorem Kk:Fun prog 238=true:=by kernel_rfl
theorem Ka:Fun prog 182=true:=by kernel_rfl
theorem MS:Fun prog 84=true:=by kernel_rfl
theorem Kz:Fun prog 186=true:=by kernel_rfl
theorem K9:Fun prog 217=true:=by kernel_rfl
theorem Km:Fun prog 183=true:=by kernel_rfl
theorem Ky:Fun prog 184=true:=by kernel_rfl
theorem JX:Fun prog 239=true:=by kernel_rfl
theorem JY:Fun prog 185=true:=by kernel_rfl
theorem Mv:Fun prog 85=true:=by kernel_rfl
theorem Ll:Fun prog 86=true:=by kernel_rfl
theorem Mn:Fun prog 87=true:=by kernel_rfl
theorem Mx:Fun prog 88=true:=by kernel_rfl
theorem Ms:madeCells (Value.int .u8 0:Value).cells (1*1) = #[.int .u8 0]:=by kernel_rfl
theorem Ju:Sl prog 221 5 1=true:=by kernel_rfl
theorem P9:(prog.info? 5).map (·.zero)=some (some (.int .u8 0)):=by kernel_rfl
theorem FM:Fun prog 9=true:=by kernel_rfl
theorem vR:Fun prog 10=true:=by kernel_rfl
theorem tV:Fun prog 11=true:=by kernel_rfl
theorem rh:Fun prog 12=true:=by kernel_rfl
theorem Dd:Fun prog 8=true:=by kernel_rfl
theorem wW:Fun prog 13=true:=by kernel_rfl
variable {Ψ Φ:Hp} {pv0 pv0_0 pv0_1 pv0_2:Value} {pG0 pG0_0 pG0_1 pG0_2:List Nat} (N:Nat)
theorem w9  (w0:af Ψ Φ []) (p0:aL) (p1:Int)  {r:Int} (h:nU N p0 p1=some r) :
  CB w0 prog 152 [.agg [iV p0.K,iV p0.N,.string p0.S].toArray,iV p1] (iV r):=by
 refine eN func152 rfl ntmps152 rfl w0 fun hF=>?_
 unfold nU at h
 refine sr<|lbx rfl fun b_1=>arr 7 [2,0] rfl<|lq (gC fL rfl rfl) rfl<|art 9 [] rfl ?_
 refine ch h rfl ?_ ?_ <;> intro h
 ·refine att 4 [] rfl ?_
  exact rt hF h
 refine att 6 [] rfl ?_
 exact rt hF h
theorem mX  (w0:af Ψ Φ []) (p0:be) (p1:Int)  {r:Int} (h:ji N p0 p1=some r) :
  CB w0 prog 188 [.agg [iV p0.K,.string p0.S,iV p0.V.K,iV p0.V.N,.string p0.V.S].toArray,iV p1] (iV r):=by
 refine eN func188 rfl ntmps188 rfl w0 fun hF=>?_
 unfold ji at h
 refine sr<|lbx rfl fun b_1=>arr 7 [1,0] rfl<|lq (gC fL rfl rfl) rfl<|art 9 [] rfl ?_
 refine ch h rfl ?_ ?_ <;> intro h
 ·refine att 4 [] rfl ?_
  exact rt hF h
 refine atr 6 [2,3] rfl<|qc h (w9 N · p0.V (wz (p1 - (p0.S.size:Int))) ·) rfl rfl rfl fun x1 h=>art 8 [] rfl ?_
 refine ch h rfl ?_ ?_ <;> intro h
 ·refine att 4 [] rfl ?_
  exact rt hF h
 refine att 6 [] rfl ?_
 exact rt hF h
theorem CL (w0:af Ψ Φ []) (p0:(List be)) (p1:Int) (ph0:RSl bQ 5 Ψ pG0 pv0 p0) {r:Int} (h:rS N p0 p1=some r) :
  CB w0 prog 187 [pv0,iV p1] (iV r):=by
 refine eN func187 rfl ntmps187 rfl w0 fun hF=>?_
 unfold rS at h
 refine atr 8 [] rfl<|lnr ph0 rfl<|art 9 [] rfl ?_
 refine ch h rfl ?_ ?_ <;> intro h
 ·refine att 4 [] rfl ?_
  exact rt hF h
 refine att 7 [] rfl ?_
 refine lin (σ:=Int × Int) (fun s=>[(0,pv0),(1,iV s.1),(5,iV s.2)]) (fun s=>St w0 Φ [] []) (fun m s=>jl N p0 m s.1 s.2=some r) (wz (p1 - (p0.length:Int)),0) N h (sx [] []) (fun n1 ih1 s hm=>?_)
 obtain ⟨s1,s2⟩:=s
 have h:jl N p0 (n1+1) s1 s2=some r:=hm
 show WT _ _ [(0,pv0),(1,iV s1),(5,iV s2)] (St w0 Φ [] [])
 unfold jl at h
 refine atr 5 [] rfl<|lnr ph0 rfl<|la rfl<|en ?_
 refine ch h rfl ?_ ?_ <;> intro h
 ·refine atr 7 [] rfl ?_
  obtain ⟨x1,hx1,h⟩:=bs h
  obtain ⟨cs1,F1,-,g1,hb1,hs1,r1⟩:=ph0.el (a7 hx1).2.2
  obtain ⟨rfl,-⟩:=r1
  refine lia ph0 hx1 rfl<|lhx 0 5 g1 rfl<|la rfl<|qc h (mX N · x1 s1 ·) rfl rfl rfl fun x2 h=>art 7 [] rfl ?_
  refine ch h rfl ?_ ?_ <;> intro h
  ·refine att 4 [] rfl ?_
   exact rt hF h
  refine att 7 [] rfl ?_
  exact lb [] [] (ih1 (_,_) h)
 refine att 6 [] rfl ?_
 exact rt hF h
theorem Ew (w0:af Ψ Φ []) (p0:av) (p1:Int) (ph0_0:RSl bQ 5 Ψ pG0_0 pv0_0 p0.Args) {r:Int} (h:qx N p0 p1=some r) :
  CB w0 prog 149 [.agg [.string p0.Kind,pv0_0,.bool p0.Not].toArray,iV p1] (iV r):=by
 refine eN func149 rfl ntmps149 rfl w0 fun hF=>?_
 unfold qx at h
 refine sr<|lbx rfl fun b_1=>arr 7 [0,0] rfl<|lq (gC fL rfl rfl) rfl<|art 9 [] rfl ?_
 refine ch h rfl ?_ ?_ <;> intro h
 ·refine att 4 [] rfl ?_
  exact rt hF h
 refine atr 6 [1,0] rfl<|qd h (CL N · p0.Args (wz (p1 - (p0.Kind.size:Int))) ph0_0 ·) rfl rfl rfl fun x1 h=>art 8 [] rfl ?_
 refine ch h rfl ?_ ?_ <;> intro h
 ·refine att 4 [] rfl ?_
  exact rt hF h
 refine att 6 [] rfl ?_
 exact rt hF h
theorem Cu (w0:af Ψ Φ []) (p0:(List av)) (p1:Int) (ph0:RSl bJ 3 Ψ pG0 pv0 p0) {r:Int} (h:rB N p0 p1=some r) :
  CB w0 prog 98 [pv0,iV p1] (iV r):=by
 refine eN func98 rfl ntmps98 rfl w0 fun hF=>?_
 unfold rB at h
 refine atr 8 [] rfl<|lnr ph0 rfl<|art 9 [] rfl ?_
 refine ch h rfl ?_ ?_ <;> intro h
 ·refine att 4 [] rfl ?_
  exact rt hF h
 refine att 7 [] rfl ?_
 refine lin (σ:=Int × Int) (fun s=>[(0,pv0),(1,iV s.1),(5,iV s.2)]) (fun s=>St w0 Φ [] []) (fun m s=>jH N p0 m s.1 s.2=some r) (wz (p1 - (p0.length:Int)),0) N h (sx [] []) (fun n1 ih1 s hm=>?_)
 obtain ⟨s1,s2⟩:=s
 have h:jH N p0 (n1+1) s1 s2=some r:=hm
 show WT _ _ [(0,pv0),(1,iV s1),(5,iV s2)] (St w0 Φ [] [])
 unfold jH at h
 refine atr 5 [] rfl<|lnr ph0 rfl<|la rfl<|en ?_
 refine ch h rfl ?_ ?_ <;> intro h
 ·refine atr 7 [] rfl ?_
  obtain ⟨x1,hx1,h⟩:=bs h
  obtain ⟨cs1,F1,-,g1,hb1,hs1,r1⟩:=ph0.el (a7 hx1).2.2
  obtain ⟨v1,G1,rfl,hq1,h1⟩:=r1
  obtain rfl:=hq1.symm
  refine lia ph0 hx1 rfl<|lhx 0 3 g1 rfl<|la rfl<|qd h (Ew N · x1 s1 h1 ·) rfl rfl rfl fun x2 h=>art 7 [] rfl ?_
  refine ch h rfl ?_ ?_ <;> intro h
  ·refine att 4 [] rfl ?_
   exact rt hF h
  refine att 7 [] rfl ?_
  exact lb [] [] (ih1 (_,_) h)
 refine att 6 [] rfl ?_
 exact rt hF h
theorem Cd  (w0:af Ψ Φ []) (p0:bn) (p1:Int)  {r:Int} (h:nX N p0 p1=some r) :
  CB w0 prog 150 [.agg [iV p0.Op,iV p0.L.K,.string p0.L.S,iV p0.L.V.K,iV p0.L.V.N,.string p0.L.V.S,iV p0.R.K,.string p0.R.S,iV p0.R.V.K,iV p0.R.V.N,.string p0.R.V.S].toArray,iV p1] (iV r):=by
 refine eN func150 rfl ntmps150 rfl w0 fun hF=>?_
 unfold nX at h
 refine sr<|lbx rfl fun b_1=>arr 7 [1,5] rfl<|qc h (mX N · p0.L p1 ·) rfl rfl rfl fun x1 h=>art 8 [] rfl ?_
 refine ch h rfl ?_ ?_ <;> intro h
 ·refine att 4 [] rfl ?_
  exact rt hF h
 refine atr 6 [6,5] rfl<|qc h (mX N · p0.R x1 ·) rfl rfl rfl fun x2 h=>art 8 [] rfl ?_
 refine ch h rfl ?_ ?_ <;> intro h
 ·refine att 4 [] rfl ?_
  exact rt hF h
 refine att 6 [] rfl ?_
 exact rt hF h
theorem B7 (w0:af Ψ Φ []) (p0:(List bn)) (p1:Int) (ph0:RSl bd 11 Ψ pG0 pv0 p0) {r:Int} (h:oI N p0 p1=some r) :
  CB w0 prog 99 [pv0,iV p1] (iV r):=by
 refine eN func99 rfl ntmps99 rfl w0 fun hF=>?_
 unfold oI at h
 refine atr 8 [] rfl<|lnr ph0 rfl<|art 9 [] rfl ?_
 refine ch h rfl ?_ ?_ <;> intro h
 ·refine att 4 [] rfl ?_
  exact rt hF h
 refine att 7 [] rfl ?_
 refine lin (σ:=Int × Int) (fun s=>[(0,pv0),(1,iV s.1),(5,iV s.2)]) (fun s=>St w0 Φ [] []) (fun m s=>iC N p0 m s.1 s.2=some r) (wz (p1 - (p0.length:Int)),0) N h (sx [] []) (fun n1 ih1 s hm=>?_)
 obtain ⟨s1,s2⟩:=s
 have h:iC N p0 (n1+1) s1 s2=some r:=hm
 show WT _ _ [(0,pv0),(1,iV s1),(5,iV s2)] (St w0 Φ [] [])
 unfold iC at h
 refine atr 5 [] rfl<|lnr ph0 rfl<|la rfl<|en ?_
 refine ch h rfl ?_ ?_ <;> intro h
 ·refine atr 7 [] rfl ?_
  obtain ⟨x1,hx1,h⟩:=bs h
  obtain ⟨cs1,F1,-,g1,hb1,hs1,r1⟩:=ph0.el (a7 hx1).2.2
  obtain ⟨rfl,-⟩:=r1
  refine lia ph0 hx1 rfl<|lhx 0 11 g1 rfl<|la rfl<|qc h (Cd N · x1 s1 ·) rfl rfl rfl fun x2 h=>art 7 [] rfl ?_
  refine ch h rfl ?_ ?_ <;> intro h
  ·refine att 4 [] rfl ?_
   exact rt hF h
  refine att 7 [] rfl ?_
  exact lb [] [] (ih1 (_,_) h)
 refine att 6 [] rfl ?_
 exact rt hF h
theorem Cj  (w0:af Ψ Φ []) (p0:bk) (p1:Int)  {r:Int} (h:o0 N p0 p1=some r) :
  CB w0 prog 219 [.agg [.string p0.Op,iV p0.L.K,.string p0.L.S,iV p0.L.V.K,iV p0.L.V.N,.string p0.L.V.S,iV p0.R.K,.string p0.R.S,iV p0.R.V.K,iV p0.R.V.N,.string p0.R.V.S].toArray,iV p1] (iV r):=by
 refine eN func219 rfl ntmps219 rfl w0 fun hF=>?_
 unfold o0 at h
 refine sr<|lbx rfl fun b_1=>arr 7 [0,0] rfl<|lq (gC fL rfl rfl) rfl<|art 9 [] rfl ?_
 refine ch h rfl ?_ ?_ <;> intro h
 ·refine att 4 [] rfl ?_
  exact rt hF h
 refine atr 6 [1,5] rfl<|qc h (mX N · p0.L (wz (p1 - (p0.Op.size:Int))) ·) rfl rfl rfl fun x1 h=>art 8 [] rfl ?_
 refine ch h rfl ?_ ?_ <;> intro h
 ·refine att 4 [] rfl ?_
  exact rt hF h
 refine atr 6 [6,5] rfl<|qc h (mX N · p0.R x1 ·) rfl rfl rfl fun x2 h=>art 8 [] rfl ?_
 refine ch h rfl ?_ ?_ <;> intro h
 ·refine att 4 [] rfl ?_
  exact rt hF h
 refine att 6 [] rfl ?_
 exact rt hF h
theorem zh (w0:af Ψ Φ []) (p0:(List bk)) (p1:Int) (ph0:RSl bu 11 Ψ pG0 pv0 p0) {r:Int} (h:oY N p0 p1=some r) :
  CB w0 prog 189 [pv0,iV p1] (iV r):=by
 refine eN func189 rfl ntmps189 rfl w0 fun hF=>?_
 unfold oY at h
 refine atr 8 [] rfl<|lnr ph0 rfl<|art 9 [] rfl ?_
 refine ch h rfl ?_ ?_ <;> intro h
 ·refine att 4 [] rfl ?_
  exact rt hF h
 refine att 7 [] rfl ?_
 refine lin (σ:=Int × Int) (fun s=>[(0,pv0),(1,iV s.1),(5,iV s.2)]) (fun s=>St w0 Φ [] []) (fun m s=>iv N p0 m s.1 s.2=some r) (wz (p1 - (p0.length:Int)),0) N h (sx [] []) (fun n1 ih1 s hm=>?_)
 obtain ⟨s1,s2⟩:=s
 have h:iv N p0 (n1+1) s1 s2=some r:=hm
 show WT _ _ [(0,pv0),(1,iV s1),(5,iV s2)] (St w0 Φ [] [])
 unfold iv at h
 refine atr 5 [] rfl<|lnr ph0 rfl<|la rfl<|en ?_
 refine ch h rfl ?_ ?_ <;> intro h
 ·refine atr 7 [] rfl ?_
  obtain ⟨x1,hx1,h⟩:=bs h
  obtain ⟨cs1,F1,-,g1,hb1,hs1,r1⟩:=ph0.el (a7 hx1).2.2
  obtain ⟨rfl,-⟩:=r1
  refine lia ph0 hx1 rfl<|lhx 0 11 g1 rfl<|la rfl<|qc h (Cj N · x1 s1 ·) rfl rfl rfl fun x2 h=>art 7 [] rfl ?_
  refine ch h rfl ?_ ?_ <;> intro h
  ·refine att 4 [] rfl ?_
   exact rt hF h
  refine att 7 [] rfl ?_
  exact lb [] [] (ih1 (_,_) h)
 refine att 6 [] rfl ?_
 exact rt hF h
theorem Ex (w0:af Ψ Φ []) (p0:bM) (p1:Int) (ph0_0:RSl bu 11 Ψ pG0_0 pv0_0 p0.Args) {r:Int} (h:qh N p0 p1=some r) :
  CB w0 prog 151 [.agg [iV p0.Kind,.string p0.Name,pv0_0,iV p0.N,.string p0.Undo].toArray,iV p1] (iV r):=by
 refine eN func151 rfl ntmps151 rfl w0 fun hF=>?_
 unfold qh at h
 refine sr<|lbx rfl fun b_1=>arr 7 [1,0] rfl<|lq (gC fL rfl rfl) rfl<|art 9 [] rfl ?_
 refine ch h rfl ?_ ?_ <;> intro h
 ·refine att 4 [] rfl ?_
  exact rt hF h
 refine atr 6 [2,0] rfl<|qd h (zh N · p0.Args (wz (p1 - (p0.Name.size:Int))) ph0_0 ·) rfl rfl rfl fun x1 h=>art 8 [] rfl ?_
 refine ch h rfl ?_ ?_ <;> intro h
 ·refine att 4 [] rfl ?_
  exact rt hF h
 refine atr 6 [4,0] rfl<|lq (gC fL rfl rfl) rfl<|art 9 [] rfl ?_
 refine ch h rfl ?_ ?_ <;> intro h
 ·refine att 4 [] rfl ?_
  exact rt hF h
 refine att 6 [] rfl ?_
 exact rt hF h
theorem BC (w0:af Ψ Φ []) (p0:(List bM)) (p1:Int) (ph0:RSl dF 5 Ψ pG0 pv0 p0) {r:Int} (h:qC N p0 p1=some r) :
  CB w0 prog 100 [pv0,iV p1] (iV r):=by
 refine eN func100 rfl ntmps100 rfl w0 fun hF=>?_
 unfold qC at h
 refine atr 8 [] rfl<|lnr ph0 rfl<|art 9 [] rfl ?_
 refine ch h rfl ?_ ?_ <;> intro h
 ·refine att 4 [] rfl ?_
  exact rt hF h
 refine att 7 [] rfl ?_
 refine lin (σ:=Int × Int) (fun s=>[(0,pv0),(1,iV s.1),(5,iV s.2)]) (fun s=>St w0 Φ [] []) (fun m s=>jC N p0 m s.1 s.2=some r) (wz (p1 - (p0.length:Int)),0) N h (sx [] []) (fun n1 ih1 s hm=>?_)
 obtain ⟨s1,s2⟩:=s
 have h:jC N p0 (n1+1) s1 s2=some r:=hm
 show WT _ _ [(0,pv0),(1,iV s1),(5,iV s2)] (St w0 Φ [] [])
 unfold jC at h
 refine atr 5 [] rfl<|lnr ph0 rfl<|la rfl<|en ?_
 refine ch h rfl ?_ ?_ <;> intro h
 ·refine atr 7 [] rfl ?_
  obtain ⟨x1,hx1,h⟩:=bs h
  obtain ⟨cs1,F1,-,g1,hb1,hs1,r1⟩:=ph0.el (a7 hx1).2.2
  obtain ⟨v1,G1,rfl,hq1,h1⟩:=r1
  obtain rfl:=hq1.symm
  refine lia ph0 hx1 rfl<|lhx 0 5 g1 rfl<|la rfl<|qd h (Ex N · x1 s1 h1 ·) rfl rfl rfl fun x2 h=>art 7 [] rfl ?_
  refine ch h rfl ?_ ?_ <;> intro h
  ·refine att 4 [] rfl ?_
   exact rt hF h
  refine att 7 [] rfl ?_
  exact lb [] [] (ih1 (_,_) h)
 refine att 6 [] rfl ?_
 exact rt hF h
theorem CD (w0:af Ψ Φ []) (p0:ag) (p1:Int) (ph0_0:RSl bJ 3 Ψ pG0_0 pv0_0 p0.Pats) (ph0_1:RSl bd 11 Ψ pG0_1 pv0_1 p0.Conds) (ph0_2:RSl dF 5 Ψ pG0_2 pv0_2 p0.Acts) {r:Int} (h:nV N p0 p1=some r) :
  CB w0 prog 55 [.agg [.string p0.Name,iV p0.Sal,pv0_0,pv0_1,pv0_2].toArray,iV p1] (iV r):=by
 refine eN func55 rfl ntmps55 rfl w0 fun hF=>?_
 unfold nV at h
 refine sr<|lbx rfl fun b_1=>arr 7 [0,0] rfl<|lq (gC fL rfl rfl) rfl<|art 9 [] rfl ?_
 refine ch h rfl ?_ ?_ <;> intro h
 ·refine att 4 [] rfl ?_
  exact rt hF h
 refine atr 6 [2,0] rfl<|qd h (Cu N · p0.Pats (wz (p1 - (p0.Name.size:Int))) ph0_0 ·) rfl rfl rfl fun x1 h=>art 8 [] rfl ?_
 refine ch h rfl ?_ ?_ <;> intro h
 ·refine att 4 [] rfl ?_
  exact rt hF h
 refine atr 6 [3,0] rfl<|qd h (B7 N · p0.Conds x1 ph0_1 ·) rfl rfl rfl fun x2 h=>art 8 [] rfl ?_
 refine ch h rfl ?_ ?_ <;> intro h
 ·refine att 4 [] rfl ?_
  exact rt hF h
 refine atr 6 [4,0] rfl<|qd h (BC N · p0.Acts x2 ph0_2 ·) rfl rfl rfl fun x3 h=>art 8 [] rfl ?_
 refine ch h rfl ?_ ?_ <;> intro h
 ·refine att 4 [] rfl ?_
  exact rt hF h
 refine att 6 [] rfl ?_
 exact rt hF h
theorem A1 (w0:af Ψ Φ []) (p0:(List ag)) (p1:Int) (ph0:RSl cf 5 Ψ pG0 pv0 p0) {r:Int} (h:oU N p0 p1=some r) :
  CB w0 prog 23 [pv0,iV p1] (iV r):=by
 refine eN func23 rfl ntmps23 rfl w0 fun hF=>?_
 unfold oU at h
 refine atr 8 [] rfl<|lnr ph0 rfl<|art 9 [] rfl ?_
 refine ch h rfl ?_ ?_ <;> intro h
 ·refine att 4 [] rfl ?_
  exact rt hF h
 refine att 7 [] rfl ?_
 refine lin (σ:=Int × Int) (fun s=>[(0,pv0),(1,iV s.1),(5,iV s.2)]) (fun s=>St w0 Φ [] []) (fun m s=>ip N p0 m s.1 s.2=some r) (wz (p1 - (p0.length:Int)),0) N h (sx [] []) (fun n1 ih1 s hm=>?_)
 obtain ⟨s1,s2⟩:=s
 have h:ip N p0 (n1+1) s1 s2=some r:=hm
 show WT _ _ [(0,pv0),(1,iV s1),(5,iV s2)] (St w0 Φ [] [])
 unfold ip at h
 refine atr 5 [] rfl<|lnr ph0 rfl<|la rfl<|en ?_
 refine ch h rfl ?_ ?_ <;> intro h
 ·refine atr 7 [] rfl ?_
  obtain ⟨x1,hx1,h⟩:=bs h
  obtain ⟨cs1,F1,-,g1,hb1,hs1,r1⟩:=ph0.el (a7 hx1).2.2
  obtain ⟨v1,G1,v2,G2,v3,G3,rfl,rfl,h1,h2,h3⟩:=r1
  refine lia ph0 hx1 rfl<|lhx 0 5 g1 rfl<|la rfl<|qd h (CD N · x1 s1 h1 h2 h3 ·) rfl rfl rfl fun x2 h=>art 7 [] rfl ?_
  refine ch h rfl ?_ ?_ <;> intro h
  ·refine att 4 [] rfl ?_
   exact rt hF h
  refine att 7 [] rfl ?_
  exact lb [] [] (ih1 (_,_) h)
 refine att 6 [] rfl ?_
 exact rt hF h
theorem E6 (w0:af Ψ Φ []) (p0:bo) (p1:Int) (ph0_0:RSl cf 5 Ψ pG0_0 pv0_0 p0.Rules) {r:Int} (h:tC N p0 p1=some r) :
  CB w0 prog 4 [.agg [.string p0.Name,pv0_0].toArray,iV p1] (iV r):=by
 refine eN func4 rfl ntmps4 rfl w0 fun hF=>?_
 unfold tC at h
 refine sr<|lbx rfl fun b_1=>arr 7 [0,0] rfl<|lq (gC fL rfl rfl) rfl<|art 9 [] rfl ?_
 refine ch h rfl ?_ ?_ <;> intro h
 ·refine att 4 [] rfl ?_
  exact rt hF h
 refine atr 6 [1,0] rfl<|qd h (A1 N · p0.Rules (wz (p1 - (p0.Name.size:Int))) ph0_0 ·) rfl rfl rfl fun x1 h=>art 8 [] rfl ?_
 refine ch h rfl ?_ ?_ <;> intro h
 ·refine att 4 [] rfl ?_
  exact rt hF h
 refine att 6 [] rfl ?_
 exact rt hF h
theorem vp (w0:af Ψ Φ []) (p0:(List aL)) (p1:Int) (ph0:RSl az 3 Ψ pG0 pv0 p0) {r:Int} (h:nP N p0 p1=some r) :
  CB w0 prog 101 [pv0,iV p1] (iV r):=by
 refine eN func101 rfl ntmps101 rfl w0 fun hF=>?_
 unfold nP at h
 refine atr 8 [] rfl<|lnr ph0 rfl<|art 9 [] rfl ?_
 refine ch h rfl ?_ ?_ <;> intro h
 ·refine att 4 [] rfl ?_
  exact rt hF h
 refine att 7 [] rfl ?_
 refine lin (σ:=Int × Int) (fun s=>[(0,pv0),(1,iV s.1),(5,iV s.2)]) (fun s=>St w0 Φ [] []) (fun m s=>jc N p0 m s.1 s.2=some r) (wz (p1 - (p0.length:Int)),0) N h (sx [] []) (fun n1 ih1 s hm=>?_)
 obtain ⟨s1,s2⟩:=s
 have h:jc N p0 (n1+1) s1 s2=some r:=hm
 show WT _ _ [(0,pv0),(1,iV s1),(5,iV s2)] (St w0 Φ [] [])
 unfold jc at h
 refine atr 5 [] rfl<|lnr ph0 rfl<|la rfl<|en ?_
 refine ch h rfl ?_ ?_ <;> intro h
 ·refine atr 7 [] rfl ?_
  obtain ⟨x1,hx1,h⟩:=bs h
  obtain ⟨cs1,F1,-,g1,hb1,hs1,r1⟩:=ph0.el (a7 hx1).2.2
  obtain ⟨rfl,-⟩:=r1
  refine lia ph0 hx1 rfl<|lhx 0 3 g1 rfl<|la rfl<|qc h (w9 N · x1 s1 ·) rfl rfl rfl fun x2 h=>art 7 [] rfl ?_
  refine ch h rfl ?_ ?_ <;> intro h
  ·refine att 4 [] rfl ?_
   exact rt hF h
  refine att 7 [] rfl ?_
  exact lb [] [] (ih1 (_,_) h)
 refine att 6 [] rfl ?_
 exact rt hF h
theorem jf (w0:af Ψ Φ []) (p0:(List Int)) (p1:Int) (ph0:RSl (RI .i64) 1 Ψ pG0 pv0 p0) {r:Int} (h:ic N p0 p1=some r) :
  CB w0 prog 102 [pv0,iV p1] (iV r):=by
 refine eN func102 rfl ntmps102 rfl w0 fun hF=>?_
 unfold ic at h
 refine atr 8 [] rfl<|lnr ph0 rfl<|art 9 [] rfl ?_
 refine ch h rfl ?_ ?_ <;> intro h
 ·refine att 4 [] rfl ?_
  exact rt hF h
 refine att 6 [] rfl ?_
 exact rt hF h
theorem zA (w0:af Ψ Φ []) (p0:a9) (p1:Int) (ph0_0:RSl az 3 Ψ pG0_0 pv0_0 p0.Consts) (ph0_1:RSl (RI .i64) 1 Ψ pG0_1 pv0_1 p0.At) {r:Int} (h:lT N p0 p1=some r) :
  CB w0 prog 56 [.agg [.string p0.Kind,iV p0.N,pv0_0,pv0_1].toArray,iV p1] (iV r):=by
 refine eN func56 rfl ntmps56 rfl w0 fun hF=>?_
 unfold lT at h
 refine sr<|lbx rfl fun b_1=>arr 7 [0,0] rfl<|lq (gC fL rfl rfl) rfl<|art 9 [] rfl ?_
 refine ch h rfl ?_ ?_ <;> intro h
 ·refine att 4 [] rfl ?_
  exact rt hF h
 refine atr 6 [2,0] rfl<|qd h (vp N · p0.Consts (wz (p1 - (p0.Kind.size:Int))) ph0_0 ·) rfl rfl rfl fun x1 h=>art 8 [] rfl ?_
 refine ch h rfl ?_ ?_ <;> intro h
 ·refine att 4 [] rfl ?_
  exact rt hF h
 refine atr 6 [3,0] rfl<|qd h (jf N · p0.At x1 ph0_1 ·) rfl rfl rfl fun x2 h=>art 8 [] rfl ?_
 refine ch h rfl ?_ ?_ <;> intro h
 ·refine att 4 [] rfl ?_
  exact rt hF h
 refine att 6 [] rfl ?_
 exact rt hF h
theorem yd (w0:af Ψ Φ []) (p0:(List a9)) (p1:Int) (ph0:RSl bf 4 Ψ pG0 pv0 p0) {r:Int} (h:mt N p0 p1=some r) :
  CB w0 prog 24 [pv0,iV p1] (iV r):=by
 refine eN func24 rfl ntmps24 rfl w0 fun hF=>?_
 unfold mt at h
 refine atr 8 [] rfl<|lnr ph0 rfl<|art 9 [] rfl ?_
 refine ch h rfl ?_ ?_ <;> intro h
 ·refine att 4 [] rfl ?_
  exact rt hF h
 refine att 7 [] rfl ?_
 refine lin (σ:=Int × Int) (fun s=>[(0,pv0),(1,iV s.1),(5,iV s.2)]) (fun s=>St w0 Φ [] []) (fun m s=>gQ N p0 m s.1 s.2=some r) (wz (p1 - (p0.length:Int)),0) N h (sx [] []) (fun n1 ih1 s hm=>?_)
 obtain ⟨s1,s2⟩:=s
 have h:gQ N p0 (n1+1) s1 s2=some r:=hm
 show WT _ _ [(0,pv0),(1,iV s1),(5,iV s2)] (St w0 Φ [] [])
 unfold gQ at h
 refine atr 5 [] rfl<|lnr ph0 rfl<|la rfl<|en ?_
 refine ch h rfl ?_ ?_ <;> intro h
 ·refine atr 7 [] rfl ?_
  obtain ⟨x1,hx1,h⟩:=bs h
  obtain ⟨cs1,F1,-,g1,hb1,hs1,r1⟩:=ph0.el (a7 hx1).2.2
  obtain ⟨v1,G1,v2,G2,rfl,rfl,h1,h2⟩:=r1
  refine lia ph0 hx1 rfl<|lhx 0 4 g1 rfl<|la rfl<|qd h (zA N · x1 s1 h1 h2 ·) rfl rfl rfl fun x2 h=>art 7 [] rfl ?_
  refine ch h rfl ?_ ?_ <;> intro h
  ·refine att 4 [] rfl ?_
   exact rt hF h
  refine att 7 [] rfl ?_
  exact lb [] [] (ih1 (_,_) h)
 refine att 6 [] rfl ?_
 exact rt hF h
theorem Au (w0:af Ψ Φ []) (p0:ae) (p1:Int) (ph0_0:RSl (RI .i64) 1 Ψ pG0_0 pv0_0 p0.Pos) (ph0_1:RSl (RI .i64) 1 Ψ pG0_1 pv0_1 p0.Neg) {r:Int} (h:mm N p0 p1=some r) :
  CB w0 prog 57 [.agg [pv0_0,pv0_1].toArray,iV p1] (iV r):=by
 refine eN func57 rfl ntmps57 rfl w0 fun hF=>?_
 unfold mm at h
 refine sr<|lbx rfl fun b_1=>arr 7 [0,0] rfl<|qd h (jf N · p0.Pos p1 ph0_0 ·) rfl rfl rfl fun x1 h=>art 8 [] rfl ?_
 refine ch h rfl ?_ ?_ <;> intro h
 ·refine att 4 [] rfl ?_
  exact rt hF h
 refine atr 6 [1,0] rfl<|qd h (jf N · p0.Neg x1 ph0_1 ·) rfl rfl rfl fun x2 h=>art 8 [] rfl ?_
 refine ch h rfl ?_ ?_ <;> intro h
 ·refine att 4 [] rfl ?_
  exact rt hF h
 refine att 6 [] rfl ?_
 exact rt hF h
theorem y7 (w0:af Ψ Φ []) (p0:(List ae)) (p1:Int) (ph0:RSl bz 2 Ψ pG0 pv0 p0) {r:Int} (h:mW N p0 p1=some r) :
  CB w0 prog 25 [pv0,iV p1] (iV r):=by
 refine eN func25 rfl ntmps25 rfl w0 fun hF=>?_
 unfold mW at h
 refine atr 8 [] rfl<|lnr ph0 rfl<|art 9 [] rfl ?_
 refine ch h rfl ?_ ?_ <;> intro h
 ·refine att 4 [] rfl ?_
  exact rt hF h
 refine att 7 [] rfl ?_
 refine lin (σ:=Int × Int) (fun s=>[(0,pv0),(1,iV s.1),(5,iV s.2)]) (fun s=>St w0 Φ [] []) (fun m s=>gP N p0 m s.1 s.2=some r) (wz (p1 - (p0.length:Int)),0) N h (sx [] []) (fun n1 ih1 s hm=>?_)
 obtain ⟨s1,s2⟩:=s
 have h:gP N p0 (n1+1) s1 s2=some r:=hm
 show WT _ _ [(0,pv0),(1,iV s1),(5,iV s2)] (St w0 Φ [] [])
 unfold gP at h
 refine atr 5 [] rfl<|lnr ph0 rfl<|la rfl<|en ?_
 refine ch h rfl ?_ ?_ <;> intro h
 ·refine atr 7 [] rfl ?_
  obtain ⟨x1,hx1,h⟩:=bs h
  obtain ⟨cs1,F1,-,g1,hb1,hs1,r1⟩:=ph0.el (a7 hx1).2.2
  obtain ⟨v1,G1,v2,G2,rfl,rfl,h1,h2⟩:=r1
  refine lia ph0 hx1 rfl<|lhx 0 2 g1 rfl<|la rfl<|qd h (Au N · x1 s1 h1 h2 ·) rfl rfl rfl fun x2 h=>art 7 [] rfl ?_
  refine ch h rfl ?_ ?_ <;> intro h
  ·refine att 4 [] rfl ?_
   exact rt hF h
  refine att 7 [] rfl ?_
  exact lb [] [] (ih1 (_,_) h)
 refine att 6 [] rfl ?_
 exact rt hF h
theorem EI (w0:af Ψ Φ []) (p0:bc) (p1:Int) (ph0_0:RSl bf 4 Ψ pG0_0 pv0_0 p0.Alphas) (ph0_1:RSl bz 2 Ψ pG0_1 pv0_1 p0.Chains) {r:Int} (h:tc N p0 p1=some r) :
  CB w0 prog 5 [.agg [pv0_0,pv0_1].toArray,iV p1] (iV r):=by
 refine eN func5 rfl ntmps5 rfl w0 fun hF=>?_
 unfold tc at h
 refine sr<|lbx rfl fun b_1=>arr 7 [0,0] rfl<|qd h (yd N · p0.Alphas p1 ph0_0 ·) rfl rfl rfl fun x1 h=>art 8 [] rfl ?_
 refine ch h rfl ?_ ?_ <;> intro h
 ·refine att 4 [] rfl ?_
  exact rt hF h
 refine atr 6 [1,0] rfl<|qd h (y7 N · p0.Chains x1 ph0_1 ·) rfl rfl rfl fun x2 h=>art 8 [] rfl ?_
 refine ch h rfl ?_ ?_ <;> intro h
 ·refine att 4 [] rfl ?_
  exact rt hF h
 refine att 6 [] rfl ?_
 exact rt hF h
theorem EG (w0:af Ψ Φ []) (p0:aS) (p1:Int) (ph0_0:RSl (RI .i64) 1 Ψ pG0_0 pv0_0 p0.L) {r:Int} (h:qb N p0 p1=some r) :
  CB w0 prog 58 [.agg [pv0_0].toArray,iV p1] (iV r):=by
 refine eN func58 rfl ntmps58 rfl w0 fun hF=>?_
 unfold qb at h
 refine sr ?_
 refine ln (si (C:=#[pv0_0]) rfl rfl) rfl (fun b_1=>?_)
 refine arr 7 [0,0] rfl<|qd h (jf N · p0.L p1 ph0_0 ·) rfl rfl rfl fun x1 h=>art 8 [] rfl ?_
 refine ch h rfl ?_ ?_ <;> intro h
 ·refine att 4 [] rfl ?_
  exact rt hF h
 refine att 6 [] rfl ?_
 exact rt hF h
theorem C7 (w0:af Ψ Φ []) (p0:(List aS)) (p1:Int) (ph0:RSl dD 1 Ψ pG0 pv0 p0) {r:Int} (h:rI N p0 p1=some r) :
  CB w0 prog 26 [pv0,iV p1] (iV r):=by
 refine eN func26 rfl ntmps26 rfl w0 fun hF=>?_
 unfold rI at h
 refine atr 8 [] rfl<|lnr ph0 rfl<|art 9 [] rfl ?_
 refine ch h rfl ?_ ?_ <;> intro h
 ·refine att 4 [] rfl ?_
  exact rt hF h
 refine att 7 [] rfl ?_
 refine lin (σ:=Int × Int) (fun s=>[(0,pv0),(1,iV s.1),(5,iV s.2)]) (fun s=>St w0 Φ [] []) (fun m s=>je N p0 m s.1 s.2=some r) (wz (p1 - (p0.length:Int)),0) N h (sx [] []) (fun n1 ih1 s hm=>?_)
 obtain ⟨s1,s2⟩:=s
 have h:je N p0 (n1+1) s1 s2=some r:=hm
 show WT _ _ [(0,pv0),(1,iV s1),(5,iV s2)] (St w0 Φ [] [])
 unfold je at h
 refine atr 5 [] rfl<|lnr ph0 rfl<|la rfl<|en ?_
 refine ch h rfl ?_ ?_ <;> intro h
 ·refine atr 7 [] rfl ?_
  obtain ⟨x1,hx1,h⟩:=bs h
  obtain ⟨cs1,F1,-,g1,hb1,hs1,r1⟩:=ph0.el (a7 hx1).2.2
  obtain ⟨v1,G1,rfl,hq1,h1⟩:=r1
  obtain rfl:=hq1.symm
  refine lia ph0 hx1 rfl<|lhx 0 1 g1 rfl<|la rfl<|qd h (EG N · x1 s1 h1 ·) rfl rfl rfl fun x2 h=>art 7 [] rfl ?_
  refine ch h rfl ?_ ?_ <;> intro h
  ·refine att 4 [] rfl ?_
   exact rt hF h
  refine att 7 [] rfl ?_
  exact lb [] [] (ih1 (_,_) h)
 refine att 6 [] rfl ?_
 exact rt hF h
theorem DP (w0:af Ψ Φ []) (p0:ab) (p1:Int) (ph0_0:RSl (RI .i64) 1 Ψ pG0_0 pv0_0 p0.Ids) (ph0_1:RSl (RI .i64) 1 Ψ pG0_1 pv0_1 p0.Hits) {r:Int} (h:qt N p0 p1=some r) :
  CB w0 prog 220 [.agg [pv0_0,pv0_1].toArray,iV p1] (iV r):=by
 refine eN func220 rfl ntmps220 rfl w0 fun hF=>?_
 unfold qt at h
 refine sr<|lbx rfl fun b_1=>arr 7 [0,0] rfl<|qd h (jf N · p0.Ids p1 ph0_0 ·) rfl rfl rfl fun x1 h=>art 8 [] rfl ?_
 refine ch h rfl ?_ ?_ <;> intro h
 ·refine att 4 [] rfl ?_
  exact rt hF h
 refine atr 6 [1,0] rfl<|qd h (jf N · p0.Hits x1 ph0_1 ·) rfl rfl rfl fun x2 h=>art 8 [] rfl ?_
 refine ch h rfl ?_ ?_ <;> intro h
 ·refine att 4 [] rfl ?_
  exact rt hF h
 refine att 6 [] rfl ?_
 exact rt hF h
theorem BT (w0:af Ψ Φ []) (p0:(List ab)) (p1:Int) (ph0:RSl cD 2 Ψ pG0 pv0 p0) {r:Int} (h:ra N p0 p1=some r) :
  CB w0 prog 190 [pv0,iV p1] (iV r):=by
 refine eN func190 rfl ntmps190 rfl w0 fun hF=>?_
 unfold ra at h
 refine atr 8 [] rfl<|lnr ph0 rfl<|art 9 [] rfl ?_
 refine ch h rfl ?_ ?_ <;> intro h
 ·refine att 4 [] rfl ?_
  exact rt hF h
 refine att 7 [] rfl ?_
 refine lin (σ:=Int × Int) (fun s=>[(0,pv0),(1,iV s.1),(5,iV s.2)]) (fun s=>St w0 Φ [] []) (fun m s=>jt N p0 m s.1 s.2=some r) (wz (p1 - (p0.length:Int)),0) N h (sx [] []) (fun n1 ih1 s hm=>?_)
 obtain ⟨s1,s2⟩:=s
 have h:jt N p0 (n1+1) s1 s2=some r:=hm
 show WT _ _ [(0,pv0),(1,iV s1),(5,iV s2)] (St w0 Φ [] [])
 unfold jt at h
 refine atr 5 [] rfl<|lnr ph0 rfl<|la rfl<|en ?_
 refine ch h rfl ?_ ?_ <;> intro h
 ·refine atr 7 [] rfl ?_
  obtain ⟨x1,hx1,h⟩:=bs h
  obtain ⟨cs1,F1,-,g1,hb1,hs1,r1⟩:=ph0.el (a7 hx1).2.2
  obtain ⟨v1,G1,v2,G2,rfl,rfl,h1,h2⟩:=r1
  refine lia ph0 hx1 rfl<|lhx 0 2 g1 rfl<|la rfl<|qd h (DP N · x1 s1 h1 h2 ·) rfl rfl rfl fun x2 h=>art 7 [] rfl ?_
  refine ch h rfl ?_ ?_ <;> intro h
  ·refine att 4 [] rfl ?_
   exact rt hF h
  refine att 7 [] rfl ?_
  exact lb [] [] (ih1 (_,_) h)
 refine att 6 [] rfl ?_
 exact rt hF h
theorem zm (w0:af Ψ Φ []) (p0:aa) (p1:Int) (ph0_0:RSl cD 2 Ψ pG0_0 pv0_0 p0.Toks) {r:Int} (h:lR N p0 p1=some r) :
  CB w0 prog 153 [.agg [pv0_0].toArray,iV p1] (iV r):=by
 refine eN func153 rfl ntmps153 rfl w0 fun hF=>?_
 unfold lR at h
 refine sr ?_
 refine ln (si (C:=#[pv0_0]) rfl rfl) rfl (fun b_1=>?_)
 refine arr 7 [0,0] rfl<|qd h (BT N · p0.Toks p1 ph0_0 ·) rfl rfl rfl fun x1 h=>art 8 [] rfl ?_
 refine ch h rfl ?_ ?_ <;> intro h
 ·refine att 4 [] rfl ?_
  exact rt hF h
 refine att 6 [] rfl ?_
 exact rt hF h
theorem yj (w0:af Ψ Φ []) (p0:(List aa)) (p1:Int) (ph0:RSl ed 1 Ψ pG0 pv0 p0) {r:Int} (h:n8 N p0 p1=some r) :
  CB w0 prog 103 [pv0,iV p1] (iV r):=by
 refine eN func103 rfl ntmps103 rfl w0 fun hF=>?_
 unfold n8 at h
 refine atr 8 [] rfl<|lnr ph0 rfl<|art 9 [] rfl ?_
 refine ch h rfl ?_ ?_ <;> intro h
 ·refine att 4 [] rfl ?_
  exact rt hF h
 refine att 7 [] rfl ?_
 refine lin (σ:=Int × Int) (fun s=>[(0,pv0),(1,iV s.1),(5,iV s.2)]) (fun s=>St w0 Φ [] []) (fun m s=>gJ N p0 m s.1 s.2=some r) (wz (p1 - (p0.length:Int)),0) N h (sx [] []) (fun n1 ih1 s hm=>?_)
 obtain ⟨s1,s2⟩:=s
 have h:gJ N p0 (n1+1) s1 s2=some r:=hm
 show WT _ _ [(0,pv0),(1,iV s1),(5,iV s2)] (St w0 Φ [] [])
 unfold gJ at h
 refine atr 5 [] rfl<|lnr ph0 rfl<|la rfl<|en ?_
 refine ch h rfl ?_ ?_ <;> intro h
 ·refine atr 7 [] rfl ?_
  obtain ⟨x1,hx1,h⟩:=bs h
  obtain ⟨cs1,F1,-,g1,hb1,hs1,r1⟩:=ph0.el (a7 hx1).2.2
  obtain ⟨v1,G1,rfl,hq1,h1⟩:=r1
  obtain rfl:=hq1.symm
  refine lia ph0 hx1 rfl<|lhx 0 1 g1 rfl<|la rfl<|qd h (zm N · x1 s1 h1 ·) rfl rfl rfl fun x2 h=>art 7 [] rfl ?_
  refine ch h rfl ?_ ?_ <;> intro h
  ·refine att 4 [] rfl ?_
   exact rt hF h
  refine att 7 [] rfl ?_
  exact lb [] [] (ih1 (_,_) h)
 refine att 6 [] rfl ?_
 exact rt hF h
theorem Fj (w0:af Ψ Φ []) (p0:aF) (p1:Int) (ph0_0:RSl ed 1 Ψ pG0_0 pv0_0 p0.Levels) {r:Int} (h:qe N p0 p1=some r) :
  CB w0 prog 59 [.agg [pv0_0].toArray,iV p1] (iV r):=by
 refine eN func59 rfl ntmps59 rfl w0 fun hF=>?_
 unfold qe at h
 refine sr ?_
 refine ln (si (C:=#[pv0_0]) rfl rfl) rfl (fun b_1=>?_)
 refine arr 7 [0,0] rfl<|qd h (yj N · p0.Levels p1 ph0_0 ·) rfl rfl rfl fun x1 h=>art 8 [] rfl ?_
 refine ch h rfl ?_ ?_ <;> intro h
 ·refine att 4 [] rfl ?_
  exact rt hF h
 refine att 6 [] rfl ?_
 exact rt hF h
theorem C6 (w0:af Ψ Φ []) (p0:(List aF)) (p1:Int) (ph0:RSl fM 1 Ψ pG0 pv0 p0) {r:Int} (h:qJ N p0 p1=some r) :
  CB w0 prog 27 [pv0,iV p1] (iV r):=by
 refine eN func27 rfl ntmps27 rfl w0 fun hF=>?_
 unfold qJ at h
 refine atr 8 [] rfl<|lnr ph0 rfl<|art 9 [] rfl ?_
 refine ch h rfl ?_ ?_ <;> intro h
 ·refine att 4 [] rfl ?_
  exact rt hF h
 refine att 7 [] rfl ?_
 refine lin (σ:=Int × Int) (fun s=>[(0,pv0),(1,iV s.1),(5,iV s.2)]) (fun s=>St w0 Φ [] []) (fun m s=>jj N p0 m s.1 s.2=some r) (wz (p1 - (p0.length:Int)),0) N h (sx [] []) (fun n1 ih1 s hm=>?_)
 obtain ⟨s1,s2⟩:=s
 have h:jj N p0 (n1+1) s1 s2=some r:=hm
 show WT _ _ [(0,pv0),(1,iV s1),(5,iV s2)] (St w0 Φ [] [])
 unfold jj at h
 refine atr 5 [] rfl<|lnr ph0 rfl<|la rfl<|en ?_
 refine ch h rfl ?_ ?_ <;> intro h
 ·refine atr 7 [] rfl ?_
  obtain ⟨x1,hx1,h⟩:=bs h
  obtain ⟨cs1,F1,-,g1,hb1,hs1,r1⟩:=ph0.el (a7 hx1).2.2
  obtain ⟨v1,G1,rfl,hq1,h1⟩:=r1
  obtain rfl:=hq1.symm
  refine lia ph0 hx1 rfl<|lhx 0 1 g1 rfl<|la rfl<|qd h (Fj N · x1 s1 h1 ·) rfl rfl rfl fun x2 h=>art 7 [] rfl ?_
  refine ch h rfl ?_ ?_ <;> intro h
  ·refine att 4 [] rfl ?_
   exact rt hF h
  refine att 7 [] rfl ?_
  exact lb [] [] (ih1 (_,_) h)
 refine att 6 [] rfl ?_
 exact rt hF h
theorem DC (w0:af Ψ Φ []) (p0:aA) (p1:Int) (ph0_0:RSl dD 1 Ψ pG0_0 pv0_0 p0.Alphas) (ph0_1:RSl fM 1 Ψ pG0_1 pv0_1 p0.Rules) {r:Int} (h:tE N p0 p1=some r) :
  CB w0 prog 6 [.agg [pv0_0,pv0_1].toArray,iV p1] (iV r):=by
 refine eN func6 rfl ntmps6 rfl w0 fun hF=>?_
 unfold tE at h
 refine sr<|lbx rfl fun b_1=>arr 7 [0,0] rfl<|qd h (C7 N · p0.Alphas p1 ph0_0 ·) rfl rfl rfl fun x1 h=>art 8 [] rfl ?_
 refine ch h rfl ?_ ?_ <;> intro h
 ·refine att 4 [] rfl ?_
  exact rt hF h
 refine atr 6 [1,0] rfl<|qd h (C6 N · p0.Rules x1 ph0_1 ·) rfl rfl rfl fun x2 h=>art 8 [] rfl ?_
 refine ch h rfl ?_ ?_ <;> intro h
 ·refine att 4 [] rfl ?_
  exact rt hF h
 refine att 6 [] rfl ?_
 exact rt hF h
theorem Cs (w0:af Ψ Φ []) (p0:aw) (p1:Int) (ph0_0:RSl az 3 Ψ pG0_0 pv0_0 p0.Fields) {r:Int} (h:rL N p0 p1=some r) :
  CB w0 prog 104 [.agg [.string p0.Kind,pv0_0].toArray,iV p1] (iV r):=by
 refine eN func104 rfl ntmps104 rfl w0 fun hF=>?_
 unfold rL at h
 refine sr<|lbx rfl fun b_1=>arr 7 [0,0] rfl<|lq (gC fL rfl rfl) rfl<|art 9 [] rfl ?_
 refine ch h rfl ?_ ?_ <;> intro h
 ·refine att 4 [] rfl ?_
  exact rt hF h
 refine atr 6 [1,0] rfl<|qd h (vp N · p0.Fields (wz (p1 - (p0.Kind.size:Int))) ph0_0 ·) rfl rfl rfl fun x1 h=>art 8 [] rfl ?_
 refine ch h rfl ?_ ?_ <;> intro h
 ·refine att 4 [] rfl ?_
  exact rt hF h
 refine att 6 [] rfl ?_
 exact rt hF h
theorem Ci (w0:af Ψ Φ []) (p0:aC) (p1:Int) (ph0_0:RSl az 3 Ψ pG0_0 pv0_0 p0.F.Fields) {r:Int} (h:nF N p0 p1=some r) :
  CB w0 prog 60 [.agg [iV p0.Id,.string p0.F.Kind,pv0_0].toArray,iV p1] (iV r):=by
 refine eN func60 rfl ntmps60 rfl w0 fun hF=>?_
 unfold nF at h
 refine sr<|lbx rfl fun b_1=>arr 7 [1,2] rfl<|qd h (Cs N · p0.F p1 ph0_0 ·) rfl rfl rfl fun x1 h=>art 8 [] rfl ?_
 refine ch h rfl ?_ ?_ <;> intro h
 ·refine att 4 [] rfl ?_
  exact rt hF h
 refine att 6 [] rfl ?_
 exact rt hF h
theorem AK (w0:af Ψ Φ []) (p0:(List aC)) (p1:Int) (ph0:RSl bE 3 Ψ pG0 pv0 p0) {r:Int} (h:oP N p0 p1=some r) :
  CB w0 prog 28 [pv0,iV p1] (iV r):=by
 refine eN func28 rfl ntmps28 rfl w0 fun hF=>?_
 unfold oP at h
 refine atr 8 [] rfl<|lnr ph0 rfl<|art 9 [] rfl ?_
 refine ch h rfl ?_ ?_ <;> intro h
 ·refine att 4 [] rfl ?_
  exact rt hF h
 refine att 7 [] rfl ?_
 refine lin (σ:=Int × Int) (fun s=>[(0,pv0),(1,iV s.1),(5,iV s.2)]) (fun s=>St w0 Φ [] []) (fun m s=>im N p0 m s.1 s.2=some r) (wz (p1 - (p0.length:Int)),0) N h (sx [] []) (fun n1 ih1 s hm=>?_)
 obtain ⟨s1,s2⟩:=s
 have h:im N p0 (n1+1) s1 s2=some r:=hm
 show WT _ _ [(0,pv0),(1,iV s1),(5,iV s2)] (St w0 Φ [] [])
 unfold im at h
 refine atr 5 [] rfl<|lnr ph0 rfl<|la rfl<|en ?_
 refine ch h rfl ?_ ?_ <;> intro h
 ·refine atr 7 [] rfl ?_
  obtain ⟨x1,hx1,h⟩:=bs h
  obtain ⟨cs1,F1,-,g1,hb1,hs1,r1⟩:=ph0.el (a7 hx1).2.2
  obtain ⟨v1,G1,rfl,hq1,h1⟩:=r1
  obtain rfl:=hq1.symm
  refine lia ph0 hx1 rfl<|lhx 0 3 g1 rfl<|la rfl<|qd h (Ci N · x1 s1 h1 ·) rfl rfl rfl fun x2 h=>art 7 [] rfl ?_
  refine ch h rfl ?_ ?_ <;> intro h
  ·refine att 4 [] rfl ?_
   exact rt hF h
  refine att 7 [] rfl ?_
  exact lb [] [] (ih1 (_,_) h)
 refine att 6 [] rfl ?_
 exact rt hF h
theorem zS (w0:af Ψ Φ []) (p0:ah) (p1:Int) (ph0_0:RSl bE 3 Ψ pG0_0 pv0_0 p0.Items) {r:Int} (h:oz N p0 p1=some r) :
  CB w0 prog 7 [.agg [pv0_0,iV p0.Next].toArray,iV p1] (iV r):=by
 refine eN func7 rfl ntmps7 rfl w0 fun hF=>?_
 unfold oz at h
 refine sr<|lbx rfl fun b_1=>arr 7 [0,0] rfl<|qd h (AK N · p0.Items p1 ph0_0 ·) rfl rfl rfl fun x1 h=>art 8 [] rfl ?_
 refine ch h rfl ?_ ?_ <;> intro h
 ·refine att 4 [] rfl ?_
  exact rt hF h
 refine att 6 [] rfl ?_
 exact rt hF h
theorem vQ (w0:af Ψ Φ []) (p0:(List ab)) (ph0:RSl cD 2 Ψ pG0 pv0 p0) {r:(List ab)} (h:j7 N p0=some r) :
  Calls prog 61 [pv0].toArray w0.w (aQ Φ w0.w [] (fun Φ' Fs v=>∃ (sr_0_0:Value) (Dr_0_0:List Nat),v=sr_0_0∧Fs=[ob sr_0_0,Dr_0_0]∧OSl ax 160 2 Φ' Dr_0_0 sr_0_0 r)):=by
 refine eN func61 rfl ntmps61 rfl w0 fun hF=>?_
 unfold j7 at h
 refine atr 6 [] rfl ?_
 have rc1:RC ax 2 Φ ([]:List (List Nat)) [] ([]:List ab):=RC.nil _ _ _
 refine le' (cu (vs:=[]) (C:=#[]) ax.lasts cg eD rfl rfl rfl rfl (aI uF (ak)) rfl rc1 rfl (by simpa using Kw.nil)) rfl ?_
 rintro v1 Φ_1 D1 ⟨fr1,h1⟩
 replace h1:OSl ax 160 2 Φ_1 [] v1 ([]:List ab):=by simpa [List.append_assoc] using h1
 refine WL.conv (S':=St w0 Φ_1 [] [[],ob v1]) (fun w1 hw=>hw.addNil)<|art 8 [] rfl ?_
 refine lin (σ:=Hp × (List ab) × Value × List Nat × Int) (fun s=>[(0,pv0),(3,s.2.2.1),(4,iV s.2.2.2.2)]) (fun s=>St w0 s.1 [] [s.2.2.2.1,ob s.2.2.1]) (fun m s=>cK N p0 m s.2.1 s.2.2.2.2=some r∧(OSl ax 160 2 s.1 s.2.2.2.1 s.2.2.1 s.2.1)) (Φ_1,([]:List ab),v1,[],0) N ⟨h,h1⟩ (sx [0,0] []) (fun n1 ih1 s hm=>?_)
 obtain ⟨Φ_2,s1,u1,D2,s2⟩:=s
 obtain ⟨h,k1⟩:=hm
 dsimp only at h k1 ⊢
 unfold cK at h
 refine atr 5 [] rfl<|lnr ph0 rfl<|la rfl<|en ?_
 refine ch h rfl ?_ ?_ <;> intro h
 ·refine att 3 [] rfl ?_
  refine cut (σ:=Hp × (List ab) × Value × List Nat) (fun s=>[(0,pv0),(3,s.2.2.1),(4,iV s2)]) (fun s=>St w0 s.1 [] [s.2.2.2,ob s.2.2.1]) (fun s=>iO N s2 (cK N p0 n1) s.2.1=some r∧(OSl ax 160 2 s.1 s.2.2.2 s.2.2.1 s.2.1)) (fun s hm=>?_) (fun K=>?_)
  ·clear h
   obtain ⟨Φ_9,s3,u2,D9⟩:=s
   obtain ⟨h,k2⟩:=hm
   dsimp only at h k2 ⊢
   unfold iO at h
   refine att 6 [] rfl ?_
   exact lb [0,0] [] (ih1 (_,_,_,_,_) ⟨h,k2⟩)
  refine wm [] [] rfl<|amm 3 [0,2,3] [] rfl rfl ?_
  obtain ⟨x6,hx6,h⟩:=bs h
  obtain ⟨cs3,F3,-,g3,hb3,hs3,r3⟩:=ph0.el (a7 hx6).2.2
  obtain ⟨v12,G5,v13,G6,rfl,rfl,h14,h15⟩:=r3
  refine mq 4 rfl (by kernel_rfl) (kN []) (a8 cg rfl rfl ph0 hx6) rfl<|amm 1 [5,0] [] rfl rfl<|mq 6 rfl (by kernel_rfl) (kN []) (aW jK rfl (fun w1 hw=>(g3.of_eq 0 1 rfl rfl:rg _ _ _ [v12]).rangeAt hw.1)) rfl<|amm 2 [9,10] [] rfl rfl ?_
  obtain ⟨x7,hx7,h⟩:=bs h
  obtain ⟨cs4,F4,-,g4,hb4,hs4,r4⟩:=ph0.el (a7 hx7).2.2
  obtain ⟨v14,G7,v15,G8,rfl,rfl,h16,h17⟩:=r4
  refine mq 11 rfl (by kernel_rfl) (kN []) (a8 cg rfl rfl ph0 hx7) rfl<|amm 1 [12,1] [] rfl rfl<|mq 13 rfl (by kernel_rfl) (kN []) (aW jK rfl (fun w1 hw=>(g4.of_eq 1 1 rfl rfl:rg _ _ _ [v15]).rangeAt hw.1)) rfl ?_
  refine WM.two 1 8 (by kernel_rfl) ?_ ?_
  ·refine me rfl (fun _ v Φx D w1 hq hw=>Kn.of Kf.nil aN hw) (io (R:=RI .i64) RI.lasts aR o7 rfl rfl) rfl ?_
   rintro v16 Φ_10 D10 ⟨fr8,h18⟩
   replace k1:=k1.f0 fr8
   refine WM.two 7 8 (by kernel_rfl) ?_ ?_
   ·first | refine mu0 h14 fun h19=>?_ | refine iu0 h14 fun h19=>?_
    obtain ⟨x8,hx8,h⟩:=bs h
    refine me rfl (fun _ v Φx D w1 hq hw=>Kn.of Kf.nil aN hw) (cP RI.lasts RI.one RI.flat aR sP rfl rfl rfl rfl rfl (js:=[0]) (Rr:=[D2,ob u1]) rfl h18 h19 hx8) rfl ?_
    rintro v17 Φ_11 D11 ⟨⟨ap4,fr9⟩,h20⟩
    replace k1:=k1.fr fr9 (ap4.q 1 rfl) (ap4.q 0 rfl)
    refine WM.one 8 (by kernel_rfl) (me rfl (fun _ v Φx D w1 hq hw=>Kn.of Kf.nil aN hw) (io (R:=RI .i64) RI.lasts aR o7 rfl rfl) rfl ?_)
    rintro v18 Φ_12 D12 ⟨fr10,h21⟩
    replace k1:=k1.f0 fr10
    replace h20:=h20.f0 fr10
    first | refine mu0 h17 fun h22=>?_ | refine iu0 h17 fun h22=>?_
    obtain ⟨x9,hx9,h⟩:=bs h
    refine WM.one 14 (by kernel_rfl) (me rfl (fun _ v Φx D w1 hq hw=>Kn.of Kf.nil aN hw) (cP RI.lasts RI.one RI.flat aR sP rfl rfl rfl rfl rfl (js:=[0]) (Rr:=[ob v17,D2,ob u1]) rfl h21 h22 hx9) rfl ?_)
    rintro v19 Φ_13 D13 ⟨⟨ap5,fr11⟩,h23⟩
    replace k1:=k1.fr fr11 (ap5.q 2 rfl) (ap5.q 1 rfl)
    replace h20:=h20.fr fr11 (ap5.q 0 rfl) dN
    refine mq 15 rfl (by kernel_rfl) (kN []) (cw (vs:=[(0,v17),(1,v19)]) (C:=#[v17,v19]) xx eD rfl (ai (C':=[v17,.slice none 0 0]) rfl (cm h20.one) rfl rfl rfl (ai (C':=[v17,v19]) rfl (cm h23.one) rfl rfl rfl (ak)))) rfl ?_
    have rc7:RC ax 2 Φ_13 ([(ob v17++[])++((ob v19++[]))]:List (List Nat)) [v17,v19] ([(⟨x8,x9⟩:ab)]:List ab):=RC.cons (c:=[v17,v19]) (cells:=[]) ⟨v17,v19,rfl,rfl,h20,h23⟩ rfl (RC.nil _ _ _)
    refine WM.one 16 (by kernel_rfl) (me rfl (fun _ v Φx D w1 hq hw=>Kn.of Kf.nil aN hw) (cu (vs:=[(0,.agg [v17,v19].toArray)]) (C:=#[v17,v19]) ax.lasts cg eD rfl rfl rfl rfl (aI tF (ai (C':=[v17,v19]) rfl rfl rfl rfl rfl (ak))) rfl rc7 rfl (RC.kn ax.knows rc7)) rfl ?_)
    rintro v20 Φ_14 D14 ⟨fr12,h24⟩
    replace h24:OSl ax 160 2 Φ_14 ((ob v17++[])++((ob v19++[]))) v20 ([(⟨x8,x9⟩:ab)]:List ab):=by simpa [List.append_assoc] using h24
    replace k1:=k1.f0 fr12
    refine WM.conv (S':=St w0 Φ_14 [] [((ob v17++[])++((ob v19++[]))),ob v20,D2,ob u1]) (fun w1 hw=>hw.merge (js:=[2,1]) rfl (SP.eq (by simp [List.append_assoc,bl]))) ?_
    obtain ⟨x10,hx10,h⟩:=bs h
    refine WM.one 17 (by kernel_rfl) (me rfl (fun _ v Φx D w1 hq hw=>Kn.of Kf.nil aN hw) (gE ax.lasts ax.one cg pC rfl rfl rfl rfl rfl (js:=[3]) (Rr:=[((ob v17++[])++((ob v19++[]))),ob v20,D2]) rfl k1 h24 (fun ap=>ap.q 2 rfl) (fun ap=>ap.q 0 rfl) hx10) rfl ?_)
    rintro v21 Φ_15 D15 ⟨⟨ap6,fr13⟩,h25⟩
    refine WM.conv (S':=St w0 Φ_15 [] [(D2++((ob v17++[])++((ob v19++[])))),ob v21,ob v20]) (fun w1 hw=>hw.merge (js:=[3,1]) rfl (SP.eq (by simp)))<|amm 1 [18] [] rfl rfl<|WM.nil (by kernel_rfl) ?_
    exact wo [0,0] [] (K (_,_,_,_) ⟨h,h25⟩)
   refine me rfl (fun _ v Φx D w1 hq hw=>Kn.of Kf.nil aN hw) (io (R:=RI .i64) RI.lasts aR o7 rfl rfl) rfl ?_
   rintro v22 Φ_16 D16 ⟨fr14,h26⟩
   replace k1:=k1.f0 fr14
   replace h18:=h18.f0 fr14
   first | refine mu0 h14 fun h27=>?_ | refine iu0 h14 fun h27=>?_
   obtain ⟨x11,hx11,h⟩:=bs h
   refine WM.one 7 (by kernel_rfl) (me rfl (fun _ v Φx D w1 hq hw=>Kn.of Kf.nil aN hw) (cP RI.lasts RI.one RI.flat aR sP rfl rfl rfl rfl rfl (js:=[1]) (Rr:=[ob v22,D2,ob u1]) rfl h18 h27 hx11) rfl ?_)
   rintro v23 Φ_17 D17 ⟨⟨ap7,fr15⟩,h28⟩
   replace k1:=k1.fr fr15 (ap7.q 2 rfl) (ap7.q 1 rfl)
   replace h26:=h26.fr fr15 (ap7.q 0 rfl) dN
   first | refine mu0 h17 fun h29=>?_ | refine iu0 h17 fun h29=>?_
   obtain ⟨x12,hx12,h⟩:=bs h
   refine WM.one 14 (by kernel_rfl) (me rfl (fun _ v Φx D w1 hq hw=>Kn.of Kf.nil aN hw) (cP RI.lasts RI.one RI.flat aR sP rfl rfl rfl rfl rfl (js:=[1]) (Rr:=[ob v23,D2,ob u1]) rfl h26 h29 hx12) rfl ?_)
   rintro v24 Φ_18 D18 ⟨⟨ap8,fr16⟩,h30⟩
   replace k1:=k1.fr fr16 (ap8.q 2 rfl) (ap8.q 1 rfl)
   replace h28:=h28.fr fr16 (ap8.q 0 rfl) dN
   refine mq 15 rfl (by kernel_rfl) (kN []) (cw (vs:=[(0,v23),(1,v24)]) (C:=#[v23,v24]) xx eD rfl (ai (C':=[v23,.slice none 0 0]) rfl (cm h28.one) rfl rfl rfl (ai (C':=[v23,v24]) rfl (cm h30.one) rfl rfl rfl (ak)))) rfl ?_
   have rc9:RC ax 2 Φ_18 ([(ob v23++[])++((ob v24++[]))]:List (List Nat)) [v23,v24] ([(⟨x11,x12⟩:ab)]:List ab):=RC.cons (c:=[v23,v24]) (cells:=[]) ⟨v23,v24,rfl,rfl,h28,h30⟩ rfl (RC.nil _ _ _)
   refine WM.one 16 (by kernel_rfl) (me rfl (fun _ v Φx D w1 hq hw=>Kn.of Kf.nil aN hw) (cu (vs:=[(0,.agg [v23,v24].toArray)]) (C:=#[v23,v24]) ax.lasts cg eD rfl rfl rfl rfl (aI tF (ai (C':=[v23,v24]) rfl rfl rfl rfl rfl (ak))) rfl rc9 rfl (RC.kn ax.knows rc9)) rfl ?_)
   rintro v25 Φ_19 D19 ⟨fr17,h31⟩
   replace h31:OSl ax 160 2 Φ_19 ((ob v23++[])++((ob v24++[]))) v25 ([(⟨x11,x12⟩:ab)]:List ab):=by simpa [List.append_assoc] using h31
   replace k1:=k1.f0 fr17
   refine WM.conv (S':=St w0 Φ_19 [] [((ob v23++[])++((ob v24++[]))),ob v25,D2,ob u1]) (fun w1 hw=>hw.merge (js:=[2,1]) rfl (SP.eq (by simp [List.append_assoc,bl]))) ?_
   obtain ⟨x13,hx13,h⟩:=bs h
   refine WM.one 17 (by kernel_rfl) (me rfl (fun _ v Φx D w1 hq hw=>Kn.of Kf.nil aN hw) (gE ax.lasts ax.one cg pC rfl rfl rfl rfl rfl (js:=[3]) (Rr:=[((ob v23++[])++((ob v24++[]))),ob v25,D2]) rfl k1 h31 (fun ap=>ap.q 2 rfl) (fun ap=>ap.q 0 rfl) hx13) rfl ?_)
   rintro v26 Φ_20 D20 ⟨⟨ap9,fr18⟩,h32⟩
   refine WM.conv (S':=St w0 Φ_20 [] [(D2++((ob v23++[])++((ob v24++[])))),ob v26,ob v25]) (fun w1 hw=>hw.merge (js:=[3,1]) rfl (SP.eq (by simp)))<|amm 1 [18] [] rfl rfl<|WM.nil (by kernel_rfl) ?_
   exact wo [0,0] [] (K (_,_,_,_) ⟨h,h32⟩)
  refine me rfl (fun _ v Φx D w1 hq hw=>Kn.of Kf.nil aN hw) (io (R:=RI .i64) RI.lasts aR o7 rfl rfl) rfl ?_
  rintro v27 Φ_21 D21 ⟨fr19,h33⟩
  replace k1:=k1.f0 fr19
  refine WM.one 1 (by kernel_rfl) (me rfl (fun _ v Φx D w1 hq hw=>Kn.of Kf.nil aN hw) (io (R:=RI .i64) RI.lasts aR o7 rfl rfl) rfl ?_)
  rintro v28 Φ_22 D22 ⟨fr20,h34⟩
  replace k1:=k1.f0 fr20
  replace h33:=h33.f0 fr20
  first | refine mu0 h14 fun h35=>?_ | refine iu0 h14 fun h35=>?_
  obtain ⟨x14,hx14,h⟩:=bs h
  refine WM.one 7 (by kernel_rfl) (me rfl (fun _ v Φx D w1 hq hw=>Kn.of Kf.nil aN hw) (cP RI.lasts RI.one RI.flat aR sP rfl rfl rfl rfl rfl (js:=[0]) (Rr:=[ob v27,D2,ob u1]) rfl h34 h35 hx14) rfl ?_)
  rintro v29 Φ_23 D23 ⟨⟨ap10,fr21⟩,h36⟩
  replace k1:=k1.fr fr21 (ap10.q 2 rfl) (ap10.q 1 rfl)
  replace h33:=h33.fr fr21 (ap10.q 0 rfl) dN
  first | refine mu0 h17 fun h37=>?_ | refine iu0 h17 fun h37=>?_
  obtain ⟨x15,hx15,h⟩:=bs h
  refine WM.one 14 (by kernel_rfl) (me rfl (fun _ v Φx D w1 hq hw=>Kn.of Kf.nil aN hw) (cP RI.lasts RI.one RI.flat aR sP rfl rfl rfl rfl rfl (js:=[1]) (Rr:=[ob v29,D2,ob u1]) rfl h33 h37 hx15) rfl ?_)
  rintro v30 Φ_24 D24 ⟨⟨ap11,fr22⟩,h38⟩
  replace k1:=k1.fr fr22 (ap11.q 2 rfl) (ap11.q 1 rfl)
  replace h36:=h36.fr fr22 (ap11.q 0 rfl) dN
  refine mq 15 rfl (by kernel_rfl) (kN []) (cw (vs:=[(0,v29),(1,v30)]) (C:=#[v29,v30]) xx eD rfl (ai (C':=[v29,.slice none 0 0]) rfl (cm h36.one) rfl rfl rfl (ai (C':=[v29,v30]) rfl (cm h38.one) rfl rfl rfl (ak)))) rfl ?_
  have rc12:RC ax 2 Φ_24 ([(ob v29++[])++((ob v30++[]))]:List (List Nat)) [v29,v30] ([(⟨x14,x15⟩:ab)]:List ab):=RC.cons (c:=[v29,v30]) (cells:=[]) ⟨v29,v30,rfl,rfl,h36,h38⟩ rfl (RC.nil _ _ _)
  refine WM.one 16 (by kernel_rfl) (me rfl (fun _ v Φx D w1 hq hw=>Kn.of Kf.nil aN hw) (cu (vs:=[(0,.agg [v29,v30].toArray)]) (C:=#[v29,v30]) ax.lasts cg eD rfl rfl rfl rfl (aI tF (ai (C':=[v29,v30]) rfl rfl rfl rfl rfl (ak))) rfl rc12 rfl (RC.kn ax.knows rc12)) rfl ?_)
  rintro v31 Φ_25 D25 ⟨fr23,h39⟩
  replace h39:OSl ax 160 2 Φ_25 ((ob v29++[])++((ob v30++[]))) v31 ([(⟨x14,x15⟩:ab)]:List ab):=by simpa [List.append_assoc] using h39
  replace k1:=k1.f0 fr23
  refine WM.conv (S':=St w0 Φ_25 [] [((ob v29++[])++((ob v30++[]))),ob v31,D2,ob u1]) (fun w1 hw=>hw.merge (js:=[2,1]) rfl (SP.eq (by simp [List.append_assoc,bl]))) ?_
  obtain ⟨x16,hx16,h⟩:=bs h
  refine WM.one 17 (by kernel_rfl) (me rfl (fun _ v Φx D w1 hq hw=>Kn.of Kf.nil aN hw) (gE ax.lasts ax.one cg pC rfl rfl rfl rfl rfl (js:=[3]) (Rr:=[((ob v29++[])++((ob v30++[]))),ob v31,D2]) rfl k1 h39 (fun ap=>ap.q 2 rfl) (fun ap=>ap.q 0 rfl) hx16) rfl ?_)
  rintro v32 Φ_26 D26 ⟨⟨ap12,fr24⟩,h40⟩
  refine WM.conv (S':=St w0 Φ_26 [] [(D2++((ob v29++[])++((ob v30++[])))),ob v32,ob v31]) (fun w1 hw=>hw.merge (js:=[3,1]) rfl (SP.eq (by simp)))<|amm 1 [18] [] rfl rfl<|WM.nil (by kernel_rfl) ?_
  exact wo [0,0] [] (K (_,_,_,_) ⟨h,h40⟩)
 refine att 6 [] rfl ?_
 exact rtg [1,0] hF (ay.one rfl) rfl (by cases h; exact fun w1 hw=>⟨u1,D2,rfl,rfl,k1⟩)
theorem A2 (w0:af Ψ Φ []) (p0:aA) (ph0_0:RSl dD 1 Ψ pG0_0 pv0_0 p0.Alphas) (ph0_1:RSl fM 1 Ψ pG0_1 pv0_1 p0.Rules) {r:aA} (h:p8 N p0=some r) :
  Calls prog 29 [.agg [pv0_0,pv0_1].toArray].toArray w0.w (aQ Φ w0.w [] (fun Φ' Fs v=>∃ (sr_0_0:Value) (Dr_0_0:List Nat) (sr_0_1:Value) (Dr_0_1:List Nat),v = .agg [sr_0_0,sr_0_1].toArray∧Fs=[ob sr_0_0,Dr_0_0,ob sr_0_1,Dr_0_1]∧OSl aO 123 1 Φ' Dr_0_0 sr_0_0 r.Alphas∧OSl aP 126 1 Φ' Dr_0_1 sr_0_1 r.Rules)):=by
 refine eN func29 rfl ntmps29 rfl w0 fun hF=>?_
 unfold p8 at h
 refine sr<|lbx rfl fun b_1=>lnz j6 rfl fun b_2=>en<|sr<|lq (cw (vs:=[]) (C:=#[.slice none 0 0,.slice none 0 0]) NZ j6 rfl (ak)) rfl<|lnz j6 rfl fun b_3=>soN 0 kI rfl ⟨rfl,rfl,trivial⟩ rfl ?_
 refine art 7 [] rfl<|wtS<|wt0 ?_
 have k1:=OSl.nil aO 123 1 Φ
 refine lin (σ:=Hp × (List aS) × Value × List Nat × Int) (fun s=>[(1,pQ b_1),(2,pQ b_2),(3,pQ b_3),(4,iV s.2.2.2.2)]) (fun s=>St w0 s.1 [(b_3,.cells #[s.2.2.1,.slice none 0 0] 43 (0,0)),(b_2,.cells #[.slice none 0 0,.slice none 0 0] 43 (0,0)),(b_1,.cells #[pv0_0,pv0_1] 43 (0,0))] [s.2.2.2.1,ob s.2.2.1]) (fun m s=>gm N p0 m s.2.1 s.2.2.2.2=some r∧(OSl aO 123 1 s.1 s.2.2.2.1 s.2.2.1 s.2.1)) (Φ,([]:List aS),(.slice none 0 0),[],0) N ⟨h,k1⟩ (sx [0,0] [0,0,0]) (fun n1 ih1 s hm=>?_)
 obtain ⟨Φ_1,s1,u1,D1,s2⟩:=s
 obtain ⟨h,k2⟩:=hm
 dsimp only at h k2 ⊢
 unfold gm at h
 refine atr 6 [0,64] rfl<|lnr ph0_0 rfl<|la rfl<|en ?_
 refine ch h rfl ?_ ?_ <;> intro h
 ·refine att 3 [] rfl<|wm [0,1,2] [14] rfl<|amm 5 [0,0,1,0,3,0,4,64,5] [0,1,2] rfl rfl ?_
  obtain ⟨x1,hx1,h⟩:=bs h
  obtain ⟨cs1,F1,-,g1,hb1,hs1,r1⟩:=ph0_0.el (a7 hx1).2.2
  obtain ⟨v1,G1,rfl,hq1,h1⟩:=r1
  obtain rfl:=hq1.symm
  refine mq 6 rfl (by kernel_rfl) (kN [0,1,2]) (a8 ss rfl rfl ph0_0 hx1) rfl<|amm 1 [7,0] [0,1,2] rfl rfl<|mq 8 rfl (by kernel_rfl) (kN [0,1,2]) (aW jK rfl (fun w1 hw=>(g1.of_eq 0 1 rfl rfl:rg _ _ _ [v1]).rangeAt hw.1)) rfl ?_
  refine WM.one 2 (by kernel_rfl) (me rfl (fun _ v Φx D w1 hq hw=>Kn.of Kf.nil (ai3 0 1 2 rfl rfl rfl) hw) (io (R:=RI .i64) RI.lasts aR o7 rfl rfl) rfl ?_)
  rintro v2 Φ_2 D2 ⟨fr1,h2⟩
  replace k2:=k2.f0 fr1
  first | refine mu0 h1 fun h3=>?_ | refine iu0 h1 fun h3=>?_
  obtain ⟨x2,hx2,h⟩:=bs h
  refine WM.one 9 (by kernel_rfl) (me rfl (fun _ v Φx D w1 hq hw=>Kn.of Kf.nil (ai3 0 1 2 rfl rfl rfl) hw) (cP RI.lasts RI.one RI.flat aR sP rfl rfl rfl rfl rfl (js:=[0]) (Rr:=[D1,ob u1]) rfl h2 h3 hx2) rfl ?_)
  rintro v3 Φ_3 D3 ⟨⟨ap1,fr2⟩,h4⟩
  replace k2:=k2.fr fr2 (ap1.q 1 rfl) (ap1.q 0 rfl)
  refine mq 10 rfl (by kernel_rfl) (kN [0,1,2]) (cw (vs:=[(0,v3)]) (C:=#[v3]) J9 uN rfl (ai (C':=[v3]) rfl (cm h4.one) rfl rfl rfl (ak))) rfl ?_
  have rc2:RC aO 1 Φ_3 ([(ob v3++[])]:List (List Nat)) [v3] ([(⟨x2⟩:aS)]:List aS):=RC.cons (c:=[v3]) (cells:=[]) ⟨v3,rfl,rfl,h4⟩ rfl (RC.nil _ _ _)
  refine WM.one 11 (by kernel_rfl) (me rfl (fun _ v Φx D w1 hq hw=>Kn.of Kf.nil (ai3 0 1 2 rfl rfl rfl) hw) (cu (vs:=[(0,.agg [v3].toArray)]) (C:=#[v3]) aO.lasts ss uN rfl rfl rfl rfl (aI FU (ai (C':=[v3]) rfl rfl rfl rfl rfl (ak))) rfl rc2 rfl (RC.kn aO.knows rc2)) rfl ?_)
  rintro v4 Φ_4 D4 ⟨fr3,h5⟩
  replace h5:OSl aO 123 1 Φ_4 ((ob v3++[])) v4 ([(⟨x2⟩:aS)]:List aS):=by simpa [List.append_assoc] using h5
  replace k2:=k2.f0 fr3
  refine WM.conv (S':=St w0 Φ_4 [(b_3,.cells #[u1,.slice none 0 0] 43 (0,0)),(b_2,.cells #[.slice none 0 0,.slice none 0 0] 43 (0,0)),(b_1,.cells #[pv0_0,pv0_1] 43 (0,0))] [((ob v3++[])),ob v4,D1,ob u1]) (fun w1 hw=>hw.merge (js:=[1]) rfl (SP.eq (by simp [List.append_assoc,bl]))) ?_
  obtain ⟨x3,hx3,h⟩:=bs h
  refine WM.one 12 (by kernel_rfl) (me rfl (fun _ v Φx D w1 hq hw=>Kn.of Kf.nil (ai3 0 1 2 rfl rfl rfl) hw) (gE aO.lasts aO.one ss Jf rfl rfl rfl rfl rfl (js:=[3]) (Rr:=[((ob v3++[])),ob v4,D1]) rfl k2 h5 (fun ap=>ap.q 2 rfl) (fun ap=>ap.q 0 rfl) hx3) rfl ?_)
  rintro v5 Φ_5 D5 ⟨⟨ap2,fr4⟩,h6⟩
  refine WM.conv (S':=St w0 Φ_5 [(b_3,.cells #[u1,.slice none 0 0] 43 (0,0)),(b_2,.cells #[.slice none 0 0,.slice none 0 0] 43 (0,0)),(b_1,.cells #[pv0_0,pv0_1] 43 (0,0))] [(D1++((ob v3++[]))),ob v5,ob v4]) (fun w1 hw=>hw.merge (js:=[3,1]) rfl (SP.eq (by simp)))<|amm 1 [13,0] [0,1,2] rfl rfl ?_
  refine on1 14 (ms1 0 rfl nk Jy rfl h6.one ?_)
  refine WM.nil (by kernel_rfl)<|att 6 [] rfl ?_
  exact lb [0,0] [0,0,0] (ih1 (_,_,_,_,_) ⟨h,h6⟩)
 refine att 7 [] rfl<|wtS<|wt0 ?_
 have k3:=OSl.nil aP 126 1 Φ_1
 refine lin (σ:=Hp × (List aF) × Value × List Nat × Int) (fun s=>[(1,pQ b_1),(2,pQ b_2),(3,pQ b_3),(5,iV s.2.2.2.2)]) (fun s=>St w0 s.1 [(b_3,.cells #[u1,s.2.2.1] 43 (0,0)),(b_2,.cells #[.slice none 0 0,.slice none 0 0] 43 (0,0)),(b_1,.cells #[pv0_0,pv0_1] 43 (0,0))] [s.2.2.2.1,ob s.2.2.1,D1,ob u1]) (fun m s=>dR N p0 s1 m s.2.1 s.2.2.2.2=some r∧(OSl aO 123 1 s.1 D1 u1 s1)∧(OSl aP 126 1 s.1 s.2.2.2.1 s.2.2.1 s.2.1)) (Φ_1,([]:List aF),(.slice none 0 0),[],0) N ⟨h,k2,k3⟩ (sx [0,0,0,0] [0,0,0]) (fun n2 ih2 s hm=>?_)
 obtain ⟨Φ_6,s3,u2,D6,s4⟩:=s
 obtain ⟨h,k2,k4⟩:=hm
 dsimp only at h k2 k4 ⊢
 unfold dR at h
 refine atr 6 [1,64] rfl<|lnr ph0_1 rfl<|la rfl<|en ?_
 refine ch h rfl ?_ ?_ <;> intro h
 ·refine atr 5 [] rfl<|lq (cw (vs:=[]) (C:=#[.slice none 0 0]) MB rG rfl (ak)) rfl ?_
  refine ln (ig (C:=#[.slice none 0 0]) rG rfl) rfl (fun b_4=>?_)
  refine soN 0 xK rfl ⟨rfl,trivial⟩ rfl ?_
  refine art 7 [] rfl<|wtS<|wt0 ?_
  have k5:=OSl.nil aK 130 1 Φ_6
  refine lin (σ:=Hp × (List aa) × Value × List Nat × Int) (fun s=>[(1,pQ b_1),(2,pQ b_2),(3,pQ b_3),(5,iV s4),(6,pQ b_4),(7,iV s.2.2.2.2)]) (fun s=>St w0 s.1 [(b_4,.cells #[s.2.2.1] 126 (0,0)),(b_3,.cells #[u1,u2] 43 (0,0)),(b_2,.cells #[.slice none 0 0,.slice none 0 0] 43 (0,0)),(b_1,.cells #[pv0_0,pv0_1] 43 (0,0))] [s.2.2.2.1,ob s.2.2.1,D6,ob u2,D1,ob u1]) (fun m s=>fg N p0 s3 s4 (dR N p0 s1 n2) m s.2.1 s.2.2.2.2=some r∧(OSl aO 123 1 s.1 D1 u1 s1)∧(OSl aP 126 1 s.1 D6 u2 s3)∧(OSl aK 130 1 s.1 s.2.2.2.1 s.2.2.1 s.2.1)) (Φ_6,([]:List aa),(.slice none 0 0),[],0) N ⟨h,k2,k4,k5⟩ (sx [0,0,0,0,0,0] [0,0,0,0]) (fun n3 ih3 s hm=>?_)
  obtain ⟨Φ_7,s5,u3,D7,s6⟩:=s
  obtain ⟨h,k2,k4,k6⟩:=hm
  dsimp only at h k2 k4 k6 ⊢
  unfold fg at h
  refine atr 7 [1,96] rfl ?_
  obtain ⟨x4,hx4,h⟩:=bs h
  obtain ⟨cs2,F2,-,g2,hb2,hs2,r2⟩:=ph0_1.el (a7 hx4).2.2
  obtain ⟨v6,G2,rfl,hq2,h7⟩:=r2
  obtain rfl:=hq2.symm
  refine lia ph0_1 hx4 rfl<|lf jA rfl rfl rfl<|lhx 0 0 g2 rfl<|lnr h7 rfl<|la rfl<|en ?_
  refine ch h rfl ?_ ?_ <;> intro h
  ·refine att 3 [] rfl<|wm [0,1,2,3] [17] rfl<|amm 5 [0,0,1,0,2,1,3,96,4] [0,1,2,3] rfl rfl ?_
   obtain ⟨x5,hx5,h⟩:=bs h
   obtain ⟨cs3,F3,-,g3,hb3,hs3,r3⟩:=ph0_1.el (a7 hx5).2.2
   obtain ⟨v7,G3,rfl,hq3,h8⟩:=r3
   obtain rfl:=hq3.symm
   refine mq 5 rfl (by kernel_rfl) (kN [0,1,2,3]) (a8 xO rfl rfl ph0_1 hx5) rfl<|amm 1 [6,0] [0,1,2,3] rfl rfl<|mq 7 rfl (by kernel_rfl) (kN [0,1,2,3]) (aW Hi rfl (fun w1 hw=>(g3.of_eq 0 1 rfl rfl:rg _ _ _ [v7]).rangeAt hw.1)) rfl<|amm 1 [8] [0,1,2,3] rfl rfl ?_
   obtain ⟨x6,hx6,h⟩:=bs h
   obtain ⟨cs4,F4,-,g4,hb4,hs4,r4⟩:=h8.el (a7 hx6).2.2
   obtain ⟨v8,G4,rfl,hq4,h9⟩:=r4
   obtain rfl:=hq4.symm
   refine mq 9 rfl (by kernel_rfl) (kN [0,1,2,3]) (a8 pw rfl rfl h8 hx6) rfl<|amm 1 [10,0] [0,1,2,3] rfl rfl<|mq 11 rfl (by kernel_rfl) (kN [0,1,2,3]) (aW Ff rfl (fun w1 hw=>(g4.of_eq 0 1 rfl rfl:rg _ _ _ [v8]).rangeAt hw.1)) rfl ?_
   obtain ⟨x7,hx7,h⟩:=bs h
   refine WM.one 12 (by kernel_rfl) (mc rfl (fun _ v Φx D w1 hq hw=>Kn.of Kf.nil (am [0,1,2,3] rfl) hw) (aY (js:=[]) (R:=[D7,ob u3,D6,ob u2,D1,ob u1]) MK rfl rfl (fun w1 hw ap hl=>vQ N (ba hw.fro) x6.Toks (h9.y hw.up)  hx7)) rfl ?_)
   rintro v9 Φ_8 F5 ⟨ap3,fr5,v10,D8,rfl,rfl,h10⟩
   replace k2:=k2.fr fr5 (ap3.q 5 rfl) (ap3.q 4 rfl)
   replace k4:=k4.fr fr5 (ap3.q 3 rfl) (ap3.q 2 rfl)
   replace k6:=k6.fr fr5 (ap3.q 1 rfl) (ap3.q 0 rfl)
   refine mq 13 rfl (by kernel_rfl) (kN [0,1,2,3]) (cw (vs:=[(0,v9)]) (C:=#[v9]) Lu tI rfl (ai (C':=[v9]) rfl (cm h10.one) rfl rfl rfl (ak))) rfl ?_
   have rc3:RC aK 1 Φ_8 ([(ob v9++D8)]:List (List Nat)) [v9] ([(⟨x7⟩:aa)]:List aa):=RC.cons (c:=[v9]) (cells:=[]) ⟨v9,D8,rfl,rfl,h10⟩ rfl (RC.nil _ _ _)
   refine WM.one 14 (by kernel_rfl) (me rfl (fun _ v Φx D w1 hq hw=>Kn.of Kf.nil (am [0,1,2,3] rfl) hw) (cu (vs:=[(0,.agg [v9].toArray)]) (C:=#[v9]) aK.lasts pw tI rfl rfl rfl rfl (aI FP (ai (C':=[v9]) rfl rfl rfl rfl rfl (ak))) rfl rc3 rfl (RC.kn aK.knows rc3)) rfl ?_)
   rintro v11 Φ_9 D9 ⟨fr6,h11⟩
   replace h11:OSl aK 130 1 Φ_9 ((ob v9++D8)) v11 ([(⟨x7⟩:aa)]:List aa):=by simpa [List.append_assoc] using h11
   replace k2:=k2.f0 fr6
   replace k4:=k4.f0 fr6
   replace k6:=k6.f0 fr6
   refine WM.conv (S':=St w0 Φ_9 [(b_4,.cells #[u3] 126 (0,0)),(b_3,.cells #[u1,u2] 43 (0,0)),(b_2,.cells #[.slice none 0 0,.slice none 0 0] 43 (0,0)),(b_1,.cells #[pv0_0,pv0_1] 43 (0,0))] [((ob v9++D8)),ob v11,D7,ob u3,D6,ob u2,D1,ob u1]) (fun w1 hw=>hw.merge (js:=[1,1]) rfl (SP.eq (by simp [List.append_assoc,bl]))) ?_
   obtain ⟨x8,hx8,h⟩:=bs h
   refine WM.one 15 (by kernel_rfl) (me rfl (fun _ v Φx D w1 hq hw=>Kn.of Kf.nil (am [0,1,2,3] rfl) hw) (gE aK.lasts aK.one pw IH rfl rfl rfl rfl rfl (js:=[3]) (Rr:=[((ob v9++D8)),ob v11,D7,D6,ob u2,D1,ob u1]) rfl k6 h11 (fun ap=>ap.q 2 rfl) (fun ap=>ap.q 0 rfl) hx8) rfl ?_)
   rintro v12 Φ_10 D10 ⟨⟨ap4,fr7⟩,h12⟩
   replace k2:=k2.fr fr7 (ap4.q 6 rfl) (ap4.q 5 rfl)
   replace k4:=k4.fr fr7 (ap4.q 4 rfl) (ap4.q 3 rfl)
   refine WM.conv (S':=St w0 Φ_10 [(b_4,.cells #[u3] 126 (0,0)),(b_3,.cells #[u1,u2] 43 (0,0)),(b_2,.cells #[.slice none 0 0,.slice none 0 0] 43 (0,0)),(b_1,.cells #[pv0_0,pv0_1] 43 (0,0))] [(D7++((ob v9++D8))),ob v12,ob v11,D6,ob u2,D1,ob u1]) (fun w1 hw=>hw.merge (js:=[3,1]) rfl (SP.eq (by simp)))<|amm 1 [16,0] [0,1,2,3] rfl rfl ?_
   refine on1 17 (ms1 0 rfl nk Hb rfl h12.one ?_)
   refine WM.nil (by kernel_rfl)<|att 6 [] rfl ?_
   exact lb [0,0,1,1,1,1] [0,0,0,0] (ih3 (_,_,_,_,_) ⟨h,k2,k4,h12⟩)
  refine atr 4 [1,32] rfl<|lq (ao xN rfl (fun w1 hw=>hw.rgO (i:=0) rfl 0 1 [u3] rfl) rfl) rfl ?_
  have rc4:RC aP 1 Φ_7 ([(ob u3++D7)]:List (List Nat)) [u3] ([(⟨s5⟩:aF)]:List aF):=RC.cons (c:=[u3]) (cells:=[]) ⟨u3,D7,rfl,rfl,k6⟩ rfl (RC.nil _ _ _)
  refine le' (cu (vs:=[(0,.agg [u3].toArray)]) (C:=#[u3]) aP.lasts xO rG rfl rfl rfl rfl (aI Ft (ai (C':=[u3]) rfl rfl rfl rfl rfl (ak))) rfl rc4 rfl (RC.kn aP.knows rc4)) rfl ?_
  rintro v13 Φ_11 D11 ⟨fr8,h13⟩
  replace h13:OSl aP 126 1 Φ_11 ((ob u3++D7)) v13 ([(⟨s5⟩:aF)]:List aF):=by simpa [List.append_assoc] using h13
  replace k2:=k2.f0 fr8
  replace k4:=k4.f0 fr8
  refine wlL [((ob u3++D7)),ob v13,D6,ob u2,D1,ob u1] (smg [2,1] rfl (SP.eq (by simp [List.append_assoc,bl]))) ?_
  obtain ⟨x9,hx9,h⟩:=bs h
  refine le' (gE aP.lasts aP.one xO Jv rfl rfl rfl rfl rfl (js:=[3]) (Rr:=[((ob u3++D7)),ob v13,D6,D1,ob u1]) rfl k4 h13 (fun ap=>ap.q 2 rfl) (fun ap=>ap.q 0 rfl) hx9) rfl ?_
  rintro v14 Φ_12 D12 ⟨⟨ap5,fr9⟩,h14⟩
  replace k2:=k2.fr fr9 (ap5.q 4 rfl) (ap5.q 3 rfl)
  refine wlL [(D6++((ob u3++D7))),ob v14,ob v13,D1,ob u1] (smg [3,1] rfl (SP.eq (by simp)))<|lf wk rfl rfl rfl<|so1 1 IN rfl h14.one ?_
  refine art 7 [] rfl ?_
  exact lb [0,0,1,1] [1,1,1] (ih2 (_,_,_,_,_) ⟨h,k2,h14⟩)
 refine atr 4 [2] rfl<|soN 1 kI rfl ⟨k2.one,k4.one,trivial⟩ rfl ?_
 refine en ?_
 exact rtg [3,2,1,0] hF (ay.one (bB Gl rfl (fun w1 hw=>hw.rgO (i:=1) rfl 0 2 [u1,u2] rfl) rfl)) rfl (by cases h; exact fun w1 hw=>⟨u1,D1,u2,D6,rfl,rfl,k2,k4⟩)
theorem BJ (w0:af Ψ Φ []) (p0:aw) (ph0_0:RSl az 3 Ψ pG0_0 pv0_0 p0.Fields) {r:aw} (h:qM N p0=some r) :
  Calls prog 105 [.agg [.string p0.Kind,pv0_0].toArray].toArray w0.w (aQ Φ w0.w [] (fun Φ' Fs v=>∃ (sr_0_0:Value),v = .agg [.string r.Kind,sr_0_0].toArray∧Fs=[ob sr_0_0]∧OSl az 193 3 Φ' [] sr_0_0 r.Fields)):=by
 refine eN func105 rfl ntmps105 rfl w0 fun hF=>?_
 unfold qM at h
 refine sr<|lbx rfl fun b_1=>lnz kj rfl fun b_2=>en<|sr<|le' (io az.lasts ep jI rfl rfl) rfl ?_
 rintro v1 Φ_1 D1 ⟨fr1,h1⟩
 refine arr 2 [1,32] rfl<|lu0 ph0_0 fun h2=>?_
 obtain ⟨x1,hx1,h⟩:=bs h
 refine le' (cP az.lasts az.one az.flat ep DA rfl rfl rfl rfl rfl (js:=[0]) (Rr:=[]) rfl h1 h2 hx1) rfl ?_
 rintro v2 Φ_2 D2 ⟨⟨ap1,fr2⟩,h3⟩
 refine lf Dc rfl rfl rfl<|so1 1 AG rfl h3.one ?_
 refine arr 4 [34] rfl<|soN 0 kL rfl ⟨rfl,h3.one,trivial⟩ rfl ?_
 refine en ?_
 exact rtg [0] hF (ay.one (bB pq rfl (fun w1 hw=>hw.rgO (i:=0) rfl 0 2 [.string p0.Kind,v2] rfl) rfl)) rfl (by cases h; exact fun w1 hw=>⟨v2,rfl,rfl,h3⟩)
theorem od (w0:af Ψ Φ []) (p0:ah) (p1:Int) (ph0_0:RSl bE 3 Ψ pG0_0 pv0_0 p0.Items) {r:aw × Bool} (h:lD N p0 p1=some r) :
  Calls prog 62 [.agg [pv0_0,iV p0.Next].toArray,iV p1].toArray w0.w (aQ Φ w0.w [] (fun Φ' Fs v=>∃ (sr_0_0:Value),v = .tuple #[.agg [.string r.1.Kind,sr_0_0].toArray,.bool r.2]∧Fs=[ob sr_0_0]∧OSl az 193 3 Φ' [] sr_0_0 r.1.Fields)):=by
 refine eN func62 rfl ntmps62 rfl w0 fun hF=>?_
 unfold lD at h
 refine sr<|lbx rfl fun b_1=>lnz kj rfl fun b_2=>art 8 [] rfl ?_
 refine lin (σ:=Int) (fun s=>[(1,iV p1),(2,pQ b_1),(4,pQ b_2),(6,iV s)]) (fun s=>St w0 Φ [(b_2,.cells #[.string (⟨#[]⟩:ByteArray),.slice none 0 0] 133 (0,0)),(b_1,.cells #[pv0_0,iV p0.Next] 57 (0,0))] []) (fun m s=>ga N p0 p1 m s=some r) (0) N h (sx [] [0,0]) (fun n1 ih1 s hm=>?_)
 revert hm; revert s; intro s1 hm
 have h:ga N p0 p1 (n1+1) s1=some r:=hm
 show WT _ _ [(1,iV p1),(2,pQ b_1),(4,pQ b_2),(6,iV s1)] (St w0 Φ [(b_2,.cells #[.string (⟨#[]⟩:ByteArray),.slice none 0 0] 133 (0,0)),(b_1,.cells #[pv0_0,iV p0.Next] 57 (0,0))] [])
 unfold ga at h
 refine atr 6 [0,32] rfl<|lnr ph0_0 rfl<|la rfl<|en ?_
 refine ch h rfl ?_ ?_ <;> intro h
 ·refine atr 8 [0,32] rfl ?_
  obtain ⟨x1,hx1,h⟩:=bs h
  obtain ⟨cs1,F1,-,g1,hb1,hs1,r1⟩:=ph0_0.el (a7 hx1).2.2
  obtain ⟨v1,G1,rfl,hq1,h1⟩:=r1
  obtain rfl:=hq1.symm
  refine lia ph0_0 hx1 rfl<|lf sU rfl rfl rfl<|lhx 0 0 g1 rfl<|art 3 [] rfl ?_
  refine ch h rfl ?_ ?_ <;> intro h
  ·refine atr 5 [0,32] rfl ?_
   obtain ⟨x2,hx2,h⟩:=bs h
   obtain ⟨cs2,F2,-,g2,hb2,hs2,r2⟩:=ph0_0.el (a7 hx2).2.2
   obtain ⟨v2,G2,rfl,hq2,h2⟩:=r2
   obtain rfl:=hq2.symm
   refine lia ph0_0 hx2 rfl<|lf xG rfl rfl rfl<|lhx 1 2 g2 rfl<|kab h rfl rfl rfl (fun b z q=>BJ N b x2.F (h2.y z) q) ?_
   rintro x3 h v3 Φ_1 F3 ⟨ap1,fr1,v4,rfl,rfl,h3⟩
   refine soN 0 kL rfl ⟨rfl,h3.one,trivial⟩ rfl ?_
   refine la rfl<|en ?_
   exact rtg [0] hF (ay.two (bB pq rfl (fun w1 hw=>hw.rgO (i:=0) rfl 0 2 [.string x3.Kind,v4] rfl) rfl) rfl) rfl (by cases h; exact fun w1 hw=>⟨v4,rfl,rfl,h3⟩)
  refine att 7 [] rfl ?_
  exact lb [] [0,0] (ih1 _ h)
 refine xt rfl<|sr<|lq (cw (vs:=[]) (C:=#[.string (⟨#[]⟩:ByteArray),.slice none 0 0]) H6 kj rfl (ak)) rfl<|soN 0 kL rfl ⟨rfl,rfl,trivial⟩ rfl ?_
 refine la rfl<|en ?_
 refine WT.ret hF (ay.two (bB pq rfl (fun w1 hw=>hw.rgO (i:=0) rfl 0 2 [.string (⟨#[]⟩:ByteArray),.slice none 0 0] rfl) rfl) rfl) (fun w1 hw=>?_)
 cases h
 replace hw:=hw.addNil
 refine bZ (js:=[0]) hw rfl ⟨.slice none 0 0,rfl,rfl,OSl.nil _ _ _ _⟩
theorem cp  (w0:af Ψ Φ []) (p0:Int) (p1:Int) (p2:Int)  {r:Bool} (h:dB N p0 p1 p2=some r) :
  CB w0 prog 106 [iV p0,iV p1,iV p2] (.bool r):=by
 refine eN func106 rfl ntmps106 rfl w0 fun hF=>?_
 unfold dB at h
 refine atr 10 [] rfl ?_
 obtain ⟨b1,hb_1,h⟩:=bs h
 refine WL.cutN 4 [(14,.bool b1),(6,.bool false)] ?_ (fun K=>?_)
 rotate_left
 ·refine sp 10 hb_1 rfl (fun hb_1=>?_) fun hb_1=>?_
  ·refine arr 4 [] rfl ?_
   cases hb_1
   exact ku K
  ·refine arr 4 [] rfl ?_
   cases hb_1
   exact ku K
 refine la rfl<|en ?_
 exact rt hF h
theorem pu  (w0:af Ψ Φ []) (p0:Int)  {r:Bool} (h:iP N p0=some r) :
  CB w0 prog 191 [.int .u8 p0] (.bool r):=by
 refine eN func191 rfl ntmps191 rfl w0 fun hF=>?_
 unfold iP at h
 refine atr 7 [] rfl<|lq (wc HX Jn rfl) rfl<|qc h (cp N · (wz p0) 97 122 ·) rfl rfl rfl fun x1 h=>la rfl ?_
 obtain ⟨b1,hb_1,h⟩:=bs h
 refine WL.cutN 4 [(10,.bool b1),(0,.int .u8 p0),(2,.bool false)] ?_ (fun K=>?_)
 rotate_left
 ·refine sp 6 hb_1 rfl (fun hb_1=>?_) fun hb_1=>?_
  ·refine arr 4 [] rfl ?_
   cases hb_1
   exact ku K
  ·refine ly rfl rfl<|la rfl<|ly rfl rfl<|lq (wc HX Jn rfl) rfl<|ly rfl rfl<|qc hb_1 (cp N · (wz p0) 48 57 ·) rfl rfl rfl fun x2 hb_1=>la rfl ?_
   cases hb_1
   exact ku K
 refine la rfl ?_
 obtain ⟨b2,hb_2,h⟩:=bs h
 refine WL.cutN 3 [(14,.bool b2),(2,.bool false)] ?_ (fun K=>?_)
 rotate_left
 ·refine sp 11 hb_2 rfl (fun hb_2=>?_) fun hb_2=>?_
  ·refine arr 3 [] rfl ?_
   cases hb_2
   exact ku K
  ·refine arr 3 [] rfl ?_
   cases hb_2
   exact ku K
 refine la rfl<|en ?_
 exact rt hF h
theorem fW  (w0:af Ψ Φ []) (p0:ByteArray)  {r:Bool} (h:eE N p0=some r) :
  CB w0 prog 154 [.string p0] (.bool r):=by
 refine eN func154 rfl ntmps154 rfl w0 fun hF=>?_
 unfold eE at h
 refine att 10 [] rfl ?_
 refine lin (σ:=Int) (fun s=>[(0,.string p0),(3,iV s)]) (fun s=>St w0 Φ [] []) (fun m s=>eU N p0 m s=some r) (0) N h (sx [] []) (fun n1 ih1 s hm=>?_)
 revert hm; revert s; intro s1 hm
 have h:eU N p0 (n1+1) s1=some r:=hm
 show WT _ _ [(0,.string p0),(3,iV s1)] (St w0 Φ [] [])
 unfold eU at h
 refine atr 5 [] rfl<|lq (gC fL rfl rfl) rfl<|la rfl<|en ?_
 refine ch h rfl ?_ ?_ <;> intro h
 ·refine atr 7 [] rfl ?_
  obtain ⟨y1,hy1,h⟩:=bs h
  refine lq (l8 fL rfl rfl hy1) rfl<|qc h (pu N · (y1.toNat:Int) ·) rfl rfl rfl fun x1 h=>arr 2 [] rfl ?_
  obtain ⟨b1,hb_1,h⟩:=bs h
  refine WL.cutN 11 [(26,.bool b1),(0,.string p0),(3,iV s1)] ?_ (fun K=>?_)
  rotate_left
  ·refine sp 15 hb_1 rfl (fun hb_1=>?_) fun hb_1=>?_
   ·refine arr 11 [] rfl ?_
    cases hb_1
    exact ku K
   ·refine arr 3 [] rfl ?_
    obtain ⟨b2,hb_2,hb_1⟩:=bs hb_1
    refine WL.cutN 7 [(25,.bool b2),(0,.string p0),(3,iV s1),(15,.bool false)] ?_ (fun K=>?_)
    rotate_left
    ·refine sp 18 hb_2 rfl (fun hb_2=>?_) fun hb_2=>?_
     ·refine arr 2 [] rfl<|ly rfl rfl ?_
      obtain ⟨y2,hy2,hb_2⟩:=bs hb_2
      refine lq (l8 fL rfl rfl hy2) rfl<|ly rfl rfl<|lq (wc HX Jn rfl) rfl<|ly rfl rfl<|qc hb_2 (cp N · (wz (y2.toNat:Int)) 97 122 ·) rfl rfl rfl fun x2 hb_2=>arr 2 [] rfl ?_
      cases hb_2
      exact ku K
     ·refine arr 7 [] rfl ?_
      cases hb_2
      exact ku K
    refine la rfl ?_
    cases hb_1
    exact ku K
  refine en ?_
  refine ch h rfl ?_ ?_ <;> intro h
  ·refine att 4 [] rfl ?_
   exact rt hF h
  refine att 7 [] rfl ?_
  exact lb [] [] (ih1 _ h)
 refine atr 4 [] rfl<|lq (gC fL rfl rfl) rfl<|qc h (cp N · (p0.size:Int) 1 12 ·) rfl rfl rfl fun x3 h=>la rfl<|en ?_
 exact rt hF h
theorem Af  (w0:af Ψ Φ []) (p0:ByteArray)  {r:Bool} (h:pf N p0=some r) :
  CB w0 prog 221 [.string p0] (.bool r):=by
 refine eN func221 rfl ntmps221 rfl w0 fun hF=>?_
 unfold pf at h
 refine att 10 [] rfl ?_
 refine lin (σ:=Int) (fun s=>[(0,.string p0),(3,iV s)]) (fun s=>St w0 Φ [] []) (fun m s=>fd N p0 m s=some r) (0) N h (sx [] []) (fun n1 ih1 s hm=>?_)
 revert hm; revert s; intro s1 hm
 have h:fd N p0 (n1+1) s1=some r:=hm
 show WT _ _ [(0,.string p0),(3,iV s1)] (St w0 Φ [] [])
 unfold fd at h
 refine atr 5 [] rfl<|lq (gC fL rfl rfl) rfl<|la rfl<|en ?_
 refine ch h rfl ?_ ?_ <;> intro h
 ·refine atr 7 [] rfl ?_
  obtain ⟨y1,hy1,h⟩:=bs h
  refine lq (l8 fL rfl rfl hy1) rfl<|qc h (pu N · (y1.toNat:Int) ·) rfl rfl rfl fun x1 h=>la rfl<|en ?_
  refine ch h rfl ?_ ?_ <;> intro h
  ·refine att 4 [] rfl ?_
   exact rt hF h
  refine att 7 [] rfl ?_
  exact lb [] [] (ih1 _ h)
 refine atr 4 [] rfl<|lq (gC fL rfl rfl) rfl<|art 3 [] rfl ?_
 exact rt hF h
end Go.Proofs.YtnnkgijdbebnaaaGreat
