/- Printed by a program of ours: each Go function computes its Lean function. -/
import Derived.Test.YtiljnppocjgkkaaGreatProg
import Derived.Test.YtiljnppocjgkkaaGreatWExactMemSoundSort
import Derived.Test.YtiljnppocjgkkaaGreatEP
namespace Go.Proofs.YtiljnppocjgkkaaGreat
open Eng Tryz
open Go.RowKit (Below)
set_option linter.unusedVariables false
set_option linter.unusedSimpArgs false

set_option maxRecDepth 100000
set_option maxHeartbeats 1000000
theorem mixed:prog.follows .mixedOrders=true:=by kernel_rfl
theorem LX:T1 prog 9=true:=by kernel_rfl
theorem eW:Str prog 9=true:=by kernel_rfl
theorem bD:Sl prog 67 3 1=true:=by kernel_rfl
theorem nR:T1 prog 67=true:=by kernel_rfl
theorem Hc:Ik prog 5 .u8=true:=by kernel_rfl
theorem HA:Ik prog 3 .i64=true:=by kernel_rfl
theorem Fz:Fun prog 45=true:=by kernel_rfl
theorem rB:Sl prog 157 9 1=true:=by kernel_rfl
theorem FD:(prog.info? 9).map (·.zero)=some (some (.string ⟨#[]⟩)):=by kernel_rfl
theorem EQ:Fld prog 124 1 1=true:=by kernel_rfl
theorem tV:Sl prog 122 169 5=true:=by kernel_rfl
theorem A6:Fld prog 169 0 0=true:=by kernel_rfl
theorem rU:T1 prog 3=true:=by kernel_rfl
theorem A2:Fld prog 169 1 1=true:=by kernel_rfl
theorem CS:madeCells (Value.string ⟨#[]⟩:Value).cells (1*1) = #[.string ⟨#[]⟩]:=by kernel_rfl
theorem IJ:(prog.info? 9).map (fun i=>(i.zero,i.size,i.bytes))=some (some (.string ⟨#[]⟩),1,16):=by kernel_rfl
theorem tY:Fld prog 109 2 2=true:=by kernel_rfl
theorem qP:Sl prog 105 124 3=true:=by kernel_rfl
theorem sY:Tn prog 124 3=true:=by kernel_rfl
theorem kY:Fld prog 124 2 2=true:=by kernel_rfl
theorem EL:Fld prog 169 2 2=true:=by kernel_rfl
theorem gF:Tn prog 167 3=true:=by kernel_rfl
theorem wD:Pl prog 167 #[(0,1),(1,1),(2,1)]=true:=by kernel_rfl
theorem iw:(prog.info? 167).map (·.zero)=some (some (.agg #[iV 0,iV 0,.string ⟨#[]⟩])):=by kernel_rfl
theorem kr:EqT prog 167 [.i .i64,.i .i64,.s]=true:=by kernel_rfl
theorem Bc:Tn prog 169 5=true:=by kernel_rfl
theorem JO:Fun prog 44=true:=by kernel_rfl
theorem zV:Fld prog 183 1 1=true:=by kernel_rfl
theorem zS:Fld prog 183 2 6=true:=by kernel_rfl
theorem Dv:Sl prog 106 183 11=true:=by kernel_rfl
theorem CR:Tn prog 183 11=true:=by kernel_rfl
theorem zG:Fld prog 231 1 1=true:=by kernel_rfl
theorem Ab:Fld prog 231 2 6=true:=by kernel_rfl
theorem Gn:Pl prog 169 #[(0,1),(1,1),(2,3)]=true:=by kernel_rfl
theorem mH:(prog.info? 169).map (·.zero)=some (some (.agg #[iV 0,.string ⟨#[]⟩,iV 0,iV 0,.string ⟨#[]⟩])):=by kernel_rfl
theorem Ea:EqT prog 169 [.i .i64,.s,.i .i64,.i .i64,.s]=true:=by kernel_rfl
theorem DA:Sl prog 185 231 11=true:=by kernel_rfl
theorem Db:Tn prog 231 11=true:=by kernel_rfl
theorem ss:Fld prog 187 2 2=true:=by kernel_rfl
theorem Ej:Fld prog 187 0 0=true:=by kernel_rfl
theorem EN:Fld prog 187 3 3=true:=by kernel_rfl
theorem Dc:Sl prog 107 187 5=true:=by kernel_rfl
theorem AZ:Tn prog 187 5=true:=by kernel_rfl
theorem mQ:Tn prog 109 5=true:=by kernel_rfl
theorem zF:Fld prog 109 0 0=true:=by kernel_rfl
theorem Ie:Fun prog 85=true:=by kernel_rfl
theorem EI:Fld prog 109 3 3=true:=by kernel_rfl
theorem K6:Fun prog 86=true:=by kernel_rfl
theorem EA:Fld prog 109 4 4=true:=by kernel_rfl
theorem Jn:Fun prog 88=true:=by kernel_rfl
theorem Jb:Fun prog 87=true:=by kernel_rfl
theorem Fy:Fld prog 38 1 1=true:=by kernel_rfl
theorem zT:Sl prog 36 109 5=true:=by kernel_rfl
theorem Iy:Fun prog 42=true:=by kernel_rfl
theorem HV:Tn prog 38 2=true:=by kernel_rfl
theorem Jd:Fun prog 43=true:=by kernel_rfl
theorem dA:Sl prog 113 167 3=true:=by kernel_rfl
theorem A7:Fld prog 115 1 1=true:=by kernel_rfl
theorem Fp:Fld prog 47 0 0=true:=by kernel_rfl
theorem rP:Sl prog 45 117 3=true:=by kernel_rfl
theorem tU:Fld prog 117 1 1=true:=by kernel_rfl
theorem mV:Tn prog 115 2=true:=by kernel_rfl
theorem If:Fun prog 91=true:=by kernel_rfl
theorem sh:Fld prog 117 0 0=true:=by kernel_rfl
theorem Dl:Tn prog 117 3=true:=by kernel_rfl
theorem qU:(prog.info? 117).map (·.zero)=some (some (.agg #[iV 0,.string ⟨#[]⟩,.slice none 0 0])):=by kernel_rfl
theorem rF:Sz prog 117 3=true:=by kernel_rfl
theorem Is:Fun prog 46=true:=by kernel_rfl
theorem tp:Tn prog 47 2=true:=by kernel_rfl
theorem JD:Fun prog 47=true:=by kernel_rfl
theorem A5:Fld prog 128 3 3=true:=by kernel_rfl
theorem CW:Fun prog 24=true:=by kernel_rfl
theorem Ey:Fld prog 128 2 2=true:=by kernel_rfl
theorem oa:Fld prog 62 0 0=true:=by kernel_rfl
theorem Gv:T1 prog 59=true:=by kernel_rfl
theorem zM:Sl prog 59 128 4=true:=by kernel_rfl
theorem sX:Tn prog 128 4=true:=by kernel_rfl
theorem JY:Fun prog 92=true:=by kernel_rfl
theorem Cn:madeCells (Value.agg #[.string ⟨#[]⟩,iV 0,.slice none 0 0,.slice none 0 0]:Value).cells (1*4) = #[.string ⟨#[]⟩,iV 0,.slice none 0 0,.slice none 0 0]:=by kernel_rfl
theorem nO:(prog.info? 128).map (·.zero)=some (some (.agg #[.string ⟨#[]⟩,iV 0,.slice none 0 0,.slice none 0 0])):=by kernel_rfl
theorem Ff:(prog.info? 128).map (fun i=>(i.zero,i.size,i.bytes))=some (some (.agg #[.string ⟨#[]⟩,iV 0,.slice none 0 0,.slice none 0 0]),4,72):=by kernel_rfl
theorem HQ:Sz prog 59 1=true:=by kernel_rfl
theorem Fq:Pl prog 128 #[(0,1),(1,1),(2,1),(3,1)]=true:=by kernel_rfl
theorem sV:Sz prog 128 4=true:=by kernel_rfl
theorem C4:madeCells (Value.agg #[iV 0,iV 0,.string ⟨#[]⟩]:Value).cells (1*3) = #[iV 0,iV 0,.string ⟨#[]⟩]:=by kernel_rfl
theorem Av:(prog.info? 167).map (fun i=>(i.zero,i.size,i.bytes))=some (some (.agg #[iV 0,iV 0,.string ⟨#[]⟩]),3,32):=by kernel_rfl
theorem AU:Sz prog 113 1=true:=by kernel_rfl
theorem kv:madeCells (Value.int .i64 0:Value).cells (1*1) = #[iV 0]:=by kernel_rfl
theorem pb:(prog.info? 3).map (·.zero)=some (some (iV 0)):=by kernel_rfl
theorem tA:(prog.info? 3).map (fun i=>(i.zero,i.size,i.bytes))=some (some (iV 0),1,8):=by kernel_rfl
theorem qm:Sz prog 67 1=true:=by kernel_rfl
theorem vZ:(prog.info? 62).map (·.zero)=some (some (.agg #[.slice none 0 0,.slice none 0 0])):=by kernel_rfl
theorem Lb:Pl prog 62 #[(0,1),(1,1)]=true:=by kernel_rfl
theorem Cf:Sz prog 62 2=true:=by kernel_rfl
theorem K4:Pl prog 121 #[(0,1),(1,1)]=true:=by kernel_rfl
theorem ub:(prog.info? 121).map (·.zero)=some (some (.agg #[.slice none 0 0,.slice none 0 0])):=by kernel_rfl
theorem Fl:Sz prog 121 2=true:=by kernel_rfl
theorem mN:(prog.info? 124).map (·.zero)=some (some (.agg #[.string ⟨#[]⟩,.slice none 0 0,.bool false])):=by kernel_rfl
theorem pX:Sz prog 124 3=true:=by kernel_rfl
theorem ua:Fld prog 121 1 1=true:=by kernel_rfl
theorem sd:Fld prog 121 0 0=true:=by kernel_rfl
theorem C3:Fld prog 62 1 1=true:=by kernel_rfl
theorem Gj:Tn prog 121 2=true:=by kernel_rfl
theorem Cz:madeCells (Value.agg #[.slice none 0 0,.slice none 0 0]:Value).cells (1*2) = #[.slice none 0 0,.slice none 0 0]:=by kernel_rfl
theorem Ac:Sl prog 60 121 2=true:=by kernel_rfl
theorem Fq0:(prog.info? 121).map (fun i=>(i.zero,i.size,i.bytes))=some (some (.agg #[.slice none 0 0,.slice none 0 0]),2,48):=by kernel_rfl
theorem HM:Sz prog 60 1=true:=by kernel_rfl
theorem I6:Tn prog 62 2=true:=by kernel_rfl
theorem pj:(prog.info? 43).map (·.zero)=some (some (.agg #[.slice none 0 0,.slice none 0 0])):=by kernel_rfl
theorem HY:Pl prog 43 #[(0,1),(1,1)]=true:=by kernel_rfl
theorem rG:Sz prog 43 2=true:=by kernel_rfl
theorem o8:Fld prog 43 0 0=true:=by kernel_rfl
theorem Cw:T1 prog 40=true:=by kernel_rfl
theorem KH:Pl prog 69 #[(0,1)]=true:=by kernel_rfl
theorem uI:(prog.info? 69).map (·.zero)=some (some (.agg #[.slice none 0 0])):=by kernel_rfl
theorem HB:madeCells (Value.agg #[.slice none 0 0]:Value).cells (1*1) = #[.slice none 0 0]:=by kernel_rfl
theorem pA:Sl prog 40 69 1=true:=by kernel_rfl
theorem KC:(prog.info? 69).map (fun i=>(i.zero,i.size,i.bytes))=some (some (.agg #[.slice none 0 0]),1,24):=by kernel_rfl
theorem HN:Sz prog 40 1=true:=by kernel_rfl
theorem I0:Pl prog 72 #[(0,1)]=true:=by kernel_rfl
theorem ru:(prog.info? 72).map (·.zero)=some (some (.agg #[.slice none 0 0])):=by kernel_rfl
theorem Aa:Sz prog 72 1=true:=by kernel_rfl
theorem ja:Fld prog 72 0 0=true:=by kernel_rfl
theorem Ec:T1 prog 70=true:=by kernel_rfl
theorem Kg:Pl prog 76 #[(0,1)]=true:=by kernel_rfl
theorem uC:(prog.info? 76).map (·.zero)=some (some (.agg #[.slice none 0 0])):=by kernel_rfl
theorem H8:madeCells (Value.agg #[.slice none 0 0]:Value).cells (1*1) = #[.slice none 0 0]:=by kernel_rfl
theorem rn:Sl prog 70 76 1=true:=by kernel_rfl
theorem Kh:(prog.info? 76).map (fun i=>(i.zero,i.size,i.bytes))=some (some (.agg #[.slice none 0 0]),1,24):=by kernel_rfl
theorem HS:Sz prog 70 1=true:=by kernel_rfl
theorem wx:Fld prog 43 1 1=true:=by kernel_rfl
theorem vw:Tn prog 72 1=true:=by kernel_rfl
theorem E5:madeCells (Value.agg #[.slice none 0 0]:Value).cells (1*1) = #[.slice none 0 0]:=by kernel_rfl
theorem tf:Sl prog 41 72 1=true:=by kernel_rfl
theorem HO:(prog.info? 72).map (fun i=>(i.zero,i.size,i.bytes))=some (some (.agg #[.slice none 0 0]),1,24):=by kernel_rfl
theorem Fw:Sz prog 41 1=true:=by kernel_rfl
theorem zI:Tn prog 43 2=true:=by kernel_rfl
theorem jD:(prog.info? 115).map (·.zero)=some (some (.agg #[.string ⟨#[]⟩,.slice none 0 0])):=by kernel_rfl
theorem ky:Sz prog 115 2=true:=by kernel_rfl
theorem Di:Pl prog 115 #[(0,1),(1,1)]=true:=by kernel_rfl
theorem lh:Sl prog 250 289 4=true:=by kernel_rfl
theorem ER:Fld prog 289 0 0=true:=by kernel_rfl
theorem EK:Fld prog 289 1 1=true:=by kernel_rfl
theorem oZ:Sz prog 167 3=true:=by kernel_rfl
theorem qN:(prog.info? 289).map (·.zero)=some (some (.agg #[.string ⟨#[]⟩,iV 0,iV 0,.string ⟨#[]⟩])):=by kernel_rfl
theorem wj:(prog.info? 289).map (fun i=>(i.zero,i.size,i.bytes))=some (some (.agg #[.string ⟨#[]⟩,iV 0,iV 0,.string ⟨#[]⟩]),4,48):=by kernel_rfl
theorem oV:Sz prog 169 5=true:=by kernel_rfl
theorem Gt:Pl prog 289 #[(0,1),(1,3)]=true:=by kernel_rfl
theorem Ch:madeCells (Value.agg #[.string ⟨#[]⟩,iV 0,iV 0,.string ⟨#[]⟩]:Value).cells (1*4) = #[.string ⟨#[]⟩,iV 0,iV 0,.string ⟨#[]⟩]:=by kernel_rfl
theorem Gy:Fun prog 93=true:=by kernel_rfl
theorem DU:Fun prog 221=true:=by kernel_rfl
theorem fj:Sl prog 74 136 2=true:=by kernel_rfl
theorem nE:Fld prog 136 0 0=true:=by kernel_rfl
theorem HC:Fun prog 185=true:=by kernel_rfl
theorem HF:Fun prog 186=true:=by kernel_rfl
theorem kU:Fld prog 136 1 1=true:=by kernel_rfl
theorem u6:Sz prog 3 1=true:=by kernel_rfl
theorem Gc:Pl prog 136 #[(0,1),(1,1)]=true:=by kernel_rfl
theorem iu:(prog.info? 136).map (·.zero)=some (some (.agg #[.slice none 0 0,.slice none 0 0])):=by kernel_rfl
theorem CI:madeCells (Value.agg #[.slice none 0 0,.slice none 0 0]:Value).cells (1*2) = #[.slice none 0 0,.slice none 0 0]:=by kernel_rfl
theorem rq:(prog.info? 136).map (fun i=>(i.zero,i.size,i.bytes))=some (some (.agg #[.slice none 0 0,.slice none 0 0]),2,48):=by kernel_rfl
theorem La:By prog 3 8=true:=by kernel_rfl
theorem vv:Tn prog 136 2=true:=by kernel_rfl
theorem pH:Sz prog 136 2=true:=by kernel_rfl
theorem gk:Fld prog 76 0 0=true:=by kernel_rfl
theorem Co:T1 prog 74=true:=by kernel_rfl
theorem H2:Fun prog 146=true:=by kernel_rfl
theorem tj:madeCells (Value.agg #[.slice none 0 0,.slice none 0 0]:Value).cells (0*2) = #[]:=by kernel_rfl
theorem DC:Sl prog 172 4 1=true:=by kernel_rfl
theorem E3:Fun prog 147=true:=by kernel_rfl
theorem m4:Fld prog 69 0 0=true:=by kernel_rfl
theorem Hr:Fun prog 148=true:=by kernel_rfl
theorem Gr:Sz prog 74 1=true:=by kernel_rfl
theorem KW:(prog.info? 4).map (·.zero)=some (some (.bool false)):=by kernel_rfl
theorem J4:Fun prog 94=true:=by kernel_rfl
theorem Ir:madeCells (Value.bool false:Value).cells (1*1) = #[.bool false]:=by kernel_rfl
theorem LI:(prog.info? 4).map (fun i=>(i.zero,i.size,i.bytes))=some (some (.bool false),1,1):=by kernel_rfl
theorem JQ:Fun prog 95=true:=by kernel_rfl
theorem I1:Pl prog 47 #[(0,1),(1,1)]=true:=by kernel_rfl
theorem C7:(prog.info? 47).map (·.zero)=some (some (.agg #[.slice none 0 0,iV 0])):=by kernel_rfl
theorem JV:Fun prog 51=true:=by kernel_rfl
theorem Jc:Fun prog 25=true:=by kernel_rfl
theorem AT:Sz prog 9 1=true:=by kernel_rfl
theorem JJ:By prog 169 56=true:=by kernel_rfl
theorem Js:Sz prog 122 1=true:=by kernel_rfl
theorem M8:Sz prog 4 1=true:=by kernel_rfl
theorem IT:By prog 124 48=true:=by kernel_rfl
theorem xE:(prog.info? 183).map (·.zero)=some (some (.agg #[iV 0,iV 0,.string ⟨#[]⟩,iV 0,iV 0,.string ⟨#[]⟩,iV 0,.string ⟨#[]⟩,iV 0,iV 0,.string ⟨#[]⟩])):=by kernel_rfl
theorem AX:Sz prog 183 11=true:=by kernel_rfl
theorem Iv:By prog 183 120=true:=by kernel_rfl
theorem xg:(prog.info? 231).map (·.zero)=some (some (.agg #[.string ⟨#[]⟩,iV 0,.string ⟨#[]⟩,iV 0,iV 0,.string ⟨#[]⟩,iV 0,.string ⟨#[]⟩,iV 0,iV 0,.string ⟨#[]⟩])):=by kernel_rfl
theorem AV:Sz prog 231 11=true:=by kernel_rfl
theorem IV:By prog 231 128=true:=by kernel_rfl
theorem wl:(prog.info? 187).map (·.zero)=some (some (.agg #[iV 0,.string ⟨#[]⟩,.slice none 0 0,iV 0,.string ⟨#[]⟩])):=by kernel_rfl
theorem K0:Sz prog 185 1=true:=by kernel_rfl
theorem Bn:Sz prog 187 5=true:=by kernel_rfl
theorem Ju:By prog 187 72=true:=by kernel_rfl
theorem un:(prog.info? 109).map (·.zero)=some (some (.agg #[.string ⟨#[]⟩,iV 0,.slice none 0 0,.slice none 0 0,.slice none 0 0])):=by kernel_rfl
theorem Ip:Sz prog 105 1=true:=by kernel_rfl
theorem Jf:Sz prog 106 1=true:=by kernel_rfl
theorem IA:Sz prog 107 1=true:=by kernel_rfl
theorem vD:Sz prog 109 5=true:=by kernel_rfl
theorem JL:By prog 109 96=true:=by kernel_rfl
theorem Gx:(prog.info? 38).map (·.zero)=some (some (.agg #[.string ⟨#[]⟩,.slice none 0 0])):=by kernel_rfl
theorem Kc:Sz prog 36 1=true:=by kernel_rfl
theorem I3:Sz prog 38 2=true:=by kernel_rfl
theorem Aj:Tn prog 69 1=true:=by kernel_rfl
theorem Eh:Sz prog 69 1=true:=by kernel_rfl
theorem HP:By prog 69 24=true:=by kernel_rfl
theorem JZ:By prog 136 48=true:=by kernel_rfl
theorem zW:Tn prog 76 1=true:=by kernel_rfl
theorem E7:Sz prog 76 1=true:=by kernel_rfl
theorem I4:By prog 76 24=true:=by kernel_rfl
theorem K9:By prog 72 24=true:=by kernel_rfl
theorem Ia:By prog 167 32=true:=by kernel_rfl
theorem Jt:By prog 117 48=true:=by kernel_rfl
theorem KP:Sz prog 45 1=true:=by kernel_rfl
theorem HW:Sz prog 47 2=true:=by kernel_rfl
theorem Jx:Fun prog 59=true:=by kernel_rfl
theorem DZ:Fun prog 107=true:=by kernel_rfl
theorem HG:Fun prog 155=true:=by kernel_rfl
theorem HE:Bo prog 4=true:=by kernel_rfl
theorem BV:madeCells (Value.agg #[iV 0,.string ⟨#[]⟩,iV 0,iV 0,.string ⟨#[]⟩]:Value).cells (2*5) = #[iV 0,.string ⟨#[]⟩,iV 0,iV 0,.string ⟨#[]⟩,iV 0,.string ⟨#[]⟩,iV 0,iV 0,.string ⟨#[]⟩]:=by kernel_rfl
theorem Hq:Fun prog 106=true:=by kernel_rfl
theorem Hs:Fun prog 112=true:=by kernel_rfl
theorem Jj:Fun prog 62=true:=by kernel_rfl
theorem Lo:Fun prog 225=true:=by kernel_rfl
theorem M2:Ik prog 282 .u32=true:=by kernel_rfl
theorem M0:Ik prog 284 .u64=true:=by kernel_rfl
theorem LB:Ik prog 246 .u64=true:=by kernel_rfl
theorem M9:T1 prog 304=true:=by kernel_rfl
theorem LF:Sz prog 304 1=true:=by kernel_rfl
theorem Md:Ik prog 304 .u64=true:=by kernel_rfl
theorem LH:(prog.info? 304).map (·.zero)=some (some (.int .u64 0)):=by kernel_rfl
theorem Ln:Fun prog 237=true:=by kernel_rfl
theorem Lq:Fun prog 229=true:=by kernel_rfl
theorem Lp:Fun prog 228=true:=by kernel_rfl
theorem Lw:Fun prog 196=true:=by kernel_rfl
theorem Ll:Fun prog 197=true:=by kernel_rfl
theorem Lm:Fun prog 199=true:=by kernel_rfl
theorem Lr:Fun prog 202=true:=by kernel_rfl
theorem Lt:Fun prog 203=true:=by kernel_rfl
theorem Lj:Fun prog 161=true:=by kernel_rfl
theorem Lk:Fun prog 201=true:=by kernel_rfl
theorem Lv:Fun prog 200=true:=by kernel_rfl
theorem Lu:Fun prog 198=true:=by kernel_rfl
theorem JI:madeCells (Value.int .i64 0:Value).cells (2*1) = #[iV 0,iV 0]:=by kernel_rfl
theorem DG:Fun prog 117=true:=by kernel_rfl
theorem DS:Fun prog 115=true:=by kernel_rfl
theorem GK:Fun prog 119=true:=by kernel_rfl
theorem Ja:Fun prog 70=true:=by kernel_rfl
theorem IN:Fun prog 65=true:=by kernel_rfl
theorem JK:Fun prog 68=true:=by kernel_rfl
theorem GQ:Fun prog 207=true:=by kernel_rfl
theorem FC:madeCells (Value.agg #[.string ⟨#[]⟩,.slice none 0 0,.bool false]:Value).cells (1*3) = #[.string ⟨#[]⟩,.slice none 0 0,.bool false]:=by kernel_rfl
theorem Jp:(prog.info? 124).map (fun i=>(i.zero,i.size,i.bytes))=some (some (.agg #[.string ⟨#[]⟩,.slice none 0 0,.bool false]),3,48):=by kernel_rfl
theorem CT:(prog.info? 200).map (·.zero)=some (some (.agg #[.slice none 0 0,.slice none 0 0,.slice none 0 0,.slice none 0 0,.slice none 0 0,.slice none 0 0,iV 0,iV 0])):=by kernel_rfl
theorem E8:Fun prog 168=true:=by kernel_rfl
theorem Io:Pl prog 200 #[(0,1),(1,1),(2,2),(4,1),(5,2),(7,1)]=true:=by kernel_rfl
theorem FQ:Sz prog 200 8=true:=by kernel_rfl
theorem FM:Tn prog 200 8=true:=by kernel_rfl
theorem JX:Sz prog 289 4=true:=by kernel_rfl
theorem Hf:Fun prog 170=true:=by kernel_rfl
theorem Hn:Fun prog 171=true:=by kernel_rfl
theorem GD:Fun prog 124=true:=by kernel_rfl
theorem JA:Fun prog 73=true:=by kernel_rfl
theorem IB:Fun prog 33=true:=by kernel_rfl
theorem H6:Fun prog 216=true:=by kernel_rfl
theorem Hi:Fun prog 213=true:=by kernel_rfl
theorem He:Fun prog 172=true:=by kernel_rfl
theorem GI:Fun prog 173=true:=by kernel_rfl
theorem Ho:Fun prog 231=true:=by kernel_rfl
theorem H3:Fun prog 174=true:=by kernel_rfl
theorem JN:Fun prog 74=true:=by kernel_rfl
theorem Im:Fun prog 75=true:=by kernel_rfl
theorem GX:Fun prog 232=true:=by kernel_rfl
theorem GF:Fun prog 175=true:=by kernel_rfl
theorem Ih:Fun prog 76=true:=by kernel_rfl
theorem JF:Fun prog 77=true:=by kernel_rfl
theorem I7:Fun prog 8=true:=by kernel_rfl
theorem HX:Fun prog 9=true:=by kernel_rfl
theorem Gb:Fun prog 10=true:=by kernel_rfl
variable {Ψ Φ:Hp} {pv0 pv0_0 pv0_1 pv0_2 pv1:Value} {pG0 pG0_0 pG0_1 pG0_2 pG1:List Nat} (N:Nat)
theorem tg  (w0:af Ψ Φ []) (p0:aP) (p1:Int)  {r:Int} (h:lz N p0 p1=some r) :
  CB w0 prog 181 [.agg [iV p0.K,iV p0.N,.string p0.S].toArray,iV p1] (iV r):=by
 refine eN func181 rfl ntmps181 rfl w0 fun hF=>?_
 unfold lz at h
 refine sr<|lbx rfl fun b_1=>arr 7 [2,0] rfl<|lq (fN eW rfl rfl) rfl<|art 9 [] rfl ?_
 refine ch h rfl ?_ ?_ <;> intro h
 ·refine att 4 [] rfl ?_
  exact rt hF h
 refine att 6 [] rfl ?_
 exact rt hF h
theorem kF  (w0:af Ψ Φ []) (p0:bk) (p1:Int)  {r:Int} (h:ig N p0 p1=some r) :
  CB w0 prog 178 [.agg [iV p0.K,.string p0.S,iV p0.V.K,iV p0.V.N,.string p0.V.S].toArray,iV p1] (iV r):=by
 refine eN func178 rfl ntmps178 rfl w0 fun hF=>?_
 unfold ig at h
 refine sr<|lbx rfl fun b_1=>arr 7 [1,0] rfl<|lq (fN eW rfl rfl) rfl<|art 9 [] rfl ?_
 refine ch h rfl ?_ ?_ <;> intro h
 ·refine att 4 [] rfl ?_
  exact rt hF h
 refine atr 6 [2,3] rfl<|qc h (tg N · p0.V (wz (p1 - (p0.S.size:Int))) ·) rfl rfl rfl fun x1 h=>art 8 [] rfl ?_
 refine ch h rfl ?_ ?_ <;> intro h
 ·refine att 4 [] rfl ?_
  exact rt hF h
 refine att 6 [] rfl ?_
 exact rt hF h
theorem yd (w0:af Ψ Φ []) (p0:(List bk)) (p1:Int) (ph0:RSl cu 5 Ψ pG0 pv0 p0) {r:Int} (h:o3 N p0 p1=some r) :
  CB w0 prog 177 [pv0,iV p1] (iV r):=by
 refine eN func177 rfl ntmps177 rfl w0 fun hF=>?_
 unfold o3 at h
 refine atr 8 [] rfl<|lnr ph0 rfl<|art 9 [] rfl ?_
 refine ch h rfl ?_ ?_ <;> intro h
 ·refine att 4 [] rfl ?_
  exact rt hF h
 refine att 7 [] rfl ?_
 refine lin (σ:=Int × Int) (fun s=>[(0,pv0),(1,iV s.1),(5,iV s.2)]) (fun s=>St w0 Φ [] []) (fun m s=>gU N p0 m s.1 s.2=some r) (wz (p1 - (p0.length:Int)),0) N h (sx [] []) (fun n1 ih1 s hm=>?_)
 obtain ⟨s1,s2⟩:=s
 have h:gU N p0 (n1+1) s1 s2=some r:=hm
 show WT _ _ [(0,pv0),(1,iV s1),(5,iV s2)] (St w0 Φ [] [])
 unfold gU at h
 refine atr 5 [] rfl<|lnr ph0 rfl<|la rfl<|en ?_
 refine ch h rfl ?_ ?_ <;> intro h
 ·refine atr 7 [] rfl ?_
  obtain ⟨x1,hx1,h⟩:=bs h
  obtain ⟨cs1,F1,-,g1,hb1,hs1,r1⟩:=ph0.el (a7 hx1).2.2
  obtain ⟨rfl,-⟩:=r1
  refine lia ph0 hx1 rfl<|lhx 0 5 g1 rfl<|la rfl<|qc h (kF N · x1 s1 ·) rfl rfl rfl fun x2 h=>art 7 [] rfl ?_
  refine ch h rfl ?_ ?_ <;> intro h
  ·refine att 4 [] rfl ?_
   exact rt hF h
  refine att 7 [] rfl ?_
  exact lb [] [] (ih1 (_,_) h)
 refine att 6 [] rfl ?_
 exact rt hF h
theorem AA (w0:af Ψ Φ []) (p0:ao) (p1:Int) (ph0_0:RSl cu 5 Ψ pG0_0 pv0_0 p0.Args) {r:Int} (h:nm N p0 p1=some r) :
  CB w0 prog 132 [.agg [.string p0.Kind,pv0_0,.bool p0.Not].toArray,iV p1] (iV r):=by
 refine eN func132 rfl ntmps132 rfl w0 fun hF=>?_
 unfold nm at h
 refine sr<|lbx rfl fun b_1=>arr 7 [0,0] rfl<|lq (fN eW rfl rfl) rfl<|art 9 [] rfl ?_
 refine ch h rfl ?_ ?_ <;> intro h
 ·refine att 4 [] rfl ?_
  exact rt hF h
 refine atr 6 [1,0] rfl<|qd h (yd N · p0.Args (wz (p1 - (p0.Kind.size:Int))) ph0_0 ·) rfl rfl rfl fun x1 h=>art 8 [] rfl ?_
 refine ch h rfl ?_ ?_ <;> intro h
 ·refine att 4 [] rfl ?_
  exact rt hF h
 refine att 6 [] rfl ?_
 exact rt hF h
theorem zo (w0:af Ψ Φ []) (p0:(List ao)) (p1:Int) (ph0:RSl bt 3 Ψ pG0 pv0 p0) {r:Int} (h:oK N p0 p1=some r) :
  CB w0 prog 78 [pv0,iV p1] (iV r):=by
 refine eN func78 rfl ntmps78 rfl w0 fun hF=>?_
 unfold oK at h
 refine atr 8 [] rfl<|lnr ph0 rfl<|art 9 [] rfl ?_
 refine ch h rfl ?_ ?_ <;> intro h
 ·refine att 4 [] rfl ?_
  exact rt hF h
 refine att 7 [] rfl ?_
 refine lin (σ:=Int × Int) (fun s=>[(0,pv0),(1,iV s.1),(5,iV s.2)]) (fun s=>St w0 Φ [] []) (fun m s=>gY N p0 m s.1 s.2=some r) (wz (p1 - (p0.length:Int)),0) N h (sx [] []) (fun n1 ih1 s hm=>?_)
 obtain ⟨s1,s2⟩:=s
 have h:gY N p0 (n1+1) s1 s2=some r:=hm
 show WT _ _ [(0,pv0),(1,iV s1),(5,iV s2)] (St w0 Φ [] [])
 unfold gY at h
 refine atr 5 [] rfl<|lnr ph0 rfl<|la rfl<|en ?_
 refine ch h rfl ?_ ?_ <;> intro h
 ·refine atr 7 [] rfl ?_
  obtain ⟨x1,hx1,h⟩:=bs h
  obtain ⟨cs1,F1,-,g1,hb1,hs1,r1⟩:=ph0.el (a7 hx1).2.2
  obtain ⟨v1,G1,rfl,hq1,h1⟩:=r1
  obtain rfl:=hq1.symm
  refine lia ph0 hx1 rfl<|lhx 0 3 g1 rfl<|la rfl<|qd h (AA N · x1 s1 h1 ·) rfl rfl rfl fun x2 h=>art 7 [] rfl ?_
  refine ch h rfl ?_ ?_ <;> intro h
  ·refine att 4 [] rfl ?_
   exact rt hF h
  refine att 7 [] rfl ?_
  exact lb [] [] (ih1 (_,_) h)
 refine att 6 [] rfl ?_
 exact rt hF h
theorem yk  (w0:af Ψ Φ []) (p0:bz) (p1:Int)  {r:Int} (h:l9 N p0 p1=some r) :
  CB w0 prog 133 [.agg [iV p0.Op,iV p0.L.K,.string p0.L.S,iV p0.L.V.K,iV p0.L.V.N,.string p0.L.V.S,iV p0.R.K,.string p0.R.S,iV p0.R.V.K,iV p0.R.V.N,.string p0.R.V.S].toArray,iV p1] (iV r):=by
 refine eN func133 rfl ntmps133 rfl w0 fun hF=>?_
 unfold l9 at h
 refine sr<|lbx rfl fun b_1=>arr 7 [1,5] rfl<|qc h (kF N · p0.L p1 ·) rfl rfl rfl fun x1 h=>art 8 [] rfl ?_
 refine ch h rfl ?_ ?_ <;> intro h
 ·refine att 4 [] rfl ?_
  exact rt hF h
 refine atr 6 [6,5] rfl<|qc h (kF N · p0.R x1 ·) rfl rfl rfl fun x2 h=>art 8 [] rfl ?_
 refine ch h rfl ?_ ?_ <;> intro h
 ·refine att 4 [] rfl ?_
  exact rt hF h
 refine att 6 [] rfl ?_
 exact rt hF h
theorem xh (w0:af Ψ Φ []) (p0:(List bz)) (p1:Int) (ph0:RSl bl 11 Ψ pG0 pv0 p0) {r:Int} (h:m6 N p0 p1=some r) :
  CB w0 prog 79 [pv0,iV p1] (iV r):=by
 refine eN func79 rfl ntmps79 rfl w0 fun hF=>?_
 unfold m6 at h
 refine atr 8 [] rfl<|lnr ph0 rfl<|art 9 [] rfl ?_
 refine ch h rfl ?_ ?_ <;> intro h
 ·refine att 4 [] rfl ?_
  exact rt hF h
 refine att 7 [] rfl ?_
 refine lin (σ:=Int × Int) (fun s=>[(0,pv0),(1,iV s.1),(5,iV s.2)]) (fun s=>St w0 Φ [] []) (fun m s=>gc N p0 m s.1 s.2=some r) (wz (p1 - (p0.length:Int)),0) N h (sx [] []) (fun n1 ih1 s hm=>?_)
 obtain ⟨s1,s2⟩:=s
 have h:gc N p0 (n1+1) s1 s2=some r:=hm
 show WT _ _ [(0,pv0),(1,iV s1),(5,iV s2)] (St w0 Φ [] [])
 unfold gc at h
 refine atr 5 [] rfl<|lnr ph0 rfl<|la rfl<|en ?_
 refine ch h rfl ?_ ?_ <;> intro h
 ·refine atr 7 [] rfl ?_
  obtain ⟨x1,hx1,h⟩:=bs h
  obtain ⟨cs1,F1,-,g1,hb1,hs1,r1⟩:=ph0.el (a7 hx1).2.2
  obtain ⟨rfl,-⟩:=r1
  refine lia ph0 hx1 rfl<|lhx 0 11 g1 rfl<|la rfl<|qc h (yk N · x1 s1 ·) rfl rfl rfl fun x2 h=>art 7 [] rfl ?_
  refine ch h rfl ?_ ?_ <;> intro h
  ·refine att 4 [] rfl ?_
   exact rt hF h
  refine att 7 [] rfl ?_
  exact lb [] [] (ih1 (_,_) h)
 refine att 6 [] rfl ?_
 exact rt hF h
theorem yK  (w0:af Ψ Φ []) (p0:br) (p1:Int)  {r:Int} (h:lw N p0 p1=some r) :
  CB w0 prog 217 [.agg [.string p0.Op,iV p0.L.K,.string p0.L.S,iV p0.L.V.K,iV p0.L.V.N,.string p0.L.V.S,iV p0.R.K,.string p0.R.S,iV p0.R.V.K,iV p0.R.V.N,.string p0.R.V.S].toArray,iV p1] (iV r):=by
 refine eN func217 rfl ntmps217 rfl w0 fun hF=>?_
 unfold lw at h
 refine sr<|lbx rfl fun b_1=>arr 7 [0,0] rfl<|lq (fN eW rfl rfl) rfl<|art 9 [] rfl ?_
 refine ch h rfl ?_ ?_ <;> intro h
 ·refine att 4 [] rfl ?_
  exact rt hF h
 refine atr 6 [1,5] rfl<|qc h (kF N · p0.L (wz (p1 - (p0.Op.size:Int))) ·) rfl rfl rfl fun x1 h=>art 8 [] rfl ?_
 refine ch h rfl ?_ ?_ <;> intro h
 ·refine att 4 [] rfl ?_
  exact rt hF h
 refine atr 6 [6,5] rfl<|qc h (kF N · p0.R x1 ·) rfl rfl rfl fun x2 h=>art 8 [] rfl ?_
 refine ch h rfl ?_ ?_ <;> intro h
 ·refine att 4 [] rfl ?_
  exact rt hF h
 refine att 6 [] rfl ?_
 exact rt hF h
theorem xp (w0:af Ψ Φ []) (p0:(List br)) (p1:Int) (ph0:RSl cn 11 Ψ pG0 pv0 p0) {r:Int} (h:mw N p0 p1=some r) :
  CB w0 prog 179 [pv0,iV p1] (iV r):=by
 refine eN func179 rfl ntmps179 rfl w0 fun hF=>?_
 unfold mw at h
 refine atr 8 [] rfl<|lnr ph0 rfl<|art 9 [] rfl ?_
 refine ch h rfl ?_ ?_ <;> intro h
 ·refine att 4 [] rfl ?_
  exact rt hF h
 refine att 7 [] rfl ?_
 refine lin (σ:=Int × Int) (fun s=>[(0,pv0),(1,iV s.1),(5,iV s.2)]) (fun s=>St w0 Φ [] []) (fun m s=>gj N p0 m s.1 s.2=some r) (wz (p1 - (p0.length:Int)),0) N h (sx [] []) (fun n1 ih1 s hm=>?_)
 obtain ⟨s1,s2⟩:=s
 have h:gj N p0 (n1+1) s1 s2=some r:=hm
 show WT _ _ [(0,pv0),(1,iV s1),(5,iV s2)] (St w0 Φ [] [])
 unfold gj at h
 refine atr 5 [] rfl<|lnr ph0 rfl<|la rfl<|en ?_
 refine ch h rfl ?_ ?_ <;> intro h
 ·refine atr 7 [] rfl ?_
  obtain ⟨x1,hx1,h⟩:=bs h
  obtain ⟨cs1,F1,-,g1,hb1,hs1,r1⟩:=ph0.el (a7 hx1).2.2
  obtain ⟨rfl,-⟩:=r1
  refine lia ph0 hx1 rfl<|lhx 0 11 g1 rfl<|la rfl<|qc h (yK N · x1 s1 ·) rfl rfl rfl fun x2 h=>art 7 [] rfl ?_
  refine ch h rfl ?_ ?_ <;> intro h
  ·refine att 4 [] rfl ?_
   exact rt hF h
  refine att 7 [] rfl ?_
  exact lb [] [] (ih1 (_,_) h)
 refine att 6 [] rfl ?_
 exact rt hF h
theorem Bb (w0:af Ψ Φ []) (p0:bX) (p1:Int) (ph0_0:RSl cn 11 Ψ pG0_0 pv0_0 p0.Args) {r:Int} (h:nj N p0 p1=some r) :
  CB w0 prog 134 [.agg [iV p0.Kind,.string p0.Name,pv0_0,iV p0.N,.string p0.Undo].toArray,iV p1] (iV r):=by
 refine eN func134 rfl ntmps134 rfl w0 fun hF=>?_
 unfold nj at h
 refine sr<|lbx rfl fun b_1=>arr 7 [1,0] rfl<|lq (fN eW rfl rfl) rfl<|art 9 [] rfl ?_
 refine ch h rfl ?_ ?_ <;> intro h
 ·refine att 4 [] rfl ?_
  exact rt hF h
 refine atr 6 [2,0] rfl<|qd h (xp N · p0.Args (wz (p1 - (p0.Name.size:Int))) ph0_0 ·) rfl rfl rfl fun x1 h=>art 8 [] rfl ?_
 refine ch h rfl ?_ ?_ <;> intro h
 ·refine att 4 [] rfl ?_
  exact rt hF h
 refine atr 6 [4,0] rfl<|lq (fN eW rfl rfl) rfl<|art 9 [] rfl ?_
 refine ch h rfl ?_ ?_ <;> intro h
 ·refine att 4 [] rfl ?_
  exact rt hF h
 refine att 6 [] rfl ?_
 exact rt hF h
theorem yC (w0:af Ψ Φ []) (p0:(List bX)) (p1:Int) (ph0:RSl cX 5 Ψ pG0 pv0 p0) {r:Int} (h:oR N p0 p1=some r) :
  CB w0 prog 80 [pv0,iV p1] (iV r):=by
 refine eN func80 rfl ntmps80 rfl w0 fun hF=>?_
 unfold oR at h
 refine atr 8 [] rfl<|lnr ph0 rfl<|art 9 [] rfl ?_
 refine ch h rfl ?_ ?_ <;> intro h
 ·refine att 4 [] rfl ?_
  exact rt hF h
 refine att 7 [] rfl ?_
 refine lin (σ:=Int × Int) (fun s=>[(0,pv0),(1,iV s.1),(5,iV s.2)]) (fun s=>St w0 Φ [] []) (fun m s=>hJ N p0 m s.1 s.2=some r) (wz (p1 - (p0.length:Int)),0) N h (sx [] []) (fun n1 ih1 s hm=>?_)
 obtain ⟨s1,s2⟩:=s
 have h:hJ N p0 (n1+1) s1 s2=some r:=hm
 show WT _ _ [(0,pv0),(1,iV s1),(5,iV s2)] (St w0 Φ [] [])
 unfold hJ at h
 refine atr 5 [] rfl<|lnr ph0 rfl<|la rfl<|en ?_
 refine ch h rfl ?_ ?_ <;> intro h
 ·refine atr 7 [] rfl ?_
  obtain ⟨x1,hx1,h⟩:=bs h
  obtain ⟨cs1,F1,-,g1,hb1,hs1,r1⟩:=ph0.el (a7 hx1).2.2
  obtain ⟨v1,G1,rfl,hq1,h1⟩:=r1
  obtain rfl:=hq1.symm
  refine lia ph0 hx1 rfl<|lhx 0 5 g1 rfl<|la rfl<|qd h (Bb N · x1 s1 h1 ·) rfl rfl rfl fun x2 h=>art 7 [] rfl ?_
  refine ch h rfl ?_ ?_ <;> intro h
  ·refine att 4 [] rfl ?_
   exact rt hF h
  refine att 7 [] rfl ?_
  exact lb [] [] (ih1 (_,_) h)
 refine att 6 [] rfl ?_
 exact rt hF h
theorem zD (w0:af Ψ Φ []) (p0:ac) (p1:Int) (ph0_0:RSl bt 3 Ψ pG0_0 pv0_0 p0.Pats) (ph0_1:RSl bl 11 Ψ pG0_1 pv0_1 p0.Conds) (ph0_2:RSl cX 5 Ψ pG0_2 pv0_2 p0.Acts) {r:Int} (h:lG N p0 p1=some r) :
  CB w0 prog 38 [.agg [.string p0.Name,iV p0.Sal,pv0_0,pv0_1,pv0_2].toArray,iV p1] (iV r):=by
 refine eN func38 rfl ntmps38 rfl w0 fun hF=>?_
 unfold lG at h
 refine sr<|lbx rfl fun b_1=>arr 7 [0,0] rfl<|lq (fN eW rfl rfl) rfl<|art 9 [] rfl ?_
 refine ch h rfl ?_ ?_ <;> intro h
 ·refine att 4 [] rfl ?_
  exact rt hF h
 refine atr 6 [2,0] rfl<|qd h (zo N · p0.Pats (wz (p1 - (p0.Name.size:Int))) ph0_0 ·) rfl rfl rfl fun x1 h=>art 8 [] rfl ?_
 refine ch h rfl ?_ ?_ <;> intro h
 ·refine att 4 [] rfl ?_
  exact rt hF h
 refine atr 6 [3,0] rfl<|qd h (xh N · p0.Conds x1 ph0_1 ·) rfl rfl rfl fun x2 h=>art 8 [] rfl ?_
 refine ch h rfl ?_ ?_ <;> intro h
 ·refine att 4 [] rfl ?_
  exact rt hF h
 refine atr 6 [4,0] rfl<|qd h (yC N · p0.Acts x2 ph0_2 ·) rfl rfl rfl fun x3 h=>art 8 [] rfl ?_
 refine ch h rfl ?_ ?_ <;> intro h
 ·refine att 4 [] rfl ?_
  exact rt hF h
 refine att 6 [] rfl ?_
 exact rt hF h
theorem xn (w0:af Ψ Φ []) (p0:(List ac)) (p1:Int) (ph0:RSl bV 5 Ψ pG0 pv0 p0) {r:Int} (h:mG N p0 p1=some r) :
  CB w0 prog 15 [pv0,iV p1] (iV r):=by
 refine eN func15 rfl ntmps15 rfl w0 fun hF=>?_
 unfold mG at h
 refine atr 8 [] rfl<|lnr ph0 rfl<|art 9 [] rfl ?_
 refine ch h rfl ?_ ?_ <;> intro h
 ·refine att 4 [] rfl ?_
  exact rt hF h
 refine att 7 [] rfl ?_
 refine lin (σ:=Int × Int) (fun s=>[(0,pv0),(1,iV s.1),(5,iV s.2)]) (fun s=>St w0 Φ [] []) (fun m s=>gl N p0 m s.1 s.2=some r) (wz (p1 - (p0.length:Int)),0) N h (sx [] []) (fun n1 ih1 s hm=>?_)
 obtain ⟨s1,s2⟩:=s
 have h:gl N p0 (n1+1) s1 s2=some r:=hm
 show WT _ _ [(0,pv0),(1,iV s1),(5,iV s2)] (St w0 Φ [] [])
 unfold gl at h
 refine atr 5 [] rfl<|lnr ph0 rfl<|la rfl<|en ?_
 refine ch h rfl ?_ ?_ <;> intro h
 ·refine atr 7 [] rfl ?_
  obtain ⟨x1,hx1,h⟩:=bs h
  obtain ⟨cs1,F1,-,g1,hb1,hs1,r1⟩:=ph0.el (a7 hx1).2.2
  obtain ⟨v1,G1,v2,G2,v3,G3,rfl,rfl,h1,h2,h3⟩:=r1
  refine lia ph0 hx1 rfl<|lhx 0 5 g1 rfl<|la rfl<|qd h (zD N · x1 s1 h1 h2 h3 ·) rfl rfl rfl fun x2 h=>art 7 [] rfl ?_
  refine ch h rfl ?_ ?_ <;> intro h
  ·refine att 4 [] rfl ?_
   exact rt hF h
  refine att 7 [] rfl ?_
  exact lb [] [] (ih1 (_,_) h)
 refine att 6 [] rfl ?_
 exact rt hF h
theorem AK (w0:af Ψ Φ []) (p0:bh) (p1:Int) (ph0_0:RSl bV 5 Ψ pG0_0 pv0_0 p0.Rules) {r:Int} (h:q8 N p0 p1=some r) :
  CB w0 prog 4 [.agg [.string p0.Name,pv0_0].toArray,iV p1] (iV r):=by
 refine eN func4 rfl ntmps4 rfl w0 fun hF=>?_
 unfold q8 at h
 refine sr<|lbx rfl fun b_1=>arr 7 [0,0] rfl<|lq (fN eW rfl rfl) rfl<|art 9 [] rfl ?_
 refine ch h rfl ?_ ?_ <;> intro h
 ·refine att 4 [] rfl ?_
  exact rt hF h
 refine atr 6 [1,0] rfl<|qd h (xn N · p0.Rules (wz (p1 - (p0.Name.size:Int))) ph0_0 ·) rfl rfl rfl fun x1 h=>art 8 [] rfl ?_
 refine ch h rfl ?_ ?_ <;> intro h
 ·refine att 4 [] rfl ?_
  exact rt hF h
 refine att 6 [] rfl ?_
 exact rt hF h
theorem pV (w0:af Ψ Φ []) (p0:(List Int)) (p1:Int) (ph0:RSl (RI .i64) 1 Ψ pG0 pv0 p0) {r:Int} (h:jv N p0 p1=some r) :
  CB w0 prog 81 [pv0,iV p1] (iV r):=by
 refine eN func81 rfl ntmps81 rfl w0 fun hF=>?_
 unfold jv at h
 refine atr 8 [] rfl<|lnr ph0 rfl<|art 9 [] rfl ?_
 refine ch h rfl ?_ ?_ <;> intro h
 ·refine att 4 [] rfl ?_
  exact rt hF h
 refine att 6 [] rfl ?_
 exact rt hF h
theorem Bd (w0:af Ψ Φ []) (p0:aQ) (p1:Int) (ph0_0:RSl (RI .i64) 1 Ψ pG0_0 pv0_0 p0.L) {r:Int} (h:nr N p0 p1=some r) :
  CB w0 prog 39 [.agg [pv0_0].toArray,iV p1] (iV r):=by
 refine eN func39 rfl ntmps39 rfl w0 fun hF=>?_
 unfold nr at h
 refine sr ?_
 refine ln (jI (C:=#[pv0_0]) rfl rfl) rfl (fun b_1=>?_)
 refine arr 7 [0,0] rfl<|qd h (pV N · p0.L p1 ph0_0 ·) rfl rfl rfl fun x1 h=>art 8 [] rfl ?_
 refine ch h rfl ?_ ?_ <;> intro h
 ·refine att 4 [] rfl ?_
  exact rt hF h
 refine att 6 [] rfl ?_
 exact rt hF h
theorem yb (w0:af Ψ Φ []) (p0:(List aQ)) (p1:Int) (ph0:RSl dp 1 Ψ pG0 pv0 p0) {r:Int} (h:oz N p0 p1=some r) :
  CB w0 prog 16 [pv0,iV p1] (iV r):=by
 refine eN func16 rfl ntmps16 rfl w0 fun hF=>?_
 unfold oz at h
 refine atr 8 [] rfl<|lnr ph0 rfl<|art 9 [] rfl ?_
 refine ch h rfl ?_ ?_ <;> intro h
 ·refine att 4 [] rfl ?_
  exact rt hF h
 refine att 7 [] rfl ?_
 refine lin (σ:=Int × Int) (fun s=>[(0,pv0),(1,iV s.1),(5,iV s.2)]) (fun s=>St w0 Φ [] []) (fun m s=>im N p0 m s.1 s.2=some r) (wz (p1 - (p0.length:Int)),0) N h (sx [] []) (fun n1 ih1 s hm=>?_)
 obtain ⟨s1,s2⟩:=s
 have h:im N p0 (n1+1) s1 s2=some r:=hm
 show WT _ _ [(0,pv0),(1,iV s1),(5,iV s2)] (St w0 Φ [] [])
 unfold im at h
 refine atr 5 [] rfl<|lnr ph0 rfl<|la rfl<|en ?_
 refine ch h rfl ?_ ?_ <;> intro h
 ·refine atr 7 [] rfl ?_
  obtain ⟨x1,hx1,h⟩:=bs h
  obtain ⟨cs1,F1,-,g1,hb1,hs1,r1⟩:=ph0.el (a7 hx1).2.2
  obtain ⟨v1,G1,rfl,hq1,h1⟩:=r1
  obtain rfl:=hq1.symm
  refine lia ph0 hx1 rfl<|lhx 0 1 g1 rfl<|la rfl<|qd h (Bd N · x1 s1 h1 ·) rfl rfl rfl fun x2 h=>art 7 [] rfl ?_
  refine ch h rfl ?_ ?_ <;> intro h
  ·refine att 4 [] rfl ?_
   exact rt hF h
  refine att 7 [] rfl ?_
  exact lb [] [] (ih1 (_,_) h)
 refine att 6 [] rfl ?_
 exact rt hF h
theorem Az (w0:af Ψ Φ []) (p0:aa) (p1:Int) (ph0_0:RSl (RI .i64) 1 Ψ pG0_0 pv0_0 p0.Ids) (ph0_1:RSl (RI .i64) 1 Ψ pG0_1 pv0_1 p0.Hits) {r:Int} (h:nI N p0 p1=some r) :
  CB w0 prog 218 [.agg [pv0_0,pv0_1].toArray,iV p1] (iV r):=by
 refine eN func218 rfl ntmps218 rfl w0 fun hF=>?_
 unfold nI at h
 refine sr<|lbx rfl fun b_1=>arr 7 [0,0] rfl<|qd h (pV N · p0.Ids p1 ph0_0 ·) rfl rfl rfl fun x1 h=>art 8 [] rfl ?_
 refine ch h rfl ?_ ?_ <;> intro h
 ·refine att 4 [] rfl ?_
  exact rt hF h
 refine atr 6 [1,0] rfl<|qd h (pV N · p0.Hits x1 ph0_1 ·) rfl rfl rfl fun x2 h=>art 8 [] rfl ?_
 refine ch h rfl ?_ ?_ <;> intro h
 ·refine att 4 [] rfl ?_
  exact rt hF h
 refine att 6 [] rfl ?_
 exact rt hF h
theorem yj (w0:af Ψ Φ []) (p0:(List aa)) (p1:Int) (ph0:RSl bC 2 Ψ pG0 pv0 p0) {r:Int} (h:ot N p0 p1=some r) :
  CB w0 prog 180 [pv0,iV p1] (iV r):=by
 refine eN func180 rfl ntmps180 rfl w0 fun hF=>?_
 unfold ot at h
 refine atr 8 [] rfl<|lnr ph0 rfl<|art 9 [] rfl ?_
 refine ch h rfl ?_ ?_ <;> intro h
 ·refine att 4 [] rfl ?_
  exact rt hF h
 refine att 7 [] rfl ?_
 refine lin (σ:=Int × Int) (fun s=>[(0,pv0),(1,iV s.1),(5,iV s.2)]) (fun s=>St w0 Φ [] []) (fun m s=>ib N p0 m s.1 s.2=some r) (wz (p1 - (p0.length:Int)),0) N h (sx [] []) (fun n1 ih1 s hm=>?_)
 obtain ⟨s1,s2⟩:=s
 have h:ib N p0 (n1+1) s1 s2=some r:=hm
 show WT _ _ [(0,pv0),(1,iV s1),(5,iV s2)] (St w0 Φ [] [])
 unfold ib at h
 refine atr 5 [] rfl<|lnr ph0 rfl<|la rfl<|en ?_
 refine ch h rfl ?_ ?_ <;> intro h
 ·refine atr 7 [] rfl ?_
  obtain ⟨x1,hx1,h⟩:=bs h
  obtain ⟨cs1,F1,-,g1,hb1,hs1,r1⟩:=ph0.el (a7 hx1).2.2
  obtain ⟨v1,G1,v2,G2,rfl,rfl,h1,h2⟩:=r1
  refine lia ph0 hx1 rfl<|lhx 0 2 g1 rfl<|la rfl<|qd h (Az N · x1 s1 h1 h2 ·) rfl rfl rfl fun x2 h=>art 7 [] rfl ?_
  refine ch h rfl ?_ ?_ <;> intro h
  ·refine att 4 [] rfl ?_
   exact rt hF h
  refine att 7 [] rfl ?_
  exact lb [] [] (ih1 (_,_) h)
 refine att 6 [] rfl ?_
 exact rt hF h
theorem wQ (w0:af Ψ Φ []) (p0:ab) (p1:Int) (ph0_0:RSl bC 2 Ψ pG0_0 pv0_0 p0.Toks) {r:Int} (h:jO N p0 p1=some r) :
  CB w0 prog 135 [.agg [pv0_0].toArray,iV p1] (iV r):=by
 refine eN func135 rfl ntmps135 rfl w0 fun hF=>?_
 unfold jO at h
 refine sr ?_
 refine ln (jI (C:=#[pv0_0]) rfl rfl) rfl (fun b_1=>?_)
 refine arr 7 [0,0] rfl<|qd h (yj N · p0.Toks p1 ph0_0 ·) rfl rfl rfl fun x1 h=>art 8 [] rfl ?_
 refine ch h rfl ?_ ?_ <;> intro h
 ·refine att 4 [] rfl ?_
  exact rt hF h
 refine att 6 [] rfl ?_
 exact rt hF h
theorem uP (w0:af Ψ Φ []) (p0:(List ab)) (p1:Int) (ph0:RSl cc 1 Ψ pG0 pv0 p0) {r:Int} (h:jW N p0 p1=some r) :
  CB w0 prog 82 [pv0,iV p1] (iV r):=by
 refine eN func82 rfl ntmps82 rfl w0 fun hF=>?_
 unfold jW at h
 refine atr 8 [] rfl<|lnr ph0 rfl<|art 9 [] rfl ?_
 refine ch h rfl ?_ ?_ <;> intro h
 ·refine att 4 [] rfl ?_
  exact rt hF h
 refine att 7 [] rfl ?_
 refine lin (σ:=Int × Int) (fun s=>[(0,pv0),(1,iV s.1),(5,iV s.2)]) (fun s=>St w0 Φ [] []) (fun m s=>fv N p0 m s.1 s.2=some r) (wz (p1 - (p0.length:Int)),0) N h (sx [] []) (fun n1 ih1 s hm=>?_)
 obtain ⟨s1,s2⟩:=s
 have h:fv N p0 (n1+1) s1 s2=some r:=hm
 show WT _ _ [(0,pv0),(1,iV s1),(5,iV s2)] (St w0 Φ [] [])
 unfold fv at h
 refine atr 5 [] rfl<|lnr ph0 rfl<|la rfl<|en ?_
 refine ch h rfl ?_ ?_ <;> intro h
 ·refine atr 7 [] rfl ?_
  obtain ⟨x1,hx1,h⟩:=bs h
  obtain ⟨cs1,F1,-,g1,hb1,hs1,r1⟩:=ph0.el (a7 hx1).2.2
  obtain ⟨v1,G1,rfl,hq1,h1⟩:=r1
  obtain rfl:=hq1.symm
  refine lia ph0 hx1 rfl<|lhx 0 1 g1 rfl<|la rfl<|qd h (wQ N · x1 s1 h1 ·) rfl rfl rfl fun x2 h=>art 7 [] rfl ?_
  refine ch h rfl ?_ ?_ <;> intro h
  ·refine att 4 [] rfl ?_
   exact rt hF h
  refine att 7 [] rfl ?_
  exact lb [] [] (ih1 (_,_) h)
 refine att 6 [] rfl ?_
 exact rt hF h
theorem AG (w0:af Ψ Φ []) (p0:aF) (p1:Int) (ph0_0:RSl cc 1 Ψ pG0_0 pv0_0 p0.Levels) {r:Int} (h:nq N p0 p1=some r) :
  CB w0 prog 40 [.agg [pv0_0].toArray,iV p1] (iV r):=by
 refine eN func40 rfl ntmps40 rfl w0 fun hF=>?_
 unfold nq at h
 refine sr ?_
 refine ln (jI (C:=#[pv0_0]) rfl rfl) rfl (fun b_1=>?_)
 refine arr 7 [0,0] rfl<|qd h (uP N · p0.Levels p1 ph0_0 ·) rfl rfl rfl fun x1 h=>art 8 [] rfl ?_
 refine ch h rfl ?_ ?_ <;> intro h
 ·refine att 4 [] rfl ?_
  exact rt hF h
 refine att 6 [] rfl ?_
 exact rt hF h
theorem yh (w0:af Ψ Φ []) (p0:(List aF)) (p1:Int) (ph0:RSl ff 1 Ψ pG0 pv0 p0) {r:Int} (h:o6 N p0 p1=some r) :
  CB w0 prog 17 [pv0,iV p1] (iV r):=by
 refine eN func17 rfl ntmps17 rfl w0 fun hF=>?_
 unfold o6 at h
 refine atr 8 [] rfl<|lnr ph0 rfl<|art 9 [] rfl ?_
 refine ch h rfl ?_ ?_ <;> intro h
 ·refine att 4 [] rfl ?_
  exact rt hF h
 refine att 7 [] rfl ?_
 refine lin (σ:=Int × Int) (fun s=>[(0,pv0),(1,iV s.1),(5,iV s.2)]) (fun s=>St w0 Φ [] []) (fun m s=>gZ N p0 m s.1 s.2=some r) (wz (p1 - (p0.length:Int)),0) N h (sx [] []) (fun n1 ih1 s hm=>?_)
 obtain ⟨s1,s2⟩:=s
 have h:gZ N p0 (n1+1) s1 s2=some r:=hm
 show WT _ _ [(0,pv0),(1,iV s1),(5,iV s2)] (St w0 Φ [] [])
 unfold gZ at h
 refine atr 5 [] rfl<|lnr ph0 rfl<|la rfl<|en ?_
 refine ch h rfl ?_ ?_ <;> intro h
 ·refine atr 7 [] rfl ?_
  obtain ⟨x1,hx1,h⟩:=bs h
  obtain ⟨cs1,F1,-,g1,hb1,hs1,r1⟩:=ph0.el (a7 hx1).2.2
  obtain ⟨v1,G1,rfl,hq1,h1⟩:=r1
  obtain rfl:=hq1.symm
  refine lia ph0 hx1 rfl<|lhx 0 1 g1 rfl<|la rfl<|qd h (AG N · x1 s1 h1 ·) rfl rfl rfl fun x2 h=>art 7 [] rfl ?_
  refine ch h rfl ?_ ?_ <;> intro h
  ·refine att 4 [] rfl ?_
   exact rt hF h
  refine att 7 [] rfl ?_
  exact lb [] [] (ih1 (_,_) h)
 refine att 6 [] rfl ?_
 exact rt hF h
theorem AF (w0:af Ψ Φ []) (p0:aJ) (p1:Int) (ph0_0:RSl dp 1 Ψ pG0_0 pv0_0 p0.Alphas) (ph0_1:RSl ff 1 Ψ pG0_1 pv0_1 p0.Rules) {r:Int} (h:qt N p0 p1=some r) :
  CB w0 prog 5 [.agg [pv0_0,pv0_1].toArray,iV p1] (iV r):=by
 refine eN func5 rfl ntmps5 rfl w0 fun hF=>?_
 unfold qt at h
 refine sr<|lbx rfl fun b_1=>arr 7 [0,0] rfl<|qd h (yb N · p0.Alphas p1 ph0_0 ·) rfl rfl rfl fun x1 h=>art 8 [] rfl ?_
 refine ch h rfl ?_ ?_ <;> intro h
 ·refine att 4 [] rfl ?_
  exact rt hF h
 refine atr 6 [1,0] rfl<|qd h (yh N · p0.Rules x1 ph0_1 ·) rfl rfl rfl fun x2 h=>art 8 [] rfl ?_
 refine ch h rfl ?_ ?_ <;> intro h
 ·refine att 4 [] rfl ?_
  exact rt hF h
 refine att 6 [] rfl ?_
 exact rt hF h
theorem yy (w0:af Ψ Φ []) (p0:(List aP)) (p1:Int) (ph0:RSl aD 3 Ψ pG0 pv0 p0) {r:Int} (h:oA N p0 p1=some r) :
  CB w0 prog 136 [pv0,iV p1] (iV r):=by
 refine eN func136 rfl ntmps136 rfl w0 fun hF=>?_
 unfold oA at h
 refine atr 8 [] rfl<|lnr ph0 rfl<|art 9 [] rfl ?_
 refine ch h rfl ?_ ?_ <;> intro h
 ·refine att 4 [] rfl ?_
  exact rt hF h
 refine att 7 [] rfl ?_
 refine lin (σ:=Int × Int) (fun s=>[(0,pv0),(1,iV s.1),(5,iV s.2)]) (fun s=>St w0 Φ [] []) (fun m s=>hU N p0 m s.1 s.2=some r) (wz (p1 - (p0.length:Int)),0) N h (sx [] []) (fun n1 ih1 s hm=>?_)
 obtain ⟨s1,s2⟩:=s
 have h:hU N p0 (n1+1) s1 s2=some r:=hm
 show WT _ _ [(0,pv0),(1,iV s1),(5,iV s2)] (St w0 Φ [] [])
 unfold hU at h
 refine atr 5 [] rfl<|lnr ph0 rfl<|la rfl<|en ?_
 refine ch h rfl ?_ ?_ <;> intro h
 ·refine atr 7 [] rfl ?_
  obtain ⟨x1,hx1,h⟩:=bs h
  obtain ⟨cs1,F1,-,g1,hb1,hs1,r1⟩:=ph0.el (a7 hx1).2.2
  obtain ⟨rfl,-⟩:=r1
  refine lia ph0 hx1 rfl<|lhx 0 3 g1 rfl<|la rfl<|qc h (tg N · x1 s1 ·) rfl rfl rfl fun x2 h=>art 7 [] rfl ?_
  refine ch h rfl ?_ ?_ <;> intro h
  ·refine att 4 [] rfl ?_
   exact rt hF h
  refine att 7 [] rfl ?_
  exact lb [] [] (ih1 (_,_) h)
 refine att 6 [] rfl ?_
 exact rt hF h
theorem yc (w0:af Ψ Φ []) (p0:av) (p1:Int) (ph0_0:RSl aD 3 Ψ pG0_0 pv0_0 p0.Fields) {r:Int} (h:oX N p0 p1=some r) :
  CB w0 prog 83 [.agg [.string p0.Kind,pv0_0].toArray,iV p1] (iV r):=by
 refine eN func83 rfl ntmps83 rfl w0 fun hF=>?_
 unfold oX at h
 refine sr<|lbx rfl fun b_1=>arr 7 [0,0] rfl<|lq (fN eW rfl rfl) rfl<|art 9 [] rfl ?_
 refine ch h rfl ?_ ?_ <;> intro h
 ·refine att 4 [] rfl ?_
  exact rt hF h
 refine atr 6 [1,0] rfl<|qd h (yy N · p0.Fields (wz (p1 - (p0.Kind.size:Int))) ph0_0 ·) rfl rfl rfl fun x1 h=>art 8 [] rfl ?_
 refine ch h rfl ?_ ?_ <;> intro h
 ·refine att 4 [] rfl ?_
  exact rt hF h
 refine att 6 [] rfl ?_
 exact rt hF h
theorem yg (w0:af Ψ Φ []) (p0:an) (p1:Int) (ph0_0:RSl aD 3 Ψ pG0_0 pv0_0 p0.F.Fields) {r:Int} (h:kX N p0 p1=some r) :
  CB w0 prog 41 [.agg [iV p0.Id,.string p0.F.Kind,pv0_0].toArray,iV p1] (iV r):=by
 refine eN func41 rfl ntmps41 rfl w0 fun hF=>?_
 unfold kX at h
 refine sr<|lbx rfl fun b_1=>arr 7 [1,2] rfl<|qd h (yc N · p0.F p1 ph0_0 ·) rfl rfl rfl fun x1 h=>art 8 [] rfl ?_
 refine ch h rfl ?_ ?_ <;> intro h
 ·refine att 4 [] rfl ?_
  exact rt hF h
 refine att 6 [] rfl ?_
 exact rt hF h
theorem xd (w0:af Ψ Φ []) (p0:(List an)) (p1:Int) (ph0:RSl bn 3 Ψ pG0 pv0 p0) {r:Int} (h:mz N p0 p1=some r) :
  CB w0 prog 18 [pv0,iV p1] (iV r):=by
 refine eN func18 rfl ntmps18 rfl w0 fun hF=>?_
 unfold mz at h
 refine atr 8 [] rfl<|lnr ph0 rfl<|art 9 [] rfl ?_
 refine ch h rfl ?_ ?_ <;> intro h
 ·refine att 4 [] rfl ?_
  exact rt hF h
 refine att 7 [] rfl ?_
 refine lin (σ:=Int × Int) (fun s=>[(0,pv0),(1,iV s.1),(5,iV s.2)]) (fun s=>St w0 Φ [] []) (fun m s=>fV N p0 m s.1 s.2=some r) (wz (p1 - (p0.length:Int)),0) N h (sx [] []) (fun n1 ih1 s hm=>?_)
 obtain ⟨s1,s2⟩:=s
 have h:fV N p0 (n1+1) s1 s2=some r:=hm
 show WT _ _ [(0,pv0),(1,iV s1),(5,iV s2)] (St w0 Φ [] [])
 unfold fV at h
 refine atr 5 [] rfl<|lnr ph0 rfl<|la rfl<|en ?_
 refine ch h rfl ?_ ?_ <;> intro h
 ·refine atr 7 [] rfl ?_
  obtain ⟨x1,hx1,h⟩:=bs h
  obtain ⟨cs1,F1,-,g1,hb1,hs1,r1⟩:=ph0.el (a7 hx1).2.2
  obtain ⟨v1,G1,rfl,hq1,h1⟩:=r1
  obtain rfl:=hq1.symm
  refine lia ph0 hx1 rfl<|lhx 0 3 g1 rfl<|la rfl<|qd h (yg N · x1 s1 h1 ·) rfl rfl rfl fun x2 h=>art 7 [] rfl ?_
  refine ch h rfl ?_ ?_ <;> intro h
  ·refine att 4 [] rfl ?_
   exact rt hF h
  refine att 7 [] rfl ?_
  exact lb [] [] (ih1 (_,_) h)
 refine att 6 [] rfl ?_
 exact rt hF h
theorem vK (w0:af Ψ Φ []) (p0:ae) (p1:Int) (ph0_0:RSl bn 3 Ψ pG0_0 pv0_0 p0.Items) {r:Int} (h:lX N p0 p1=some r) :
  CB w0 prog 6 [.agg [pv0_0,iV p0.Next].toArray,iV p1] (iV r):=by
 refine eN func6 rfl ntmps6 rfl w0 fun hF=>?_
 unfold lX at h
 refine sr<|lbx rfl fun b_1=>arr 7 [0,0] rfl<|qd h (xd N · p0.Items p1 ph0_0 ·) rfl rfl rfl fun x1 h=>art 8 [] rfl ?_
 refine ch h rfl ?_ ?_ <;> intro h
 ·refine att 4 [] rfl ?_
  exact rt hF h
 refine att 6 [] rfl ?_
 exact rt hF h
theorem bU  (w0:af Ψ Φ []) (p0:Int) (p1:Int) (p2:Int)  {r:Bool} (h:cT N p0 p1 p2=some r) :
  CB w0 prog 45 [iV p0,iV p1,iV p2] (.bool r):=by
 refine eN func45 rfl ntmps45 rfl w0 fun hF=>?_
 unfold cT at h
 refine atr 10 [] rfl ?_
 obtain ⟨b1,hb_1,h⟩:=bs h
 refine WL.cutN 4 [(14,.bool b1),(6,.bool false)] ?_ (fun K=>?_)
 rotate_left
 ·refine sp 10 hb_1 rfl (fun hb_1=>?_) fun hb_1=>?_
  ·refine arr 4 [] rfl ?_
   cases hb_1
   exact ku K
  ·refine arr 4 [] rfl ?_
   cases hb_1
   exact ku K
 refine la rfl<|en ?_
 exact rt hF h
theorem mT  (w0:af Ψ Φ []) (p0:Int)  {r:Bool} (h:gC N p0=some r) :
  CB w0 prog 89 [.int .u8 p0] (.bool r):=by
 refine eN func89 rfl ntmps89 rfl w0 fun hF=>?_
 unfold gC at h
 refine atr 7 [] rfl<|lq (vj Hc HA rfl) rfl<|qc h (bU N · (wz p0) 97 122 ·) rfl rfl rfl fun x1 h=>la rfl ?_
 obtain ⟨b1,hb_1,h⟩:=bs h
 refine WL.cutN 4 [(10,.bool b1),(0,.int .u8 p0),(2,.bool false)] ?_ (fun K=>?_)
 rotate_left
 ·refine sp 6 hb_1 rfl (fun hb_1=>?_) fun hb_1=>?_
  ·refine arr 4 [] rfl ?_
   cases hb_1
   exact ku K
  ·refine ly rfl rfl<|la rfl<|ly rfl rfl<|lq (vj Hc HA rfl) rfl<|ly rfl rfl<|qc hb_1 (bU N · (wz p0) 48 57 ·) rfl rfl rfl fun x2 hb_1=>la rfl ?_
   cases hb_1
   exact ku K
 refine la rfl ?_
 obtain ⟨b2,hb_2,h⟩:=bs h
 refine WL.cutN 3 [(14,.bool b2),(2,.bool false)] ?_ (fun K=>?_)
 rotate_left
 ·refine sp 11 hb_2 rfl (fun hb_2=>?_) fun hb_2=>?_
  ·refine arr 3 [] rfl ?_
   cases hb_2
   exact ku K
  ·refine arr 3 [] rfl ?_
   cases hb_2
   exact ku K
 refine la rfl<|en ?_
 exact rt hF h
theorem eO  (w0:af Ψ Φ []) (p0:ByteArray)  {r:Bool} (h:dD N p0=some r) :
  CB w0 prog 44 [.string p0] (.bool r):=by
 refine eN func44 rfl ntmps44 rfl w0 fun hF=>?_
 unfold dD at h
 refine att 10 [] rfl ?_
 refine lin (σ:=Int) (fun s=>[(0,.string p0),(3,iV s)]) (fun s=>St w0 Φ [] []) (fun m s=>dJ N p0 m s=some r) (0) N h (sx [] []) (fun n1 ih1 s hm=>?_)
 revert hm; revert s; intro s1 hm
 have h:dJ N p0 (n1+1) s1=some r:=hm
 show WT _ _ [(0,.string p0),(3,iV s1)] (St w0 Φ [] [])
 unfold dJ at h
 refine atr 5 [] rfl<|lq (fN eW rfl rfl) rfl<|la rfl<|en ?_
 refine ch h rfl ?_ ?_ <;> intro h
 ·refine atr 7 [] rfl ?_
  obtain ⟨y1,hy1,h⟩:=bs h
  refine lq (jb eW rfl rfl hy1) rfl<|qc h (mT N · (y1.toNat:Int) ·) rfl rfl rfl fun x1 h=>arr 2 [] rfl ?_
  obtain ⟨b1,hb_1,h⟩:=bs h
  refine WL.cutN 11 [(26,.bool b1),(0,.string p0),(3,iV s1)] ?_ (fun K=>?_)
  rotate_left
  ·refine sp 15 hb_1 rfl (fun hb_1=>?_) fun hb_1=>?_
   ·refine arr 11 [] rfl ?_
    cases hb_1
    exact ku K
   ·refine arr 3 [] rfl ?_
    obtain ⟨b2,hb_2,hb_1⟩:=bs hb_1
    refine WL.cutN 7 [(25,.bool b2),(0,.string p0),(3,iV s1),(15,.bool false)] ?_ (fun K=>?_)
    rotate_left
    ·refine sp 18 hb_2 rfl (fun hb_2=>?_) fun hb_2=>?_
     ·refine arr 2 [] rfl<|ly rfl rfl ?_
      obtain ⟨y2,hy2,hb_2⟩:=bs hb_2
      refine lq (jb eW rfl rfl hy2) rfl<|ly rfl rfl<|lq (vj Hc HA rfl) rfl<|ly rfl rfl<|qc hb_2 (bU N · (wz (y2.toNat:Int)) 97 122 ·) rfl rfl rfl fun x2 hb_2=>arr 2 [] rfl ?_
      cases hb_2
      exact ku K
     ·refine arr 7 [] rfl ?_
      cases hb_2
      exact ku K
    refine la rfl ?_
    cases hb_1
    exact ku K
  refine en ?_
  refine ch h rfl ?_ ?_ <;> intro h
  ·refine att 4 [] rfl ?_
   exact rt hF h
  refine att 7 [] rfl ?_
  exact lb [] [] (ih1 _ h)
 refine atr 4 [] rfl<|lq (fN eW rfl rfl) rfl<|qc h (bU N · (p0.size:Int) 1 12 ·) rfl rfl rfl fun x3 h=>la rfl<|en ?_
 exact rt hF h
theorem qH (w0:af Ψ Φ []) (p0:(List ByteArray)) (p1:ByteArray) (ph0:RSl RS 1 Ψ pG0 pv0 p0) {r:Bool} (h:l6 N p0 p1=some r) :
  CB w0 prog 138 [pv0,.string p1] (.bool r):=by
 refine eN func138 rfl ntmps138 rfl w0 fun hF=>?_
 unfold l6 at h
 refine att 10 [] rfl ?_
 refine lin (σ:=Int) (fun s=>[(0,pv0),(1,.string p1),(5,iV s)]) (fun s=>St w0 Φ [] []) (fun m s=>gG N p0 p1 m s=some r) (0) N h (sx [] []) (fun n1 ih1 s hm=>?_)
 revert hm; revert s; intro s1 hm
 have h:gG N p0 p1 (n1+1) s1=some r:=hm
 show WT _ _ [(0,pv0),(1,.string p1),(5,iV s1)] (St w0 Φ [] [])
 unfold gG at h
 refine atr 5 [] rfl<|lnr ph0 rfl<|la rfl<|en ?_
 refine ch h rfl ?_ ?_ <;> intro h
 ·refine atr 7 [] rfl ?_
  obtain ⟨x1,hx1,h⟩:=bs h
  obtain ⟨cs1,F1,-,g1,hb1,hs1,r1⟩:=ph0.el (a7 hx1).2.2
  obtain ⟨rfl,-⟩:=r1
  refine lia ph0 hx1 rfl<|lhx 0 0 g1 rfl<|art 3 [] rfl ?_
  refine ch h rfl ?_ ?_ <;> intro h
  ·refine att 4 [] rfl ?_
   exact rt hF h
  refine att 7 [] rfl ?_
  exact lb [] [] (ih1 _ h)
 refine att 5 [] rfl ?_
 exact rt hF h
theorem zh (w0:af Ψ Φ []) (p0:ao) (ph0_0:RSl cu 5 Ψ pG0_0 pv0_0 p0.Args) {r:(List ByteArray)} (h:o0 N p0=some r) :
  Calls prog 137 [.agg [.string p0.Kind,pv0_0,.bool p0.Not].toArray].toArray w0.w (aR Φ w0.w [] (fun Φ' Fs v=>∃ (sr_0_0:Value),v=sr_0_0∧Fs=[ob sr_0_0]∧OSl RS 9 1 Φ' [] sr_0_0 r)):=by
 refine eN func137 rfl ntmps137 rfl w0 fun hF=>?_
 unfold o0 at h
 refine sr<|lbx rfl fun b_1=>arr 4 [] rfl<|le' (kD RS.lasts rB FD rfl rfl) rfl ?_
 rintro v1 Φ_1 D1 ⟨fr1,h1⟩
 refine art 8 [] rfl ?_
 refine lin (σ:=Hp × (List ByteArray) × Value × Int) (fun s=>[(1,pQ b_1),(3,s.2.2.1),(4,iV s.2.2.2)]) (fun s=>St w0 s.1 [(b_1,.cells #[.string p0.Kind,pv0_0,.bool p0.Not] 124 (0,0))] [ob s.2.2.1]) (fun m s=>eR N p0 m s.2.1 s.2.2.2=some r∧(OSl RS 9 1 s.1 [] s.2.2.1 s.2.1)) (Φ_1,([]:List ByteArray),v1,0) N ⟨h,h1⟩ (sx [0] [0]) (fun n1 ih1 s hm=>?_)
 obtain ⟨Φ_2,s1,u1,s2⟩:=s
 obtain ⟨h,k1⟩:=hm
 dsimp only at h k1 ⊢
 unfold eR at h
 refine atr 6 [1,0] rfl<|lnr ph0_0 rfl<|la rfl<|en ?_
 refine ch h rfl ?_ ?_ <;> intro h
 ·refine atr 8 [1,0] rfl ?_
  obtain ⟨x1,hx1,h⟩:=bs h
  obtain ⟨cs1,F1,-,g1,hb1,hs1,r1⟩:=ph0_0.el (a7 hx1).2.2
  obtain ⟨rfl,-⟩:=r1
  refine lia ph0_0 hx1 rfl<|lf A6 rfl rfl rfl<|lhx 0 0 g1 rfl<|arr 2 [] rfl ?_
  obtain ⟨b1,hb_1,h⟩:=bs h
  refine WL.cutN 10 [(30,.bool b1),(1,pQ b_1),(3,u1),(4,iV s2)] ?_ (fun K=>?_)
  rotate_left
  ·refine sp 20 hb_1 rfl (fun hb_1=>?_) fun hb_1=>?_
   ·refine arr 4 [1,0] rfl<|ly rfl rfl ?_
    obtain ⟨x2,hx2,hb_1⟩:=bs hb_1
    obtain ⟨cs2,F2,-,g2,hb2,hs2,r2⟩:=ph0_0.el (a7 hx2).2.2
    obtain ⟨rfl,-⟩:=r2
    refine lia ph0_0 hx2 rfl<|ly rfl rfl<|lf A2 rfl rfl rfl<|ly rfl rfl<|lhx 1 0 g2 rfl<|ly rfl rfl<|qc hb_1 (qH N · s1 x2.S k1.rsl ·) rfl rfl rfl fun x3 hb_1=>arr 2 [] rfl ?_
    cases hb_1
    exact ku K
   ·refine arr 10 [] rfl ?_
    cases hb_1
    exact ku K
  refine en ?_
  refine ch h rfl ?_ ?_ <;> intro h
  ·refine atr 5 [1,0] rfl ?_
   obtain ⟨x4,hx4,h⟩:=bs h
   obtain ⟨cs3,F3,-,g3,hb3,hs3,r3⟩:=ph0_0.el (a7 hx4).2.2
   obtain ⟨rfl,-⟩:=r3
   refine lia ph0_0 hx4 rfl<|lf A2 rfl rfl rfl<|lhx 1 0 g3 rfl ?_
   have rc2:RC RS 1 Φ_2 ([[]]:List (List Nat)) [.string x4.S] ([x4.S]:List ByteArray):=RC.cons (c:=[.string x4.S]) (cells:=[]) ⟨rfl,rfl⟩ rfl (RC.nil _ _ _)
   refine le' (cU (vs:=[(0,.string x4.S)]) (C:=#[.string x4.S]) RS.lasts rB FD rfl rfl rfl rfl (aK CS (ai (C':=[.string x4.S]) rfl rfl rfl rfl rfl (au))) rfl rc2 rfl (by simpa using Kw.nil)) rfl ?_
   rintro v2 Φ_3 D2 ⟨fr2,h2⟩
   replace h2:OSl RS 9 1 Φ_3 [] v2 ([x4.S]:List ByteArray):=by simpa using h2
   replace k1:=k1.f0 fr2
   obtain ⟨x5,hx5,h⟩:=bs h
   refine le' (dE RS.lasts RS.one RS.flat rB IJ rfl rfl rfl rfl rfl (js:=[1]) (Rr:=[ob v2]) rfl k1 h2.rsl hx5) rfl ?_
   rintro v3 Φ_4 D3 ⟨⟨ap1,fr3⟩,h3⟩
   refine art 8 [] rfl ?_
   exact lb [0] [0] (ih1 (_,_,_,_) ⟨h,h3⟩)
  refine att 7 [] rfl ?_
  exact lb [0] [0] (ih1 (_,_,_,_) ⟨h,k1⟩)
 refine att 6 [] rfl ?_
 exact rtg [0] hF (aG.one rfl) rfl (by cases h; exact fun w1 hw=>⟨u1,rfl,rfl,k1⟩)
theorem wi (w0:af Ψ Φ []) (p0:ac) (ph0_0:RSl bt 3 Ψ pG0_0 pv0_0 p0.Pats) (ph0_1:RSl bl 11 Ψ pG0_1 pv0_1 p0.Conds) (ph0_2:RSl cX 5 Ψ pG0_2 pv0_2 p0.Acts) {r:(List ByteArray)} (h:jF N p0=some r) :
  Calls prog 84 [.agg [.string p0.Name,iV p0.Sal,pv0_0,pv0_1,pv0_2].toArray].toArray w0.w (aR Φ w0.w [] (fun Φ' Fs v=>∃ (sr_0_0:Value),v=sr_0_0∧Fs=[ob sr_0_0]∧OSl RS 9 1 Φ' [] sr_0_0 r)):=by
 refine eN func84 rfl ntmps84 rfl w0 fun hF=>?_
 unfold jF at h
 refine sr<|lbx rfl fun b_1=>arr 4 [] rfl<|le' (kD RS.lasts rB FD rfl rfl) rfl ?_
 rintro v1 Φ_1 D1 ⟨fr1,h1⟩
 refine art 8 [] rfl ?_
 refine lin (σ:=Hp × (List ByteArray) × Value × Int) (fun s=>[(1,pQ b_1),(3,s.2.2.1),(4,iV s.2.2.2)]) (fun s=>St w0 s.1 [(b_1,.cells #[.string p0.Name,iV p0.Sal,pv0_0,pv0_1,pv0_2] 109 (0,0))] [ob s.2.2.1]) (fun m s=>cl N p0 m s.2.1 s.2.2.2=some r∧(OSl RS 9 1 s.1 [] s.2.2.1 s.2.1)) (Φ_1,([]:List ByteArray),v1,0) N ⟨h,h1⟩ (sx [0] [0]) (fun n1 ih1 s hm=>?_)
 obtain ⟨Φ_2,s1,u1,s2⟩:=s
 obtain ⟨h,k1⟩:=hm
 dsimp only at h k1 ⊢
 unfold cl at h
 refine atr 6 [2,0] rfl<|lnr ph0_0 rfl<|la rfl<|en ?_
 refine ch h rfl ?_ ?_ <;> intro h
 ·refine atr 8 [2,0] rfl ?_
  obtain ⟨x1,hx1,h⟩:=bs h
  obtain ⟨cs1,F1,-,g1,hb1,hs1,r1⟩:=ph0_0.el (a7 hx1).2.2
  obtain ⟨v2,G1,rfl,hq1,h2⟩:=r1
  obtain rfl:=hq1.symm
  refine lia ph0_0 hx1 rfl<|lhx 0 3 g1 rfl<|kab h rfl rfl rfl (fun b z q=>zh N b x1 (h2.y z) q) ?_
  rintro x2 h v3 Φ_3 F2 ⟨ap1,fr2,v4,rfl,rfl,h3⟩
  replace k1:=k1.fr fr2 (ap1.q 0 rfl) dN
  refine art 7 [] rfl ?_
  refine lin (σ:=Hp × (List ByteArray) × Value × Int) (fun s=>[(1,pQ b_1),(3,s.2.2.1),(4,iV s2),(5,v3),(6,iV s.2.2.2)]) (fun s=>St w0 s.1 [(b_1,.cells #[.string p0.Name,iV p0.Sal,pv0_0,pv0_1,pv0_2] 109 (0,0))] [ob v3,ob s.2.2.1]) (fun m s=>cp N p0 s2 (cl N p0 n1) x2 m s.2.1 s.2.2.2=some r∧(OSl RS 9 1 s.1 [] s.2.2.1 s.2.1)∧(OSl RS 9 1 s.1 [] v3 x2)) (Φ_3,s1,u1,0) N ⟨h,k1,h3⟩ (sx [0,0] [0]) (fun n2 ih2 s hm=>?_)
  obtain ⟨Φ_4,s3,u2,s4⟩:=s
  obtain ⟨h,k2,h3⟩:=hm
  dsimp only at h k2 h3 ⊢
  unfold cp at h
  refine atr 5 [] rfl<|lno h3 rfl<|arr 2 [] rfl ?_
  obtain ⟨b1,hb_1,h⟩:=bs h
  refine WL.cutN 8 [(33,.bool b1),(1,pQ b_1),(3,u2),(4,iV s2),(5,v3),(6,iV s4)] ?_ (fun K=>?_)
  rotate_left
  ·refine sp 25 hb_1 rfl (fun hb_1=>?_) fun hb_1=>?_
   ·refine arr 3 [2,0] rfl<|ly rfl rfl ?_
    obtain ⟨x3,hx3,hb_1⟩:=bs hb_1
    obtain ⟨cs2,F3,-,g2,hb2,hs2,r2⟩:=ph0_0.el (a7 hx3).2.2
    obtain ⟨v5,G2,rfl,hq2,h4⟩:=r2
    obtain rfl:=hq2.symm
    refine lia ph0_0 hx3 rfl<|ly rfl rfl<|lf kY rfl rfl rfl<|ly rfl rfl<|lhx 2 0 g2 rfl<|arr 2 [] rfl ?_
    cases hb_1
    exact ku K
   ·refine arr 8 [] rfl ?_
    cases hb_1
    exact ku K
  refine en ?_
  refine ch h rfl ?_ ?_ <;> intro h
  ·refine atr 8 [] rfl ?_
   obtain ⟨x4,hx4,h⟩:=bs h
   obtain ⟨cs3,F4,-,g3,hb3,hs3,r3⟩:=h3.elS (a7 hx4).2.2
   obtain ⟨rfl,-⟩:=r3
   refine lio h3 hx4 rfl<|lgx 0 0 g3 rfl<|qc h (qH N · s3 x4 k2.rsl ·) rfl rfl rfl fun x5 h=>la rfl<|en ?_
   refine ch h rfl ?_ ?_ <;> intro h
   ·refine atr 4 [] rfl ?_
    obtain ⟨x6,hx6,h⟩:=bs h
    obtain ⟨cs4,F5,-,g4,hb4,hs4,r4⟩:=h3.elS (a7 hx6).2.2
    obtain ⟨rfl,-⟩:=r4
    refine lio h3 hx6 rfl<|lgx 0 0 g4 rfl ?_
    have rc2:RC RS 1 Φ_4 ([[]]:List (List Nat)) [.string x6] ([x6]:List ByteArray):=RC.cons (c:=[.string x6]) (cells:=[]) ⟨rfl,rfl⟩ rfl (RC.nil _ _ _)
    refine le' (cU (vs:=[(0,.string x6)]) (C:=#[.string x6]) RS.lasts rB FD rfl rfl rfl rfl (aK CS (ai (C':=[.string x6]) rfl rfl rfl rfl rfl (au))) rfl rc2 rfl (by simpa using Kw.nil)) rfl ?_
    rintro v6 Φ_5 D2 ⟨fr3,h5⟩
    replace h5:OSl RS 9 1 Φ_5 [] v6 ([x6]:List ByteArray):=by simpa using h5
    replace k2:=k2.f0 fr3
    replace h3:=h3.f0 fr3
    obtain ⟨x7,hx7,h⟩:=bs h
    refine le' (dE RS.lasts RS.one RS.flat rB IJ rfl rfl rfl rfl rfl (js:=[2]) (Rr:=[ob v6,ob v3]) rfl k2 h5.rsl hx7) rfl ?_
    rintro v7 Φ_6 D3 ⟨⟨ap2,fr4⟩,h6⟩
    replace h3:=h3.fr fr4 (ap2.q 1 rfl) dN
    refine art 8 [] rfl ?_
    exact lb [2,0] [0] (ih2 (_,_,_,_) ⟨h,h6,h3⟩)
   refine att 7 [] rfl ?_
   exact lb [0,0] [0] (ih2 (_,_,_,_) ⟨h,k2,h3⟩)
  refine att 7 [] rfl ?_
  exact lb [1] [0] (ih1 (_,_,_,_) ⟨h,k2⟩)
 refine att 6 [] rfl ?_
 exact rtg [0] hF (aG.one rfl) rfl (by cases h; exact fun w1 hw=>⟨u1,rfl,rfl,k1⟩)
theorem wb  (w0:af Ψ Φ []) (p0:ByteArray)  {r:Bool} (h:m7 N p0=some r) :
  CB w0 prog 184 [.string p0] (.bool r):=by
 refine eN func184 rfl ntmps184 rfl w0 fun hF=>?_
 unfold m7 at h
 refine att 10 [] rfl ?_
 refine lin (σ:=Int) (fun s=>[(0,.string p0),(3,iV s)]) (fun s=>St w0 Φ [] []) (fun m s=>dZ N p0 m s=some r) (0) N h (sx [] []) (fun n1 ih1 s hm=>?_)
 revert hm; revert s; intro s1 hm
 have h:dZ N p0 (n1+1) s1=some r:=hm
 show WT _ _ [(0,.string p0),(3,iV s1)] (St w0 Φ [] [])
 unfold dZ at h
 refine atr 5 [] rfl<|lq (fN eW rfl rfl) rfl<|la rfl<|en ?_
 refine ch h rfl ?_ ?_ <;> intro h
 ·refine atr 7 [] rfl ?_
  obtain ⟨y1,hy1,h⟩:=bs h
  refine lq (jb eW rfl rfl hy1) rfl<|qc h (mT N · (y1.toNat:Int) ·) rfl rfl rfl fun x1 h=>la rfl<|en ?_
  refine ch h rfl ?_ ?_ <;> intro h
  ·refine att 4 [] rfl ?_
   exact rt hF h
  refine att 7 [] rfl ?_
  exact lb [] [] (ih1 _ h)
 refine atr 4 [] rfl<|lq (fN eW rfl rfl) rfl<|art 3 [] rfl ?_
 exact rt hF h
theorem tP  (w0:af Ψ Φ []) (p0:aP)  {r:Bool} (h:nt N p0=some r) :
  CB w0 prog 143 [.agg [iV p0.K,iV p0.N,.string p0.S].toArray] (.bool r):=by
 refine eN func143 rfl ntmps143 rfl w0 fun hF=>?_
 unfold nt at h
 refine sr<|lbx rfl fun b_1=>art 14 [0,0] rfl ?_
 refine ch h rfl ?_ ?_ <;> intro h
 ·refine atr 4 [1,0] rfl<|qc h (bU N · p0.N (-1000000000) 1000000000 ·) rfl rfl rfl fun x1 h=>la rfl ?_
  obtain ⟨b1,hb_1,h⟩:=bs h
  refine WL.cutN 4 [(14,.bool b1),(2,.bool false)] ?_ (fun K=>?_)
  rotate_left
  ·refine sp 10 hb_1 rfl (fun hb_1=>?_) fun hb_1=>?_
   ·refine arr 4 [2,0] rfl ?_
    cases hb_1
    exact ku K
   ·refine arr 4 [] rfl ?_
    cases hb_1
    exact ku K
  refine la rfl<|en ?_
  exact rt hF h
 refine att 5 [] rfl ?_
 refine ch h rfl ?_ ?_ <;> intro h
 ·refine atr 4 [2,0] rfl<|qc h (wb N · p0.S ·) rfl rfl rfl fun x2 h=>la rfl ?_
  obtain ⟨b2,hb_2,h⟩:=bs h
  refine WL.cutN 4 [(24,.bool b2),(2,.bool false)] ?_ (fun K=>?_)
  rotate_left
  ·refine sp 20 hb_2 rfl (fun hb_2=>?_) fun hb_2=>?_
   ·refine arr 4 [1,0] rfl ?_
    cases hb_2
    exact ku K
   ·refine arr 4 [] rfl ?_
    cases hb_2
    exact ku K
  refine la rfl<|en ?_
  exact rt hF h
 refine att 6 [] rfl ?_
 exact rt hF h
theorem xr  (w0:af Ψ Φ []) (p0:Int)  {r:Bool} (h:mo N p0=some r) :
  CB w0 prog 233 [.int .u8 p0] (.bool r):=by
 refine eN func233 rfl ntmps233 rfl w0 fun hF=>?_
 unfold mo at h
 refine atr 7 [] rfl<|lq (vj Hc HA rfl) rfl<|qc h (bU N · (wz p0) 65 90 ·) rfl rfl rfl fun x1 h=>la rfl<|en ?_
 exact rt hF h
theorem wc  (w0:af Ψ Φ []) (p0:ByteArray)  {r:Bool} (h:mE N p0=some r) :
  CB w0 prog 219 [.string p0] (.bool r):=by
 refine eN func219 rfl ntmps219 rfl w0 fun hF=>?_
 unfold mE at h
 refine att 10 [] rfl ?_
 refine lin (σ:=Int) (fun s=>[(0,.string p0),(3,iV s)]) (fun s=>St w0 Φ [] []) (fun m s=>cK N p0 m s=some r) (0) N h (sx [] []) (fun n1 ih1 s hm=>?_)
 revert hm; revert s; intro s1 hm
 have h:cK N p0 (n1+1) s1=some r:=hm
 show WT _ _ [(0,.string p0),(3,iV s1)] (St w0 Φ [] [])
 unfold cK at h
 refine atr 5 [] rfl<|lq (fN eW rfl rfl) rfl<|la rfl<|en ?_
 refine ch h rfl ?_ ?_ <;> intro h
 ·refine atr 7 [] rfl ?_
  obtain ⟨y1,hy1,h⟩:=bs h
  refine lq (jb eW rfl rfl hy1) rfl<|qc h (xr N · (y1.toNat:Int) ·) rfl rfl rfl fun x1 h=>arr 2 [] rfl ?_
  obtain ⟨b1,hb_1,h⟩:=bs h
  refine WL.cutN 10 [(25,.bool b1),(0,.string p0),(3,iV s1)] ?_ (fun K=>?_)
  rotate_left
  ·refine sp 15 hb_1 rfl (fun hb_1=>?_) fun hb_1=>?_
   ·refine arr 3 [] rfl ?_
    obtain ⟨b2,hb_2,hb_1⟩:=bs hb_1
    refine WL.cutN 6 [(24,.bool b2),(0,.string p0),(3,iV s1),(15,.bool true)] ?_ (fun K=>?_)
    rotate_left
    ·refine sp 18 hb_2 rfl (fun hb_2=>?_) fun hb_2=>?_
     ·refine arr 6 [] rfl ?_
      cases hb_2
      exact ku K
     ·refine arr 2 [] rfl<|ly rfl rfl ?_
      obtain ⟨y2,hy2,hb_2⟩:=bs hb_2
      refine lq (jb eW rfl rfl hy2) rfl<|ly rfl rfl<|qc hb_2 (mT N · (y2.toNat:Int) ·) rfl rfl rfl fun x2 hb_2=>arr 2 [] rfl ?_
      cases hb_2
      exact ku K
    refine la rfl ?_
    cases hb_1
    exact ku K
   ·refine arr 10 [] rfl ?_
    cases hb_1
    exact ku K
  refine en ?_
  refine ch h rfl ?_ ?_ <;> intro h
  ·refine att 4 [] rfl ?_
   exact rt hF h
  refine att 7 [] rfl ?_
  exact lb [] [] (ih1 _ h)
 refine atr 4 [] rfl<|lq (fN eW rfl rfl) rfl<|qc h (bU N · (p0.size:Int) 1 12 ·) rfl rfl rfl fun x3 h=>la rfl<|en ?_
 exact rt hF h
theorem nc  (w0:af Ψ Φ []) (p0:bk)  {r:Bool} (h:jR N p0=some r) :
  CB w0 prog 182 [.agg [iV p0.K,.string p0.S,iV p0.V.K,iV p0.V.N,.string p0.V.S].toArray] (.bool r):=by
 refine eN func182 rfl ntmps182 rfl w0 fun hF=>?_
 unfold jR at h
 refine sr<|lbx rfl fun b_1=>arr 6 [2,3] rfl<|lq (cA (vs:=[]) (C:=#[iV 0,iV 0,.string (⟨#[]⟩:ByteArray)]) wD iw rfl (au)) rfl<|lq (Cy kr rfl rfl rfl (r:=bb p0.V (⟨0,0,(⟨#[]⟩:ByteArray)⟩:aP)) rfl) rfl<|art 14 [0,0] rfl ?_
 refine ch h rfl ?_ ?_ <;> intro h
 ·refine atr 4 [1,0] rfl<|qc h (wc N · p0.S ·) rfl rfl rfl fun x1 h=>la rfl ?_
  obtain ⟨b1,hb_1,h⟩:=bs h
  refine WL.cutN 2 [(17,.bool b1),(2,.bool false)] ?_ (fun K=>?_)
  rotate_left
  ·refine sp 15 hb_1 rfl (fun hb_1=>?_) fun hb_1=>?_
   ·refine arr 2 [] rfl ?_
    cases hb_1
    exact ku K
   ·refine arr 2 [] rfl ?_
    cases hb_1
    exact ku K
  refine la rfl<|en ?_
  exact rt hF h
 refine att 5 [] rfl ?_
 refine ch h rfl ?_ ?_ <;> intro h
 ·refine atr 4 [2,3] rfl<|qc h (tP N · p0.V ·) rfl rfl rfl fun x2 h=>la rfl ?_
  obtain ⟨b2,hb_2,h⟩:=bs h
  refine WL.cutN 4 [(27,.bool b2),(2,.bool false)] ?_ (fun K=>?_)
  rotate_left
  ·refine sp 23 hb_2 rfl (fun hb_2=>?_) fun hb_2=>?_
   ·refine arr 4 [1,0] rfl ?_
    cases hb_2
    exact ku K
   ·refine arr 4 [] rfl ?_
    cases hb_2
    exact ku K
  refine la rfl<|en ?_
  exact rt hF h
 refine att 5 [] rfl ?_
 refine ch h rfl ?_ ?_ <;> intro h
 ·refine atr 6 [1,0] rfl ?_
  obtain ⟨b3,hb_3,h⟩:=bs h
  refine WL.cutN 2 [(35,.bool b3),(2,.bool false)] ?_ (fun K=>?_)
  rotate_left
  ·refine sp 33 hb_3 rfl (fun hb_3=>?_) fun hb_3=>?_
   ·refine arr 2 [] rfl ?_
    cases hb_3
    exact ku K
   ·refine arr 2 [] rfl ?_
    cases hb_3
    exact ku K
  refine la rfl<|en ?_
  exact rt hF h
 refine att 6 [] rfl ?_
 exact rt hF h
theorem Ak (w0:af Ψ Φ []) (p0:ao) (ph0_0:RSl cu 5 Ψ pG0_0 pv0_0 p0.Args) {r:Bool} (h:qk N p0=some r) :
  CB w0 prog 139 [.agg [.string p0.Kind,pv0_0,.bool p0.Not].toArray] (.bool r):=by
 refine eN func139 rfl ntmps139 rfl w0 fun hF=>?_
 unfold qk at h
 refine sr<|lbx rfl fun b_1=>art 8 [] rfl ?_
 refine lin (σ:=Int) (fun s=>[(1,pQ b_1),(3,iV s)]) (fun s=>St w0 Φ [(b_1,.cells #[.string p0.Kind,pv0_0,.bool p0.Not] 124 (0,0))] []) (fun m s=>fx N p0 m s=some r) (0) N h (sx [] [0]) (fun n1 ih1 s hm=>?_)
 revert hm; revert s; intro s1 hm
 have h:fx N p0 (n1+1) s1=some r:=hm
 show WT _ _ [(1,pQ b_1),(3,iV s1)] (St w0 Φ [(b_1,.cells #[.string p0.Kind,pv0_0,.bool p0.Not] 124 (0,0))] [])
 unfold fx at h
 refine atr 6 [1,0] rfl<|lnr ph0_0 rfl<|la rfl<|en ?_
 refine ch h rfl ?_ ?_ <;> intro h
 ·refine atr 8 [1,0] rfl ?_
  obtain ⟨x1,hx1,h⟩:=bs h
  obtain ⟨cs1,F1,-,g1,hb1,hs1,r1⟩:=ph0_0.el (a7 hx1).2.2
  obtain ⟨rfl,-⟩:=r1
  refine lia ph0_0 hx1 rfl<|lhx 0 5 g1 rfl<|qc h (nc N · x1 ·) rfl rfl rfl fun x2 h=>la rfl<|en ?_
  refine ch h rfl ?_ ?_ <;> intro h
  ·refine att 4 [] rfl ?_
   exact rt hF h
  refine att 7 [] rfl ?_
  exact lb [] [0] (ih1 _ h)
 refine atr 5 [0,0] rfl<|qc h (eO N · p0.Kind ·) rfl rfl rfl fun x3 h=>la rfl ?_
 obtain ⟨b1,hb_1,h⟩:=bs h
 refine WL.cutN 5 [(26,.bool b1)] ?_ (fun K=>?_)
 rotate_left
 ·refine sp 21 hb_1 rfl (fun hb_1=>?_) fun hb_1=>?_
  ·refine arr 2 [1,0] rfl<|ly rfl rfl<|lnr ph0_0 rfl<|arr 2 [] rfl ?_
   cases hb_1
   exact ku K
  ·refine arr 5 [] rfl ?_
   cases hb_1
   exact ku K
 refine la rfl<|en ?_
 exact rt hF h
theorem y6 (w0:af Ψ Φ []) (p0:(List ao)) (ph0:RSl bt 3 Ψ pG0 pv0 p0) {r:Bool} (h:nZ N p0=some r) :
  CB w0 prog 85 [pv0] (.bool r):=by
 refine eN func85 rfl ntmps85 rfl w0 fun hF=>?_
 unfold nZ at h
 refine att 10 [] rfl ?_
 refine lin (σ:=Int) (fun s=>[(0,pv0),(3,iV s)]) (fun s=>St w0 Φ [] []) (fun m s=>dM N p0 m s=some r) (0) N h (sx [] []) (fun n1 ih1 s hm=>?_)
 revert hm; revert s; intro s1 hm
 have h:dM N p0 (n1+1) s1=some r:=hm
 show WT _ _ [(0,pv0),(3,iV s1)] (St w0 Φ [] [])
 unfold dM at h
 refine atr 5 [] rfl<|lnr ph0 rfl<|la rfl<|en ?_
 refine ch h rfl ?_ ?_ <;> intro h
 ·refine atr 9 [] rfl ?_
  obtain ⟨b1,hb_1,h⟩:=bs h
  refine WL.cutN 7 [(19,.bool b1),(0,pv0),(3,iV s1)] ?_ (fun K=>?_)
  rotate_left
  ·refine sp 12 hb_1 rfl (fun hb_1=>?_) fun hb_1=>?_
   ·refine arr 2 [] rfl<|ly rfl rfl ?_
    obtain ⟨x1,hx1,hb_1⟩:=bs hb_1
    obtain ⟨cs1,F1,-,g1,hb1,hs1,r1⟩:=ph0.el (a7 hx1).2.2
    obtain ⟨v1,G1,rfl,hq1,h1⟩:=r1
    obtain rfl:=hq1.symm
    refine lia ph0 hx1 rfl<|ly rfl rfl<|lf kY rfl rfl rfl<|ly rfl rfl<|lhx 2 0 g1 rfl<|arr 2 [] rfl ?_
    cases hb_1
    exact ku K
   ·refine arr 7 [] rfl ?_
    cases hb_1
    exact ku K
  refine en ?_
  refine ch h rfl ?_ ?_ <;> intro h
  ·refine att 4 [] rfl ?_
   exact rt hF h
  refine atr 5 [] rfl ?_
  obtain ⟨x2,hx2,h⟩:=bs h
  obtain ⟨cs2,F2,-,g2,hb2,hs2,r2⟩:=ph0.el (a7 hx2).2.2
  obtain ⟨v2,G2,rfl,hq2,h2⟩:=r2
  obtain rfl:=hq2.symm
  refine lia ph0 hx2 rfl<|lhx 0 3 g2 rfl<|qd h (Ak N · x2 h2 ·) rfl rfl rfl fun x3 h=>arr 2 [] rfl ?_
  obtain ⟨b2,hb_2,h⟩:=bs h
  refine WL.cutN 10 [(36,.bool b2),(0,pv0),(3,iV s1)] ?_ (fun K=>?_)
  rotate_left
  ·refine sp 26 hb_2 rfl (fun hb_2=>?_) fun hb_2=>?_
   ·refine arr 10 [] rfl ?_
    cases hb_2
    exact ku K
   ·refine arr 3 [] rfl ?_
    obtain ⟨b3,hb_3,hb_2⟩:=bs hb_2
    refine WL.cutN 6 [(35,.bool b3),(0,pv0),(3,iV s1),(26,.bool false)] ?_ (fun K=>?_)
    rotate_left
    ·refine sp 29 hb_3 rfl (fun hb_3=>?_) fun hb_3=>?_
     ·refine arr 2 [] rfl<|ly rfl rfl ?_
      obtain ⟨x4,hx4,hb_3⟩:=bs hb_3
      obtain ⟨cs3,F3,-,g3,hb3,hs3,r3⟩:=ph0.el (a7 hx4).2.2
      obtain ⟨v3,G3,rfl,hq3,h3⟩:=r3
      obtain rfl:=hq3.symm
      refine lia ph0 hx4 rfl<|ly rfl rfl<|lf kY rfl rfl rfl<|ly rfl rfl<|lhx 2 0 g3 rfl<|ly rfl rfl<|la rfl ?_
      cases hb_3
      exact ku K
     ·refine arr 6 [] rfl ?_
      cases hb_3
      exact ku K
    refine la rfl ?_
    cases hb_2
    exact ku K
  refine la rfl ?_
  obtain ⟨b4,hb_4,h⟩:=bs h
  refine WL.cutN 19 [(56,.bool b4),(0,pv0),(3,iV s1)] ?_ (fun K=>?_)
  rotate_left
  ·refine sp 37 hb_4 rfl (fun hb_4=>?_) fun hb_4=>?_
   ·refine arr 19 [] rfl ?_
    cases hb_4
    exact ku K
   ·refine arr 3 [] rfl ?_
    obtain ⟨b5,hb_5,hb_4⟩:=bs hb_4
    refine WL.cutN 7 [(47,.bool b5),(0,pv0),(3,iV s1),(37,.bool false)] ?_ (fun K=>?_)
    rotate_left
    ·refine sp 40 hb_5 rfl (fun hb_5=>?_) fun hb_5=>?_
     ·refine arr 3 [] rfl<|ly rfl rfl ?_
      obtain ⟨x5,hx5,hb_5⟩:=bs hb_5
      obtain ⟨cs4,F4,-,g4,hb4,hs4,r4⟩:=ph0.el (a7 hx5).2.2
      obtain ⟨v4,G4,rfl,hq4,h4⟩:=r4
      obtain rfl:=hq4.symm
      refine lia ph0 hx5 rfl<|ly rfl rfl<|lf kY rfl rfl rfl<|ly rfl rfl<|lhx 2 0 g4 rfl<|ly rfl rfl<|la rfl ?_
      cases hb_5
      exact ku K
     ·refine arr 7 [] rfl ?_
      cases hb_5
      exact ku K
    refine ly rfl rfl<|la rfl ?_
    obtain ⟨b6,hb_6,hb_4⟩:=bs hb_4
    refine WL.cutN 7 [(55,.bool b6),(0,pv0),(3,iV s1),(37,.bool false)] ?_ (fun K=>?_)
    rotate_left
    ·refine sp 48 hb_6 rfl (fun hb_6=>?_) fun hb_6=>?_
     ·refine arr 2 [] rfl<|ly rfl rfl ?_
      obtain ⟨x6,hx6,hb_6⟩:=bs hb_6
      obtain ⟨cs5,F5,-,g5,hb5,hs5,r5⟩:=ph0.el (a7 hx6).2.2
      obtain ⟨v5,G5,rfl,hq5,h5⟩:=r5
      obtain rfl:=hq5.symm
      refine lia ph0 hx6 rfl<|ly rfl rfl<|lf kY rfl rfl rfl<|ly rfl rfl<|lhx 2 0 g5 rfl<|arr 2 [] rfl ?_
      cases hb_6
      exact ku K
     ·refine arr 7 [] rfl ?_
      cases hb_6
      exact ku K
    refine la rfl ?_
    cases hb_4
    exact ku K
  refine en ?_
  refine ch h rfl ?_ ?_ <;> intro h
  ·refine att 4 [] rfl ?_
   exact rt hF h
  refine att 7 [] rfl ?_
  exact lb [] [] (ih1 _ h)
 refine atr 4 [] rfl<|lnr ph0 rfl<|qc h (bU N · (p0.length:Int) 1 6 ·) rfl rfl rfl fun x7 h=>la rfl<|en ?_
 exact rt hF h
theorem yU  (w0:af Ψ Φ []) (p0:bz)  {r:Bool} (h:o9 N p0=some r) :
  CB w0 prog 140 [.agg [iV p0.Op,iV p0.L.K,.string p0.L.S,iV p0.L.V.K,iV p0.L.V.N,.string p0.L.V.S,iV p0.R.K,.string p0.R.S,iV p0.R.V.K,iV p0.R.V.N,.string p0.R.V.S].toArray] (.bool r):=by
 refine eN func140 rfl ntmps140 rfl w0 fun hF=>?_
 unfold o9 at h
 refine sr<|lbx rfl fun b_1=>arr 6 [0,0] rfl<|qc h (bU N · p0.Op 1 3 ·) rfl rfl rfl fun x1 h=>la rfl ?_
 obtain ⟨b1,hb_1,h⟩:=bs h
 refine WL.cutN 4 [(10,.bool b1),(1,pQ b_1),(2,.bool false)] ?_ (fun K=>?_)
 rotate_left
 ·refine sp 6 hb_1 rfl (fun hb_1=>?_) fun hb_1=>?_
  ·refine arr 2 [1,5] rfl<|ly rfl rfl<|qc hb_1 (nc N · p0.L ·) rfl rfl rfl fun x2 hb_1=>la rfl ?_
   cases hb_1
   exact ku K
  ·refine arr 4 [] rfl ?_
   cases hb_1
   exact ku K
 refine la rfl ?_
 obtain ⟨b2,hb_2,h⟩:=bs h
 refine WL.cutN 4 [(15,.bool b2),(1,pQ b_1),(2,.bool false)] ?_ (fun K=>?_)
 rotate_left
 ·refine sp 11 hb_2 rfl (fun hb_2=>?_) fun hb_2=>?_
  ·refine arr 2 [6,5] rfl<|ly rfl rfl<|qc hb_2 (nc N · p0.R ·) rfl rfl rfl fun x3 hb_2=>la rfl ?_
   cases hb_2
   exact ku K
  ·refine arr 4 [] rfl ?_
   cases hb_2
   exact ku K
 refine la rfl ?_
 obtain ⟨b3,hb_3,h⟩:=bs h
 refine WL.cutN 5 [(21,.bool b3),(1,pQ b_1),(2,.bool false)] ?_ (fun K=>?_)
 rotate_left
 ·refine sp 16 hb_3 rfl (fun hb_3=>?_) fun hb_3=>?_
  ·refine arr 5 [1,0,0] rfl ?_
   cases hb_3
   exact ku K
  ·refine arr 5 [] rfl ?_
   cases hb_3
   exact ku K
 refine la rfl ?_
 obtain ⟨b4,hb_4,h⟩:=bs h
 refine WL.cutN 5 [(27,.bool b4),(2,.bool false)] ?_ (fun K=>?_)
 rotate_left
 ·refine sp 22 hb_4 rfl (fun hb_4=>?_) fun hb_4=>?_
  ·refine arr 5 [6,0,0] rfl ?_
   cases hb_4
   exact ku K
  ·refine arr 5 [] rfl ?_
   cases hb_4
   exact ku K
 refine la rfl<|en ?_
 exact rt hF h
theorem kx (w0:af Ψ Φ []) (p0:bk) (p1:(List ByteArray)) (ph1:RSl RS 1 Ψ pG1 pv1 p1) {r:Bool} (h:gv N p0 p1=some r) :
  CB w0 prog 141 [.agg [iV p0.K,.string p0.S,iV p0.V.K,iV p0.V.N,.string p0.V.S].toArray,pv1] (.bool r):=by
 refine eN func141 rfl ntmps141 rfl w0 fun hF=>?_
 unfold gv at h
 refine sr<|lbx rfl fun b_1=>arr 8 [0,0] rfl ?_
 obtain ⟨b1,hb_1,h⟩:=bs h
 refine WL.cutN 5 [(13,.bool b1),(4,.bool false)] ?_ (fun K=>?_)
 rotate_left
 ·refine sp 8 hb_1 rfl (fun hb_1=>?_) fun hb_1=>?_
  ·refine arr 5 [] rfl ?_
   cases hb_1
   exact ku K
  ·refine arr 3 [1,0] rfl<|ly rfl rfl<|qd hb_1 (qH N · p1 p0.S ph1 ·) rfl rfl rfl fun x1 hb_1=>la rfl ?_
   cases hb_1
   exact ku K
 refine la rfl<|en ?_
 exact rt hF h
theorem wv (w0:af Ψ Φ []) (p0:(List bz)) (p1:(List ByteArray)) (ph0:RSl bl 11 Ψ pG0 pv0 p0) (ph1:RSl RS 1 Ψ pG1 pv1 p1) {r:Bool} (h:mf N p0 p1=some r) :
  CB w0 prog 86 [pv0,pv1] (.bool r):=by
 refine eN func86 rfl ntmps86 rfl w0 fun hF=>?_
 unfold mf at h
 refine att 10 [] rfl ?_
 refine lin (σ:=Int) (fun s=>[(0,pv0),(1,pv1),(5,iV s)]) (fun s=>St w0 Φ [] []) (fun m s=>ek N p0 p1 m s=some r) (0) N h (sx [] []) (fun n1 ih1 s hm=>?_)
 revert hm; revert s; intro s1 hm
 have h:ek N p0 p1 (n1+1) s1=some r:=hm
 show WT _ _ [(0,pv0),(1,pv1),(5,iV s1)] (St w0 Φ [] [])
 unfold ek at h
 refine atr 5 [] rfl<|lnr ph0 rfl<|la rfl<|en ?_
 refine ch h rfl ?_ ?_ <;> intro h
 ·refine atr 7 [] rfl ?_
  obtain ⟨x1,hx1,h⟩:=bs h
  obtain ⟨cs1,F1,-,g1,hb1,hs1,r1⟩:=ph0.el (a7 hx1).2.2
  obtain ⟨rfl,-⟩:=r1
  refine lia ph0 hx1 rfl<|lhx 0 11 g1 rfl<|qc h (yU N · x1 ·) rfl rfl rfl fun x2 h=>arr 2 [] rfl ?_
  obtain ⟨b1,hb_1,h⟩:=bs h
  refine WL.cutN 9 [(27,.bool b1),(0,pv0),(1,pv1),(5,iV s1)] ?_ (fun K=>?_)
  rotate_left
  ·refine sp 18 hb_1 rfl (fun hb_1=>?_) fun hb_1=>?_
   ·refine arr 9 [] rfl ?_
    cases hb_1
    exact ku K
   ·refine arr 2 [] rfl<|ly rfl rfl ?_
    obtain ⟨x3,hx3,hb_1⟩:=bs hb_1
    obtain ⟨cs2,F2,-,g2,hb2,hs2,r2⟩:=ph0.el (a7 hx3).2.2
    obtain ⟨rfl,-⟩:=r2
    refine lia ph0 hx3 rfl<|ly rfl rfl<|lf zV rfl rfl rfl<|ly rfl rfl<|lhx 1 5 g2 rfl<|ly rfl rfl<|la rfl<|ly rfl rfl<|qd hb_1 (kx N · x3.L p1 ph1 ·) rfl rfl rfl fun x4 hb_1=>arr 2 [] rfl ?_
    cases hb_1
    exact ku K
  refine la rfl ?_
  obtain ⟨b2,hb_2,h⟩:=bs h
  refine WL.cutN 9 [(37,.bool b2),(0,pv0),(1,pv1),(5,iV s1)] ?_ (fun K=>?_)
  rotate_left
  ·refine sp 28 hb_2 rfl (fun hb_2=>?_) fun hb_2=>?_
   ·refine arr 9 [] rfl ?_
    cases hb_2
    exact ku K
   ·refine arr 2 [] rfl<|ly rfl rfl ?_
    obtain ⟨x5,hx5,hb_2⟩:=bs hb_2
    obtain ⟨cs3,F3,-,g3,hb3,hs3,r3⟩:=ph0.el (a7 hx5).2.2
    obtain ⟨rfl,-⟩:=r3
    refine lia ph0 hx5 rfl<|ly rfl rfl<|lf zS rfl rfl rfl<|ly rfl rfl<|lhx 6 5 g3 rfl<|ly rfl rfl<|la rfl<|ly rfl rfl<|qd hb_2 (kx N · x5.R p1 ph1 ·) rfl rfl rfl fun x6 hb_2=>arr 2 [] rfl ?_
    cases hb_2
    exact ku K
  refine en ?_
  refine ch h rfl ?_ ?_ <;> intro h
  ·refine att 4 [] rfl ?_
   exact rt hF h
  refine att 7 [] rfl ?_
  exact lb [] [] (ih1 _ h)
 refine atr 4 [] rfl<|lnr ph0 rfl<|art 3 [] rfl ?_
 exact rt hF h
theorem o1  (w0:af Ψ Φ []) (p0:bk)  {r:Bool} (h:iQ N p0=some r) :
  CB w0 prog 234 [.agg [iV p0.K,.string p0.S,iV p0.V.K,iV p0.V.N,.string p0.V.S].toArray] (.bool r):=by
 refine eN func234 rfl ntmps234 rfl w0 fun hF=>?_
 unfold iQ at h
 refine sr<|lbx rfl fun b_1=>arr 5 [5] rfl<|qc h (nc N · p0 ·) rfl rfl rfl fun x1 h=>la rfl ?_
 obtain ⟨b1,hb_1,h⟩:=bs h
 refine WL.cutN 4 [(9,.bool b1),(2,.bool false)] ?_ (fun K=>?_)
 rotate_left
 ·refine sp 5 hb_1 rfl (fun hb_1=>?_) fun hb_1=>?_
  ·refine arr 4 [0,0] rfl ?_
   cases hb_1
   exact ku K
  ·refine arr 4 [] rfl ?_
   cases hb_1
   exact ku K
 refine la rfl<|en ?_
 exact rt hF h
end Go.Proofs.YtiljnppocjgkkaaGreat
