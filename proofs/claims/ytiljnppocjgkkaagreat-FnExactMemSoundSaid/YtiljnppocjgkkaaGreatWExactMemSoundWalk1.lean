/- Printed by a program of ours: each Go function computes its Lean function. -/
import Derived.Test.YtiljnppocjgkkaaGreatProg
import Derived.Test.YtiljnppocjgkkaaGreatWExactMemSoundSort
import Derived.Test.YtiljnppocjgkkaaGreatEP
namespace Go.Proofs.YtiljnppocjgkkaaGreat
open Eng af
open Go.RowKit (Below)
set_option linter.unusedVariables false
set_option linter.unusedSimpArgs false

set_option maxRecDepth 100000
set_option maxHeartbeats 1000000
theorem bW:prog.follows .mixedOrders=true:=by kernel_rfl
theorem Md:T1 prog 9=true:=by kernel_rfl
theorem f7:Str prog 9=true:=by kernel_rfl
theorem bE:Sl prog 67 3 1=true:=by kernel_rfl
theorem nV:T1 prog 67=true:=by kernel_rfl
theorem GX:Ik prog 5 .u8=true:=by kernel_rfl
theorem Hb:Ik prog 3 .i64=true:=by kernel_rfl
theorem Gu:Fun prog 45=true:=by kernel_rfl
theorem ru:Sl prog 157 9 1=true:=by kernel_rfl
theorem FR:(prog.info? 9).map (·.zero)=some (some (.string ⟨#[]⟩)):=by kernel_rfl
theorem EM:Fld prog 124 1 1=true:=by kernel_rfl
theorem ui:Sl prog 122 169 5=true:=by kernel_rfl
theorem zQ:Fld prog 169 0 0=true:=by kernel_rfl
theorem rI:T1 prog 3=true:=by kernel_rfl
theorem Al:Fld prog 169 1 1=true:=by kernel_rfl
theorem CP:madeCells (Value.string ⟨#[]⟩:Value).cells (1*1) = #[.string ⟨#[]⟩]:=by kernel_rfl
theorem J8:(prog.info? 9).map (fun i=>(i.zero,i.size,i.bytes))=some (some (.string ⟨#[]⟩),1,16):=by kernel_rfl
theorem tY:Fld prog 109 2 2=true:=by kernel_rfl
theorem qO:Sl prog 105 124 3=true:=by kernel_rfl
theorem t8:Tn prog 124 3=true:=by kernel_rfl
theorem lx:Fld prog 124 2 2=true:=by kernel_rfl
theorem Ey:Fld prog 169 2 2=true:=by kernel_rfl
theorem gF:Tn prog 167 3=true:=by kernel_rfl
theorem vY:Pl prog 167 #[(0,1),(1,1),(2,1)]=true:=by kernel_rfl
theorem iw:(prog.info? 167).map (·.zero)=some (some (.agg #[iV 0,iV 0,.string ⟨#[]⟩])):=by kernel_rfl
theorem ky:EqT prog 167 [.i .i64,.i .i64,.s]=true:=by kernel_rfl
theorem Bk:Tn prog 169 5=true:=by kernel_rfl
theorem Je:Fun prog 44=true:=by kernel_rfl
theorem A6:Fld prog 183 1 1=true:=by kernel_rfl
theorem zK:Fld prog 183 2 6=true:=by kernel_rfl
theorem Dz:Sl prog 106 183 11=true:=by kernel_rfl
theorem Dm:Tn prog 183 11=true:=by kernel_rfl
theorem A1:Fld prog 231 1 1=true:=by kernel_rfl
theorem zV:Fld prog 231 2 6=true:=by kernel_rfl
theorem FP:Pl prog 169 #[(0,1),(1,1),(2,3)]=true:=by kernel_rfl
theorem mX:(prog.info? 169).map (·.zero)=some (some (.agg #[iV 0,.string ⟨#[]⟩,iV 0,iV 0,.string ⟨#[]⟩])):=by kernel_rfl
theorem E0:EqT prog 169 [.i .i64,.s,.i .i64,.i .i64,.s]=true:=by kernel_rfl
theorem Dn:Sl prog 185 231 11=true:=by kernel_rfl
theorem Du:Tn prog 231 11=true:=by kernel_rfl
theorem sm:Fld prog 187 2 2=true:=by kernel_rfl
theorem Em:Fld prog 187 0 0=true:=by kernel_rfl
theorem EI:Fld prog 187 3 3=true:=by kernel_rfl
theorem DA:Sl prog 107 187 5=true:=by kernel_rfl
theorem AX:Tn prog 187 5=true:=by kernel_rfl
theorem mM:Tn prog 109 5=true:=by kernel_rfl
theorem A2:Fld prog 109 0 0=true:=by kernel_rfl
theorem J3:Fun prog 85=true:=by kernel_rfl
theorem ET:Fld prog 109 3 3=true:=by kernel_rfl
theorem JM:Fun prog 86=true:=by kernel_rfl
theorem EA:Fld prog 109 4 4=true:=by kernel_rfl
theorem JN:Fun prog 88=true:=by kernel_rfl
theorem JY:Fun prog 87=true:=by kernel_rfl
theorem Fo:Fld prog 38 1 1=true:=by kernel_rfl
theorem Ai:Sl prog 36 109 5=true:=by kernel_rfl
theorem Jn:Fun prog 42=true:=by kernel_rfl
theorem I5:Tn prog 38 2=true:=by kernel_rfl
theorem JR:Fun prog 43=true:=by kernel_rfl
theorem dC:Sl prog 113 167 3=true:=by kernel_rfl
theorem Aa:Fld prog 115 1 1=true:=by kernel_rfl
theorem Fw:Fld prog 47 0 0=true:=by kernel_rfl
theorem rJ:Sl prog 45 117 3=true:=by kernel_rfl
theorem un:Fld prog 117 1 1=true:=by kernel_rfl
theorem mW:Tn prog 115 2=true:=by kernel_rfl
theorem ID:Fun prog 91=true:=by kernel_rfl
theorem sj:Fld prog 117 0 0=true:=by kernel_rfl
theorem Dg:Tn prog 117 3=true:=by kernel_rfl
theorem qP:(prog.info? 117).map (·.zero)=some (some (.agg #[iV 0,.string ⟨#[]⟩,.slice none 0 0])):=by kernel_rfl
theorem rC:Sz prog 117 3=true:=by kernel_rfl
theorem Jf:Fun prog 46=true:=by kernel_rfl
theorem tH:Tn prog 47 2=true:=by kernel_rfl
theorem IE:Fun prog 47=true:=by kernel_rfl
theorem Ah:Fld prog 128 3 3=true:=by kernel_rfl
theorem Dy:Fun prog 24=true:=by kernel_rfl
theorem EN:Fld prog 128 2 2=true:=by kernel_rfl
theorem oD:Fld prog 62 0 0=true:=by kernel_rfl
theorem FB:T1 prog 59=true:=by kernel_rfl
theorem zN:Sl prog 59 128 4=true:=by kernel_rfl
theorem sW:Tn prog 128 4=true:=by kernel_rfl
theorem Jj:Fun prog 92=true:=by kernel_rfl
theorem Cs:madeCells (Value.agg #[.string ⟨#[]⟩,iV 0,.slice none 0 0,.slice none 0 0]:Value).cells (1*4) = #[.string ⟨#[]⟩,iV 0,.slice none 0 0,.slice none 0 0]:=by kernel_rfl
theorem ot:(prog.info? 128).map (·.zero)=some (some (.agg #[.string ⟨#[]⟩,iV 0,.slice none 0 0,.slice none 0 0])):=by kernel_rfl
theorem FY:(prog.info? 128).map (fun i=>(i.zero,i.size,i.bytes))=some (some (.agg #[.string ⟨#[]⟩,iV 0,.slice none 0 0,.slice none 0 0]),4,72):=by kernel_rfl
theorem HM:Sz prog 59 1=true:=by kernel_rfl
theorem Gq:Pl prog 128 #[(0,1),(1,1),(2,1),(3,1)]=true:=by kernel_rfl
theorem tg:Sz prog 128 4=true:=by kernel_rfl
theorem Cz:madeCells (Value.agg #[iV 0,iV 0,.string ⟨#[]⟩]:Value).cells (1*3) = #[iV 0,iV 0,.string ⟨#[]⟩]:=by kernel_rfl
theorem B4:(prog.info? 167).map (fun i=>(i.zero,i.size,i.bytes))=some (some (.agg #[iV 0,iV 0,.string ⟨#[]⟩]),3,32):=by kernel_rfl
theorem AS:Sz prog 113 1=true:=by kernel_rfl
theorem kK:madeCells (Value.int .i64 0:Value).cells (1*1) = #[iV 0]:=by kernel_rfl
theorem pf:(prog.info? 3).map (·.zero)=some (some (iV 0)):=by kernel_rfl
theorem tu:(prog.info? 3).map (fun i=>(i.zero,i.size,i.bytes))=some (some (iV 0),1,8):=by kernel_rfl
theorem qu:Sz prog 67 1=true:=by kernel_rfl
theorem vK:(prog.info? 62).map (·.zero)=some (some (.agg #[.slice none 0 0,.slice none 0 0])):=by kernel_rfl
theorem KN:Pl prog 62 #[(0,1),(1,1)]=true:=by kernel_rfl
theorem Cb:Sz prog 62 2=true:=by kernel_rfl
theorem Jp:Pl prog 121 #[(0,1),(1,1)]=true:=by kernel_rfl
theorem ux:(prog.info? 121).map (·.zero)=some (some (.agg #[.slice none 0 0,.slice none 0 0])):=by kernel_rfl
theorem Gw:Sz prog 121 2=true:=by kernel_rfl
theorem mK:(prog.info? 124).map (·.zero)=some (some (.agg #[.string ⟨#[]⟩,.slice none 0 0,.bool false])):=by kernel_rfl
theorem pG:Sz prog 124 3=true:=by kernel_rfl
theorem uh:Fld prog 121 1 1=true:=by kernel_rfl
theorem sh:Fld prog 121 0 0=true:=by kernel_rfl
theorem BV:Fld prog 62 1 1=true:=by kernel_rfl
theorem Fx:Tn prog 121 2=true:=by kernel_rfl
theorem Ci:madeCells (Value.agg #[.slice none 0 0,.slice none 0 0]:Value).cells (1*2) = #[.slice none 0 0,.slice none 0 0]:=by kernel_rfl
theorem A8:Sl prog 60 121 2=true:=by kernel_rfl
theorem Gl:(prog.info? 121).map (fun i=>(i.zero,i.size,i.bytes))=some (some (.agg #[.slice none 0 0,.slice none 0 0]),2,48):=by kernel_rfl
theorem I0:Sz prog 60 1=true:=by kernel_rfl
theorem HK:Tn prog 62 2=true:=by kernel_rfl
theorem pj:(prog.info? 43).map (·.zero)=some (some (.agg #[.slice none 0 0,.slice none 0 0])):=by kernel_rfl
theorem HT:Pl prog 43 #[(0,1),(1,1)]=true:=by kernel_rfl
theorem rT:Sz prog 43 2=true:=by kernel_rfl
theorem p9:Fld prog 43 0 0=true:=by kernel_rfl
theorem Cd:T1 prog 40=true:=by kernel_rfl
theorem L8:Pl prog 69 #[(0,1)]=true:=by kernel_rfl
theorem uF:(prog.info? 69).map (·.zero)=some (some (.agg #[.slice none 0 0])):=by kernel_rfl
theorem HD:madeCells (Value.agg #[.slice none 0 0]:Value).cells (1*1) = #[.slice none 0 0]:=by kernel_rfl
theorem pu:Sl prog 40 69 1=true:=by kernel_rfl
theorem Kt:(prog.info? 69).map (fun i=>(i.zero,i.size,i.bytes))=some (some (.agg #[.slice none 0 0]),1,24):=by kernel_rfl
theorem HO:Sz prog 40 1=true:=by kernel_rfl
theorem Ib:Pl prog 72 #[(0,1)]=true:=by kernel_rfl
theorem rP:(prog.info? 72).map (·.zero)=some (some (.agg #[.slice none 0 0])):=by kernel_rfl
theorem zI:Sz prog 72 1=true:=by kernel_rfl
theorem j9:Fld prog 72 0 0=true:=by kernel_rfl
theorem Ed:T1 prog 70=true:=by kernel_rfl
theorem Ld:Pl prog 76 #[(0,1)]=true:=by kernel_rfl
theorem uL:(prog.info? 76).map (·.zero)=some (some (.agg #[.slice none 0 0])):=by kernel_rfl
theorem Hx:madeCells (Value.agg #[.slice none 0 0]:Value).cells (1*1) = #[.slice none 0 0]:=by kernel_rfl
theorem rf:Sl prog 70 76 1=true:=by kernel_rfl
theorem KU:(prog.info? 76).map (fun i=>(i.zero,i.size,i.bytes))=some (some (.agg #[.slice none 0 0]),1,24):=by kernel_rfl
theorem I9:Sz prog 70 1=true:=by kernel_rfl
theorem vC:Fld prog 43 1 1=true:=by kernel_rfl
theorem xh:Tn prog 72 1=true:=by kernel_rfl
theorem DY:madeCells (Value.agg #[.slice none 0 0]:Value).cells (1*1) = #[.slice none 0 0]:=by kernel_rfl
theorem tt:Sl prog 41 72 1=true:=by kernel_rfl
theorem HU:(prog.info? 72).map (fun i=>(i.zero,i.size,i.bytes))=some (some (.agg #[.slice none 0 0]),1,24):=by kernel_rfl
theorem Fm:Sz prog 41 1=true:=by kernel_rfl
theorem zT:Tn prog 43 2=true:=by kernel_rfl
theorem jz:(prog.info? 115).map (·.zero)=some (some (.agg #[.string ⟨#[]⟩,.slice none 0 0])):=by kernel_rfl
theorem kC:Sz prog 115 2=true:=by kernel_rfl
theorem Dl:Pl prog 115 #[(0,1),(1,1)]=true:=by kernel_rfl
theorem lD:Sl prog 250 289 4=true:=by kernel_rfl
theorem EX:Fld prog 289 0 0=true:=by kernel_rfl
theorem EK:Fld prog 289 1 1=true:=by kernel_rfl
theorem o0:Sz prog 167 3=true:=by kernel_rfl
theorem qM:(prog.info? 289).map (·.zero)=some (some (.agg #[.string ⟨#[]⟩,iV 0,iV 0,.string ⟨#[]⟩])):=by kernel_rfl
theorem wA:(prog.info? 289).map (fun i=>(i.zero,i.size,i.bytes))=some (some (.agg #[.string ⟨#[]⟩,iV 0,iV 0,.string ⟨#[]⟩]),4,48):=by kernel_rfl
theorem og:Sz prog 169 5=true:=by kernel_rfl
theorem Fu:Pl prog 289 #[(0,1),(1,3)]=true:=by kernel_rfl
theorem C4:madeCells (Value.agg #[.string ⟨#[]⟩,iV 0,iV 0,.string ⟨#[]⟩]:Value).cells (1*4) = #[.string ⟨#[]⟩,iV 0,iV 0,.string ⟨#[]⟩]:=by kernel_rfl
theorem Fc:Fun prog 93=true:=by kernel_rfl
theorem Eh:Fun prog 221=true:=by kernel_rfl
theorem fk:Sl prog 74 136 2=true:=by kernel_rfl
theorem nr:Fld prog 136 0 0=true:=by kernel_rfl
theorem Hk:Fun prog 185=true:=by kernel_rfl
theorem HG:Fun prog 186=true:=by kernel_rfl
theorem l8:Fld prog 136 1 1=true:=by kernel_rfl
theorem u7:Sz prog 3 1=true:=by kernel_rfl
theorem FQ:Pl prog 136 #[(0,1),(1,1)]=true:=by kernel_rfl
theorem iz:(prog.info? 136).map (·.zero)=some (some (.agg #[.slice none 0 0,.slice none 0 0])):=by kernel_rfl
theorem BW:madeCells (Value.agg #[.slice none 0 0,.slice none 0 0]:Value).cells (1*2) = #[.slice none 0 0,.slice none 0 0]:=by kernel_rfl
theorem rM:(prog.info? 136).map (fun i=>(i.zero,i.size,i.bytes))=some (some (.agg #[.slice none 0 0,.slice none 0 0]),2,48):=by kernel_rfl
theorem KI:By prog 3 8=true:=by kernel_rfl
theorem wW:Tn prog 136 2=true:=by kernel_rfl
theorem pW:Sz prog 136 2=true:=by kernel_rfl
theorem gp:Fld prog 76 0 0=true:=by kernel_rfl
theorem BX:T1 prog 74=true:=by kernel_rfl
theorem GV:Fun prog 146=true:=by kernel_rfl
theorem tE:madeCells (Value.agg #[.slice none 0 0,.slice none 0 0]:Value).cells (0*2) = #[]:=by kernel_rfl
theorem DC:Sl prog 172 4 1=true:=by kernel_rfl
theorem E1:Fun prog 147=true:=by kernel_rfl
theorem mf:Fld prog 69 0 0=true:=by kernel_rfl
theorem Hy:Fun prog 148=true:=by kernel_rfl
theorem FU:Sz prog 74 1=true:=by kernel_rfl
theorem KP:(prog.info? 4).map (·.zero)=some (some (.bool false)):=by kernel_rfl
theorem Jm:Fun prog 94=true:=by kernel_rfl
theorem Ip:madeCells (Value.bool false:Value).cells (1*1) = #[.bool false]:=by kernel_rfl
theorem LH:(prog.info? 4).map (fun i=>(i.zero,i.size,i.bytes))=some (some (.bool false),1,1):=by kernel_rfl
theorem JC:Fun prog 95=true:=by kernel_rfl
theorem HQ:Pl prog 47 #[(0,1),(1,1)]=true:=by kernel_rfl
theorem Co:(prog.info? 47).map (·.zero)=some (some (.agg #[.slice none 0 0,iV 0])):=by kernel_rfl
theorem K7:Fun prog 51=true:=by kernel_rfl
theorem Iw:Fun prog 25=true:=by kernel_rfl
theorem AE:Sz prog 9 1=true:=by kernel_rfl
theorem Ie:By prog 169 56=true:=by kernel_rfl
theorem If:Sz prog 122 1=true:=by kernel_rfl
theorem LJ:Sz prog 4 1=true:=by kernel_rfl
theorem Jr:By prog 124 48=true:=by kernel_rfl
theorem vX:(prog.info? 183).map (·.zero)=some (some (.agg #[iV 0,iV 0,.string ⟨#[]⟩,iV 0,iV 0,.string ⟨#[]⟩,iV 0,.string ⟨#[]⟩,iV 0,iV 0,.string ⟨#[]⟩])):=by kernel_rfl
theorem Bn:Sz prog 183 11=true:=by kernel_rfl
theorem IL:By prog 183 120=true:=by kernel_rfl
theorem vB:(prog.info? 231).map (·.zero)=some (some (.agg #[.string ⟨#[]⟩,iV 0,.string ⟨#[]⟩,iV 0,iV 0,.string ⟨#[]⟩,iV 0,.string ⟨#[]⟩,iV 0,iV 0,.string ⟨#[]⟩])):=by kernel_rfl
theorem AG:Sz prog 231 11=true:=by kernel_rfl
theorem J4:By prog 231 128=true:=by kernel_rfl
theorem we:(prog.info? 187).map (·.zero)=some (some (.agg #[iV 0,.string ⟨#[]⟩,.slice none 0 0,iV 0,.string ⟨#[]⟩])):=by kernel_rfl
theorem IO:Sz prog 185 1=true:=by kernel_rfl
theorem B6:Sz prog 187 5=true:=by kernel_rfl
theorem JL:By prog 187 72=true:=by kernel_rfl
theorem ug:(prog.info? 109).map (·.zero)=some (some (.agg #[.string ⟨#[]⟩,iV 0,.slice none 0 0,.slice none 0 0,.slice none 0 0])):=by kernel_rfl
theorem IV:Sz prog 105 1=true:=by kernel_rfl
theorem Ij:Sz prog 106 1=true:=by kernel_rfl
theorem JJ:Sz prog 107 1=true:=by kernel_rfl
theorem wg:Sz prog 109 5=true:=by kernel_rfl
theorem JB:By prog 109 96=true:=by kernel_rfl
theorem Gk:(prog.info? 38).map (·.zero)=some (some (.agg #[.string ⟨#[]⟩,.slice none 0 0])):=by kernel_rfl
theorem Kd:Sz prog 36 1=true:=by kernel_rfl
theorem HV:Sz prog 38 2=true:=by kernel_rfl
theorem Aj:Tn prog 69 1=true:=by kernel_rfl
theorem Ee:Sz prog 69 1=true:=by kernel_rfl
theorem HS:By prog 69 24=true:=by kernel_rfl
theorem Io:By prog 136 48=true:=by kernel_rfl
theorem zZ:Tn prog 76 1=true:=by kernel_rfl
theorem DM:Sz prog 76 1=true:=by kernel_rfl
theorem HX:By prog 76 24=true:=by kernel_rfl
theorem KJ:By prog 72 24=true:=by kernel_rfl
theorem Ih:By prog 167 32=true:=by kernel_rfl
theorem JS:By prog 117 48=true:=by kernel_rfl
theorem KS:Sz prog 45 1=true:=by kernel_rfl
theorem HP:Sz prog 47 2=true:=by kernel_rfl
theorem Jw:Fun prog 59=true:=by kernel_rfl
theorem DJ:Fun prog 107=true:=by kernel_rfl
theorem Hj:Fun prog 155=true:=by kernel_rfl
theorem H9:Bo prog 4=true:=by kernel_rfl
theorem Cn:madeCells (Value.agg #[iV 0,.string ⟨#[]⟩,iV 0,iV 0,.string ⟨#[]⟩]:Value).cells (2*5) = #[iV 0,.string ⟨#[]⟩,iV 0,iV 0,.string ⟨#[]⟩,iV 0,.string ⟨#[]⟩,iV 0,iV 0,.string ⟨#[]⟩]:=by kernel_rfl
theorem H3:Fun prog 106=true:=by kernel_rfl
theorem H8:Fun prog 112=true:=by kernel_rfl
theorem Ir:Fun prog 62=true:=by kernel_rfl
theorem Lq:Fun prog 225=true:=by kernel_rfl
theorem LP:Ik prog 282 .u32=true:=by kernel_rfl
theorem Mc:Ik prog 284 .u64=true:=by kernel_rfl
theorem M6:Ik prog 246 .u64=true:=by kernel_rfl
theorem LA:T1 prog 304=true:=by kernel_rfl
theorem LG:Sz prog 304 1=true:=by kernel_rfl
theorem LM:Ik prog 304 .u64=true:=by kernel_rfl
theorem LZ:(prog.info? 304).map (·.zero)=some (some (.int .u64 0)):=by kernel_rfl
theorem Lo:Fun prog 237=true:=by kernel_rfl
theorem Lu:Fun prog 229=true:=by kernel_rfl
theorem Lt:Fun prog 228=true:=by kernel_rfl
theorem Lx:Fun prog 196=true:=by kernel_rfl
theorem Ll:Fun prog 197=true:=by kernel_rfl
theorem Lm:Fun prog 199=true:=by kernel_rfl
theorem Lv:Fun prog 202=true:=by kernel_rfl
theorem Lp:Fun prog 203=true:=by kernel_rfl
theorem Ln:Fun prog 161=true:=by kernel_rfl
theorem Lw:Fun prog 201=true:=by kernel_rfl
theorem Lr:Fun prog 200=true:=by kernel_rfl
theorem Ly:Fun prog 198=true:=by kernel_rfl
theorem Jg:madeCells (Value.int .i64 0:Value).cells (2*1) = #[iV 0,iV 0]:=by kernel_rfl
theorem DI:Fun prog 117=true:=by kernel_rfl
theorem E6:Fun prog 115=true:=by kernel_rfl
theorem Hw:Fun prog 119=true:=by kernel_rfl
theorem Jt:Fun prog 70=true:=by kernel_rfl
theorem Ju:Fun prog 65=true:=by kernel_rfl
theorem Iz:Fun prog 68=true:=by kernel_rfl
theorem H5:Fun prog 207=true:=by kernel_rfl
theorem Fy:madeCells (Value.agg #[.string ⟨#[]⟩,.slice none 0 0,.bool false]:Value).cells (1*3) = #[.string ⟨#[]⟩,.slice none 0 0,.bool false]:=by kernel_rfl
theorem JP:(prog.info? 124).map (fun i=>(i.zero,i.size,i.bytes))=some (some (.agg #[.string ⟨#[]⟩,.slice none 0 0,.bool false]),3,48):=by kernel_rfl
theorem Dh:(prog.info? 200).map (·.zero)=some (some (.agg #[.slice none 0 0,.slice none 0 0,.slice none 0 0,.slice none 0 0,.slice none 0 0,.slice none 0 0,iV 0,iV 0])):=by kernel_rfl
theorem E4:Fun prog 168=true:=by kernel_rfl
theorem Ii:Pl prog 200 #[(0,1),(1,1),(2,2),(4,1),(5,2),(7,1)]=true:=by kernel_rfl
theorem FW:Sz prog 200 8=true:=by kernel_rfl
theorem Fg:Tn prog 200 8=true:=by kernel_rfl
theorem IJ:Sz prog 289 4=true:=by kernel_rfl
theorem GR:Fun prog 170=true:=by kernel_rfl
theorem Hl:Fun prog 171=true:=by kernel_rfl
theorem Hc:Fun prog 124=true:=by kernel_rfl
theorem Ic:Fun prog 73=true:=by kernel_rfl
theorem Jh:Fun prog 33=true:=by kernel_rfl
theorem HB:Fun prog 216=true:=by kernel_rfl
theorem Hd:Fun prog 213=true:=by kernel_rfl
theorem HI:Fun prog 172=true:=by kernel_rfl
theorem GL:Fun prog 173=true:=by kernel_rfl
theorem HF:Fun prog 231=true:=by kernel_rfl
theorem H6:Fun prog 174=true:=by kernel_rfl
theorem IR:Fun prog 74=true:=by kernel_rfl
theorem J0:Fun prog 75=true:=by kernel_rfl
theorem Hv:Fun prog 232=true:=by kernel_rfl
theorem Hm:Fun prog 175=true:=by kernel_rfl
theorem Jl:Fun prog 76=true:=by kernel_rfl
theorem Jv:Fun prog 77=true:=by kernel_rfl
theorem I3:Fun prog 8=true:=by kernel_rfl
theorem I6:Fun prog 9=true:=by kernel_rfl
theorem Gp:Fun prog 10=true:=by kernel_rfl
variable {Ψ Φ:Hp} {pv0 pv0_0 pv0_1 pv0_2 pv1:Value} {pG0 pG0_0 pG0_1 pG0_2 pG1:List Nat} (N:Nat)
theorem tF  (w0:ag Ψ Φ []) (p0:aQ) (p1:Int)  {r:Int} (h:l7 N p0 p1=some r) :
  CB w0 prog 181 [.agg [iV p0.K,iV p0.N,.string p0.S].toArray,iV p1] (iV r):=by
 refine eN func181 rfl ntmps181 rfl w0 fun hF=>?_
 unfold l7 at h
 refine sr<|lbx rfl fun b_1=>arr 7 [2,0] rfl<|lq (fS f7 rfl rfl) rfl<|art 9 [] rfl ?_
 refine ch h rfl ?_ ?_ <;> intro h
 ·refine att 4 [] rfl ?_
  exact rt hF h
 refine att 6 [] rfl ?_
 exact rt hF h
theorem kR  (w0:ag Ψ Φ []) (p0:bk) (p1:Int)  {r:Int} (h:i7 N p0 p1=some r) :
  CB w0 prog 178 [.agg [iV p0.K,.string p0.S,iV p0.V.K,iV p0.V.N,.string p0.V.S].toArray,iV p1] (iV r):=by
 refine eN func178 rfl ntmps178 rfl w0 fun hF=>?_
 unfold i7 at h
 refine sr<|lbx rfl fun b_1=>arr 7 [1,0] rfl<|lq (fS f7 rfl rfl) rfl<|art 9 [] rfl ?_
 refine ch h rfl ?_ ?_ <;> intro h
 ·refine att 4 [] rfl ?_
  exact rt hF h
 refine atr 6 [2,3] rfl<|qc h (tF N · p0.V (wz (p1 - (p0.S.size:Int))) ·) rfl rfl rfl fun x1 h=>art 8 [] rfl ?_
 refine ch h rfl ?_ ?_ <;> intro h
 ·refine att 4 [] rfl ?_
  exact rt hF h
 refine att 6 [] rfl ?_
 exact rt hF h
theorem zd (w0:ag Ψ Φ []) (p0:(List bk)) (p1:Int) (ph0:RSl cv 5 Ψ pG0 pv0 p0) {r:Int} (h:ox N p0 p1=some r) :
  CB w0 prog 177 [pv0,iV p1] (iV r):=by
 refine eN func177 rfl ntmps177 rfl w0 fun hF=>?_
 unfold ox at h
 refine atr 8 [] rfl<|lnr ph0 rfl<|art 9 [] rfl ?_
 refine ch h rfl ?_ ?_ <;> intro h
 ·refine att 4 [] rfl ?_
  exact rt hF h
 refine att 7 [] rfl ?_
 refine lin (σ:=Int × Int) (fun s=>[(0,pv0),(1,iV s.1),(5,iV s.2)]) (fun s=>St w0 Φ [] []) (fun m s=>i8 N p0 m s.1 s.2=some r) (wz (p1 - (p0.length:Int)),0) N h (sx [] []) (fun n1 ih1 s hm=>?_)
 obtain ⟨s1,s2⟩:=s
 have h:i8 N p0 (n1+1) s1 s2=some r:=hm
 show WT _ _ [(0,pv0),(1,iV s1),(5,iV s2)] (St w0 Φ [] [])
 unfold i8 at h
 refine atr 5 [] rfl<|lnr ph0 rfl<|la rfl<|en ?_
 refine ch h rfl ?_ ?_ <;> intro h
 ·refine atr 7 [] rfl ?_
  obtain ⟨x1,hx1,h⟩:=bs h
  obtain ⟨cs1,F1,-,g1,hb1,hs1,r1⟩:=ph0.el (a7 hx1).2.2
  obtain ⟨rfl,-⟩:=r1
  refine lia ph0 hx1 rfl<|lhx 0 5 g1 rfl<|la rfl<|qc h (kR N · x1 s1 ·) rfl rfl rfl fun x2 h=>art 7 [] rfl ?_
  refine ch h rfl ?_ ?_ <;> intro h
  ·refine att 4 [] rfl ?_
   exact rt hF h
  refine att 7 [] rfl ?_
  exact lb [] [] (ih1 (_,_) h)
 refine att 6 [] rfl ?_
 exact rt hF h
theorem Bl (w0:ag Ψ Φ []) (p0:aq) (p1:Int) (ph0_0:RSl cv 5 Ψ pG0_0 pv0_0 p0.Args) {r:Int} (h:nJ N p0 p1=some r) :
  CB w0 prog 132 [.agg [.string p0.Kind,pv0_0,.bool p0.Not].toArray,iV p1] (iV r):=by
 refine eN func132 rfl ntmps132 rfl w0 fun hF=>?_
 unfold nJ at h
 refine sr<|lbx rfl fun b_1=>arr 7 [0,0] rfl<|lq (fS f7 rfl rfl) rfl<|art 9 [] rfl ?_
 refine ch h rfl ?_ ?_ <;> intro h
 ·refine att 4 [] rfl ?_
  exact rt hF h
 refine atr 6 [1,0] rfl<|qd h (zd N · p0.Args (wz (p1 - (p0.Kind.size:Int))) ph0_0 ·) rfl rfl rfl fun x1 h=>art 8 [] rfl ?_
 refine ch h rfl ?_ ?_ <;> intro h
 ·refine att 4 [] rfl ?_
  exact rt hF h
 refine att 6 [] rfl ?_
 exact rt hF h
theorem zu (w0:ag Ψ Φ []) (p0:(List aq)) (p1:Int) (ph0:RSl bw 3 Ψ pG0 pv0 p0) {r:Int} (h:nM N p0 p1=some r) :
  CB w0 prog 78 [pv0,iV p1] (iV r):=by
 refine eN func78 rfl ntmps78 rfl w0 fun hF=>?_
 unfold nM at h
 refine atr 8 [] rfl<|lnr ph0 rfl<|art 9 [] rfl ?_
 refine ch h rfl ?_ ?_ <;> intro h
 ·refine att 4 [] rfl ?_
  exact rt hF h
 refine att 7 [] rfl ?_
 refine lin (σ:=Int × Int) (fun s=>[(0,pv0),(1,iV s.1),(5,iV s.2)]) (fun s=>St w0 Φ [] []) (fun m s=>ig N p0 m s.1 s.2=some r) (wz (p1 - (p0.length:Int)),0) N h (sx [] []) (fun n1 ih1 s hm=>?_)
 obtain ⟨s1,s2⟩:=s
 have h:ig N p0 (n1+1) s1 s2=some r:=hm
 show WT _ _ [(0,pv0),(1,iV s1),(5,iV s2)] (St w0 Φ [] [])
 unfold ig at h
 refine atr 5 [] rfl<|lnr ph0 rfl<|la rfl<|en ?_
 refine ch h rfl ?_ ?_ <;> intro h
 ·refine atr 7 [] rfl ?_
  obtain ⟨x1,hx1,h⟩:=bs h
  obtain ⟨cs1,F1,-,g1,hb1,hs1,r1⟩:=ph0.el (a7 hx1).2.2
  obtain ⟨v1,G1,rfl,hq1,h1⟩:=r1
  obtain rfl:=hq1.symm
  refine lia ph0 hx1 rfl<|lhx 0 3 g1 rfl<|la rfl<|qd h (Bl N · x1 s1 h1 ·) rfl rfl rfl fun x2 h=>art 7 [] rfl ?_
  refine ch h rfl ?_ ?_ <;> intro h
  ·refine att 4 [] rfl ?_
   exact rt hF h
  refine att 7 [] rfl ?_
  exact lb [] [] (ih1 (_,_) h)
 refine att 6 [] rfl ?_
 exact rt hF h
theorem yk  (w0:ag Ψ Φ []) (p0:bA) (p1:Int)  {r:Int} (h:lF N p0 p1=some r) :
  CB w0 prog 133 [.agg [iV p0.Op,iV p0.L.K,.string p0.L.S,iV p0.L.V.K,iV p0.L.V.N,.string p0.L.V.S,iV p0.R.K,.string p0.R.S,iV p0.R.V.K,iV p0.R.V.N,.string p0.R.V.S].toArray,iV p1] (iV r):=by
 refine eN func133 rfl ntmps133 rfl w0 fun hF=>?_
 unfold lF at h
 refine sr<|lbx rfl fun b_1=>arr 7 [1,5] rfl<|qc h (kR N · p0.L p1 ·) rfl rfl rfl fun x1 h=>art 8 [] rfl ?_
 refine ch h rfl ?_ ?_ <;> intro h
 ·refine att 4 [] rfl ?_
  exact rt hF h
 refine atr 6 [6,5] rfl<|qc h (kR N · p0.R x1 ·) rfl rfl rfl fun x2 h=>art 8 [] rfl ?_
 refine ch h rfl ?_ ?_ <;> intro h
 ·refine att 4 [] rfl ?_
  exact rt hF h
 refine att 6 [] rfl ?_
 exact rt hF h
theorem wG (w0:ag Ψ Φ []) (p0:(List bA)) (p1:Int) (ph0:RSl bm 11 Ψ pG0 pv0 p0) {r:Int} (h:mo N p0 p1=some r) :
  CB w0 prog 79 [pv0,iV p1] (iV r):=by
 refine eN func79 rfl ntmps79 rfl w0 fun hF=>?_
 unfold mo at h
 refine atr 8 [] rfl<|lnr ph0 rfl<|art 9 [] rfl ?_
 refine ch h rfl ?_ ?_ <;> intro h
 ·refine att 4 [] rfl ?_
  exact rt hF h
 refine att 7 [] rfl ?_
 refine lin (σ:=Int × Int) (fun s=>[(0,pv0),(1,iV s.1),(5,iV s.2)]) (fun s=>St w0 Φ [] []) (fun m s=>gn N p0 m s.1 s.2=some r) (wz (p1 - (p0.length:Int)),0) N h (sx [] []) (fun n1 ih1 s hm=>?_)
 obtain ⟨s1,s2⟩:=s
 have h:gn N p0 (n1+1) s1 s2=some r:=hm
 show WT _ _ [(0,pv0),(1,iV s1),(5,iV s2)] (St w0 Φ [] [])
 unfold gn at h
 refine atr 5 [] rfl<|lnr ph0 rfl<|la rfl<|en ?_
 refine ch h rfl ?_ ?_ <;> intro h
 ·refine atr 7 [] rfl ?_
  obtain ⟨x1,hx1,h⟩:=bs h
  obtain ⟨cs1,F1,-,g1,hb1,hs1,r1⟩:=ph0.el (a7 hx1).2.2
  obtain ⟨rfl,-⟩:=r1
  refine lia ph0 hx1 rfl<|lhx 0 11 g1 rfl<|la rfl<|qc h (yk N · x1 s1 ·) rfl rfl rfl fun x2 h=>art 7 [] rfl ?_
  refine ch h rfl ?_ ?_ <;> intro h
  ·refine att 4 [] rfl ?_
   exact rt hF h
  refine att 7 [] rfl ?_
  exact lb [] [] (ih1 (_,_) h)
 refine att 6 [] rfl ?_
 exact rt hF h
theorem z8  (w0:ag Ψ Φ []) (p0:bv) (p1:Int)  {r:Int} (h:l6 N p0 p1=some r) :
  CB w0 prog 217 [.agg [.string p0.Op,iV p0.L.K,.string p0.L.S,iV p0.L.V.K,iV p0.L.V.N,.string p0.L.V.S,iV p0.R.K,.string p0.R.S,iV p0.R.V.K,iV p0.R.V.N,.string p0.R.V.S].toArray,iV p1] (iV r):=by
 refine eN func217 rfl ntmps217 rfl w0 fun hF=>?_
 unfold l6 at h
 refine sr<|lbx rfl fun b_1=>arr 7 [0,0] rfl<|lq (fS f7 rfl rfl) rfl<|art 9 [] rfl ?_
 refine ch h rfl ?_ ?_ <;> intro h
 ·refine att 4 [] rfl ?_
  exact rt hF h
 refine atr 6 [1,5] rfl<|qc h (kR N · p0.L (wz (p1 - (p0.Op.size:Int))) ·) rfl rfl rfl fun x1 h=>art 8 [] rfl ?_
 refine ch h rfl ?_ ?_ <;> intro h
 ·refine att 4 [] rfl ?_
  exact rt hF h
 refine atr 6 [6,5] rfl<|qc h (kR N · p0.R x1 ·) rfl rfl rfl fun x2 h=>art 8 [] rfl ?_
 refine ch h rfl ?_ ?_ <;> intro h
 ·refine att 4 [] rfl ?_
  exact rt hF h
 refine att 6 [] rfl ?_
 exact rt hF h
theorem xi (w0:ag Ψ Φ []) (p0:(List bv)) (p1:Int) (ph0:RSl cu 11 Ψ pG0 pv0 p0) {r:Int} (h:ml N p0 p1=some r) :
  CB w0 prog 179 [pv0,iV p1] (iV r):=by
 refine eN func179 rfl ntmps179 rfl w0 fun hF=>?_
 unfold ml at h
 refine atr 8 [] rfl<|lnr ph0 rfl<|art 9 [] rfl ?_
 refine ch h rfl ?_ ?_ <;> intro h
 ·refine att 4 [] rfl ?_
  exact rt hF h
 refine att 7 [] rfl ?_
 refine lin (σ:=Int × Int) (fun s=>[(0,pv0),(1,iV s.1),(5,iV s.2)]) (fun s=>St w0 Φ [] []) (fun m s=>gg N p0 m s.1 s.2=some r) (wz (p1 - (p0.length:Int)),0) N h (sx [] []) (fun n1 ih1 s hm=>?_)
 obtain ⟨s1,s2⟩:=s
 have h:gg N p0 (n1+1) s1 s2=some r:=hm
 show WT _ _ [(0,pv0),(1,iV s1),(5,iV s2)] (St w0 Φ [] [])
 unfold gg at h
 refine atr 5 [] rfl<|lnr ph0 rfl<|la rfl<|en ?_
 refine ch h rfl ?_ ?_ <;> intro h
 ·refine atr 7 [] rfl ?_
  obtain ⟨x1,hx1,h⟩:=bs h
  obtain ⟨cs1,F1,-,g1,hb1,hs1,r1⟩:=ph0.el (a7 hx1).2.2
  obtain ⟨rfl,-⟩:=r1
  refine lia ph0 hx1 rfl<|lhx 0 11 g1 rfl<|la rfl<|qc h (z8 N · x1 s1 ·) rfl rfl rfl fun x2 h=>art 7 [] rfl ?_
  refine ch h rfl ?_ ?_ <;> intro h
  ·refine att 4 [] rfl ?_
   exact rt hF h
  refine att 7 [] rfl ?_
  exact lb [] [] (ih1 (_,_) h)
 refine att 6 [] rfl ?_
 exact rt hF h
theorem AW (w0:ag Ψ Φ []) (p0:bY) (p1:Int) (ph0_0:RSl cu 11 Ψ pG0_0 pv0_0 p0.Args) {r:Int} (h:nG N p0 p1=some r) :
  CB w0 prog 134 [.agg [iV p0.Kind,.string p0.Name,pv0_0,iV p0.N,.string p0.Undo].toArray,iV p1] (iV r):=by
 refine eN func134 rfl ntmps134 rfl w0 fun hF=>?_
 unfold nG at h
 refine sr<|lbx rfl fun b_1=>arr 7 [1,0] rfl<|lq (fS f7 rfl rfl) rfl<|art 9 [] rfl ?_
 refine ch h rfl ?_ ?_ <;> intro h
 ·refine att 4 [] rfl ?_
  exact rt hF h
 refine atr 6 [2,0] rfl<|qd h (xi N · p0.Args (wz (p1 - (p0.Name.size:Int))) ph0_0 ·) rfl rfl rfl fun x1 h=>art 8 [] rfl ?_
 refine ch h rfl ?_ ?_ <;> intro h
 ·refine att 4 [] rfl ?_
  exact rt hF h
 refine atr 6 [4,0] rfl<|lq (fS f7 rfl rfl) rfl<|art 9 [] rfl ?_
 refine ch h rfl ?_ ?_ <;> intro h
 ·refine att 4 [] rfl ?_
  exact rt hF h
 refine att 6 [] rfl ?_
 exact rt hF h
theorem zF (w0:ag Ψ Φ []) (p0:(List bY)) (p1:Int) (ph0:RSl cZ 5 Ψ pG0 pv0 p0) {r:Int} (h:oY N p0 p1=some r) :
  CB w0 prog 80 [pv0,iV p1] (iV r):=by
 refine eN func80 rfl ntmps80 rfl w0 fun hF=>?_
 unfold oY at h
 refine atr 8 [] rfl<|lnr ph0 rfl<|art 9 [] rfl ?_
 refine ch h rfl ?_ ?_ <;> intro h
 ·refine att 4 [] rfl ?_
  exact rt hF h
 refine att 7 [] rfl ?_
 refine lin (σ:=Int × Int) (fun s=>[(0,pv0),(1,iV s.1),(5,iV s.2)]) (fun s=>St w0 Φ [] []) (fun m s=>ik N p0 m s.1 s.2=some r) (wz (p1 - (p0.length:Int)),0) N h (sx [] []) (fun n1 ih1 s hm=>?_)
 obtain ⟨s1,s2⟩:=s
 have h:ik N p0 (n1+1) s1 s2=some r:=hm
 show WT _ _ [(0,pv0),(1,iV s1),(5,iV s2)] (St w0 Φ [] [])
 unfold ik at h
 refine atr 5 [] rfl<|lnr ph0 rfl<|la rfl<|en ?_
 refine ch h rfl ?_ ?_ <;> intro h
 ·refine atr 7 [] rfl ?_
  obtain ⟨x1,hx1,h⟩:=bs h
  obtain ⟨cs1,F1,-,g1,hb1,hs1,r1⟩:=ph0.el (a7 hx1).2.2
  obtain ⟨v1,G1,rfl,hq1,h1⟩:=r1
  obtain rfl:=hq1.symm
  refine lia ph0 hx1 rfl<|lhx 0 5 g1 rfl<|la rfl<|qd h (AW N · x1 s1 h1 ·) rfl rfl rfl fun x2 h=>art 7 [] rfl ?_
  refine ch h rfl ?_ ?_ <;> intro h
  ·refine att 4 [] rfl ?_
   exact rt hF h
  refine att 7 [] rfl ?_
  exact lb [] [] (ih1 (_,_) h)
 refine att 6 [] rfl ?_
 exact rt hF h
theorem yX (w0:ag Ψ Φ []) (p0:ac) (p1:Int) (ph0_0:RSl bw 3 Ψ pG0_0 pv0_0 p0.Pats) (ph0_1:RSl bm 11 Ψ pG0_1 pv0_1 p0.Conds) (ph0_2:RSl cZ 5 Ψ pG0_2 pv0_2 p0.Acts) {r:Int} (h:lm N p0 p1=some r) :
  CB w0 prog 38 [.agg [.string p0.Name,iV p0.Sal,pv0_0,pv0_1,pv0_2].toArray,iV p1] (iV r):=by
 refine eN func38 rfl ntmps38 rfl w0 fun hF=>?_
 unfold lm at h
 refine sr<|lbx rfl fun b_1=>arr 7 [0,0] rfl<|lq (fS f7 rfl rfl) rfl<|art 9 [] rfl ?_
 refine ch h rfl ?_ ?_ <;> intro h
 ·refine att 4 [] rfl ?_
  exact rt hF h
 refine atr 6 [2,0] rfl<|qd h (zu N · p0.Pats (wz (p1 - (p0.Name.size:Int))) ph0_0 ·) rfl rfl rfl fun x1 h=>art 8 [] rfl ?_
 refine ch h rfl ?_ ?_ <;> intro h
 ·refine att 4 [] rfl ?_
  exact rt hF h
 refine atr 6 [3,0] rfl<|qd h (wG N · p0.Conds x1 ph0_1 ·) rfl rfl rfl fun x2 h=>art 8 [] rfl ?_
 refine ch h rfl ?_ ?_ <;> intro h
 ·refine att 4 [] rfl ?_
  exact rt hF h
 refine atr 6 [4,0] rfl<|qd h (zF N · p0.Acts x2 ph0_2 ·) rfl rfl rfl fun x3 h=>art 8 [] rfl ?_
 refine ch h rfl ?_ ?_ <;> intro h
 ·refine att 4 [] rfl ?_
  exact rt hF h
 refine att 6 [] rfl ?_
 exact rt hF h
theorem vQ (w0:ag Ψ Φ []) (p0:(List ac)) (p1:Int) (ph0:RSl bZ 5 Ψ pG0 pv0 p0) {r:Int} (h:mv N p0 p1=some r) :
  CB w0 prog 15 [pv0,iV p1] (iV r):=by
 refine eN func15 rfl ntmps15 rfl w0 fun hF=>?_
 unfold mv at h
 refine atr 8 [] rfl<|lnr ph0 rfl<|art 9 [] rfl ?_
 refine ch h rfl ?_ ?_ <;> intro h
 ·refine att 4 [] rfl ?_
  exact rt hF h
 refine att 7 [] rfl ?_
 refine lin (σ:=Int × Int) (fun s=>[(0,pv0),(1,iV s.1),(5,iV s.2)]) (fun s=>St w0 Φ [] []) (fun m s=>gj N p0 m s.1 s.2=some r) (wz (p1 - (p0.length:Int)),0) N h (sx [] []) (fun n1 ih1 s hm=>?_)
 obtain ⟨s1,s2⟩:=s
 have h:gj N p0 (n1+1) s1 s2=some r:=hm
 show WT _ _ [(0,pv0),(1,iV s1),(5,iV s2)] (St w0 Φ [] [])
 unfold gj at h
 refine atr 5 [] rfl<|lnr ph0 rfl<|la rfl<|en ?_
 refine ch h rfl ?_ ?_ <;> intro h
 ·refine atr 7 [] rfl ?_
  obtain ⟨x1,hx1,h⟩:=bs h
  obtain ⟨cs1,F1,-,g1,hb1,hs1,r1⟩:=ph0.el (a7 hx1).2.2
  obtain ⟨v1,G1,v2,G2,v3,G3,rfl,rfl,h1,h2,h3⟩:=r1
  refine lia ph0 hx1 rfl<|lhx 0 5 g1 rfl<|la rfl<|qd h (yX N · x1 s1 h1 h2 h3 ·) rfl rfl rfl fun x2 h=>art 7 [] rfl ?_
  refine ch h rfl ?_ ?_ <;> intro h
  ·refine att 4 [] rfl ?_
   exact rt hF h
  refine att 7 [] rfl ?_
  exact lb [] [] (ih1 (_,_) h)
 refine att 6 [] rfl ?_
 exact rt hF h
theorem Bz (w0:ag Ψ Φ []) (p0:bi) (p1:Int) (ph0_0:RSl bZ 5 Ψ pG0_0 pv0_0 p0.Rules) {r:Int} (h:qj N p0 p1=some r) :
  CB w0 prog 4 [.agg [.string p0.Name,pv0_0].toArray,iV p1] (iV r):=by
 refine eN func4 rfl ntmps4 rfl w0 fun hF=>?_
 unfold qj at h
 refine sr<|lbx rfl fun b_1=>arr 7 [0,0] rfl<|lq (fS f7 rfl rfl) rfl<|art 9 [] rfl ?_
 refine ch h rfl ?_ ?_ <;> intro h
 ·refine att 4 [] rfl ?_
  exact rt hF h
 refine atr 6 [1,0] rfl<|qd h (vQ N · p0.Rules (wz (p1 - (p0.Name.size:Int))) ph0_0 ·) rfl rfl rfl fun x1 h=>art 8 [] rfl ?_
 refine ch h rfl ?_ ?_ <;> intro h
 ·refine att 4 [] rfl ?_
  exact rt hF h
 refine att 6 [] rfl ?_
 exact rt hF h
theorem pX (w0:ag Ψ Φ []) (p0:(List Int)) (p1:Int) (ph0:RSl (RI .i64) 1 Ψ pG0 pv0 p0) {r:Int} (h:jE N p0 p1=some r) :
  CB w0 prog 81 [pv0,iV p1] (iV r):=by
 refine eN func81 rfl ntmps81 rfl w0 fun hF=>?_
 unfold jE at h
 refine atr 8 [] rfl<|lnr ph0 rfl<|art 9 [] rfl ?_
 refine ch h rfl ?_ ?_ <;> intro h
 ·refine att 4 [] rfl ?_
  exact rt hF h
 refine att 6 [] rfl ?_
 exact rt hF h
theorem AB (w0:ag Ψ Φ []) (p0:aR) (p1:Int) (ph0_0:RSl (RI .i64) 1 Ψ pG0_0 pv0_0 p0.L) {r:Int} (h:nB N p0 p1=some r) :
  CB w0 prog 39 [.agg [pv0_0].toArray,iV p1] (iV r):=by
 refine eN func39 rfl ntmps39 rfl w0 fun hF=>?_
 unfold nB at h
 refine sr ?_
 refine ln (jO (C:=#[pv0_0]) rfl rfl) rfl (fun b_1=>?_)
 refine arr 7 [0,0] rfl<|qd h (pX N · p0.L p1 ph0_0 ·) rfl rfl rfl fun x1 h=>art 8 [] rfl ?_
 refine ch h rfl ?_ ?_ <;> intro h
 ·refine att 4 [] rfl ?_
  exact rt hF h
 refine att 6 [] rfl ?_
 exact rt hF h
theorem zb (w0:ag Ψ Φ []) (p0:(List aR)) (p1:Int) (ph0:RSl dv 1 Ψ pG0 pv0 p0) {r:Int} (h:pb N p0 p1=some r) :
  CB w0 prog 16 [pv0,iV p1] (iV r):=by
 refine eN func16 rfl ntmps16 rfl w0 fun hF=>?_
 unfold pb at h
 refine atr 8 [] rfl<|lnr ph0 rfl<|art 9 [] rfl ?_
 refine ch h rfl ?_ ?_ <;> intro h
 ·refine att 4 [] rfl ?_
  exact rt hF h
 refine att 7 [] rfl ?_
 refine lin (σ:=Int × Int) (fun s=>[(0,pv0),(1,iV s.1),(5,iV s.2)]) (fun s=>St w0 Φ [] []) (fun m s=>im N p0 m s.1 s.2=some r) (wz (p1 - (p0.length:Int)),0) N h (sx [] []) (fun n1 ih1 s hm=>?_)
 obtain ⟨s1,s2⟩:=s
 have h:im N p0 (n1+1) s1 s2=some r:=hm
 show WT _ _ [(0,pv0),(1,iV s1),(5,iV s2)] (St w0 Φ [] [])
 unfold im at h
 refine atr 5 [] rfl<|lnr ph0 rfl<|la rfl<|en ?_
 refine ch h rfl ?_ ?_ <;> intro h
 ·refine atr 7 [] rfl ?_
  obtain ⟨x1,hx1,h⟩:=bs h
  obtain ⟨cs1,F1,-,g1,hb1,hs1,r1⟩:=ph0.el (a7 hx1).2.2
  obtain ⟨v1,G1,rfl,hq1,h1⟩:=r1
  obtain rfl:=hq1.symm
  refine lia ph0 hx1 rfl<|lhx 0 1 g1 rfl<|la rfl<|qd h (AB N · x1 s1 h1 ·) rfl rfl rfl fun x2 h=>art 7 [] rfl ?_
  refine ch h rfl ?_ ?_ <;> intro h
  ·refine att 4 [] rfl ?_
   exact rt hF h
  refine att 7 [] rfl ?_
  exact lb [] [] (ih1 (_,_) h)
 refine att 6 [] rfl ?_
 exact rt hF h
theorem BD (w0:ag Ψ Φ []) (p0:aa) (p1:Int) (ph0_0:RSl (RI .i64) 1 Ψ pG0_0 pv0_0 p0.Ids) (ph0_1:RSl (RI .i64) 1 Ψ pG0_1 pv0_1 p0.Hits) {r:Int} (h:nD N p0 p1=some r) :
  CB w0 prog 218 [.agg [pv0_0,pv0_1].toArray,iV p1] (iV r):=by
 refine eN func218 rfl ntmps218 rfl w0 fun hF=>?_
 unfold nD at h
 refine sr<|lbx rfl fun b_1=>arr 7 [0,0] rfl<|qd h (pX N · p0.Ids p1 ph0_0 ·) rfl rfl rfl fun x1 h=>art 8 [] rfl ?_
 refine ch h rfl ?_ ?_ <;> intro h
 ·refine att 4 [] rfl ?_
  exact rt hF h
 refine atr 6 [1,0] rfl<|qd h (pX N · p0.Hits x1 ph0_1 ·) rfl rfl rfl fun x2 h=>art 8 [] rfl ?_
 refine ch h rfl ?_ ?_ <;> intro h
 ·refine att 4 [] rfl ?_
  exact rt hF h
 refine att 6 [] rfl ?_
 exact rt hF h
theorem y9 (w0:ag Ψ Φ []) (p0:(List aa)) (p1:Int) (ph0:RSl bD 2 Ψ pG0 pv0 p0) {r:Int} (h:nW N p0 p1=some r) :
  CB w0 prog 180 [pv0,iV p1] (iV r):=by
 refine eN func180 rfl ntmps180 rfl w0 fun hF=>?_
 unfold nW at h
 refine atr 8 [] rfl<|lnr ph0 rfl<|art 9 [] rfl ?_
 refine ch h rfl ?_ ?_ <;> intro h
 ·refine att 4 [] rfl ?_
  exact rt hF h
 refine att 7 [] rfl ?_
 refine lin (σ:=Int × Int) (fun s=>[(0,pv0),(1,iV s.1),(5,iV s.2)]) (fun s=>St w0 Φ [] []) (fun m s=>gU N p0 m s.1 s.2=some r) (wz (p1 - (p0.length:Int)),0) N h (sx [] []) (fun n1 ih1 s hm=>?_)
 obtain ⟨s1,s2⟩:=s
 have h:gU N p0 (n1+1) s1 s2=some r:=hm
 show WT _ _ [(0,pv0),(1,iV s1),(5,iV s2)] (St w0 Φ [] [])
 unfold gU at h
 refine atr 5 [] rfl<|lnr ph0 rfl<|la rfl<|en ?_
 refine ch h rfl ?_ ?_ <;> intro h
 ·refine atr 7 [] rfl ?_
  obtain ⟨x1,hx1,h⟩:=bs h
  obtain ⟨cs1,F1,-,g1,hb1,hs1,r1⟩:=ph0.el (a7 hx1).2.2
  obtain ⟨v1,G1,v2,G2,rfl,rfl,h1,h2⟩:=r1
  refine lia ph0 hx1 rfl<|lhx 0 2 g1 rfl<|la rfl<|qd h (BD N · x1 s1 h1 h2 ·) rfl rfl rfl fun x2 h=>art 7 [] rfl ?_
  refine ch h rfl ?_ ?_ <;> intro h
  ·refine att 4 [] rfl ?_
   exact rt hF h
  refine att 7 [] rfl ?_
  exact lb [] [] (ih1 (_,_) h)
 refine att 6 [] rfl ?_
 exact rt hF h
theorem vz (w0:ag Ψ Φ []) (p0:ab) (p1:Int) (ph0_0:RSl bD 2 Ψ pG0_0 pv0_0 p0.Toks) {r:Int} (h:jI N p0 p1=some r) :
  CB w0 prog 135 [.agg [pv0_0].toArray,iV p1] (iV r):=by
 refine eN func135 rfl ntmps135 rfl w0 fun hF=>?_
 unfold jI at h
 refine sr ?_
 refine ln (jO (C:=#[pv0_0]) rfl rfl) rfl (fun b_1=>?_)
 refine arr 7 [0,0] rfl<|qd h (y9 N · p0.Toks p1 ph0_0 ·) rfl rfl rfl fun x1 h=>art 8 [] rfl ?_
 refine ch h rfl ?_ ?_ <;> intro h
 ·refine att 4 [] rfl ?_
  exact rt hF h
 refine att 6 [] rfl ?_
 exact rt hF h
theorem uX (w0:ag Ψ Φ []) (p0:(List ab)) (p1:Int) (ph0:RSl cg 1 Ψ pG0 pv0 p0) {r:Int} (h:kr N p0 p1=some r) :
  CB w0 prog 82 [pv0,iV p1] (iV r):=by
 refine eN func82 rfl ntmps82 rfl w0 fun hF=>?_
 unfold kr at h
 refine atr 8 [] rfl<|lnr ph0 rfl<|art 9 [] rfl ?_
 refine ch h rfl ?_ ?_ <;> intro h
 ·refine att 4 [] rfl ?_
  exact rt hF h
 refine att 7 [] rfl ?_
 refine lin (σ:=Int × Int) (fun s=>[(0,pv0),(1,iV s.1),(5,iV s.2)]) (fun s=>St w0 Φ [] []) (fun m s=>fy N p0 m s.1 s.2=some r) (wz (p1 - (p0.length:Int)),0) N h (sx [] []) (fun n1 ih1 s hm=>?_)
 obtain ⟨s1,s2⟩:=s
 have h:fy N p0 (n1+1) s1 s2=some r:=hm
 show WT _ _ [(0,pv0),(1,iV s1),(5,iV s2)] (St w0 Φ [] [])
 unfold fy at h
 refine atr 5 [] rfl<|lnr ph0 rfl<|la rfl<|en ?_
 refine ch h rfl ?_ ?_ <;> intro h
 ·refine atr 7 [] rfl ?_
  obtain ⟨x1,hx1,h⟩:=bs h
  obtain ⟨cs1,F1,-,g1,hb1,hs1,r1⟩:=ph0.el (a7 hx1).2.2
  obtain ⟨v1,G1,rfl,hq1,h1⟩:=r1
  obtain rfl:=hq1.symm
  refine lia ph0 hx1 rfl<|lhx 0 1 g1 rfl<|la rfl<|qd h (vz N · x1 s1 h1 ·) rfl rfl rfl fun x2 h=>art 7 [] rfl ?_
  refine ch h rfl ?_ ?_ <;> intro h
  ·refine att 4 [] rfl ?_
   exact rt hF h
  refine att 7 [] rfl ?_
  exact lb [] [] (ih1 (_,_) h)
 refine att 6 [] rfl ?_
 exact rt hF h
theorem Bp (w0:ag Ψ Φ []) (p0:aG) (p1:Int) (ph0_0:RSl cg 1 Ψ pG0_0 pv0_0 p0.Levels) {r:Int} (h:nF N p0 p1=some r) :
  CB w0 prog 40 [.agg [pv0_0].toArray,iV p1] (iV r):=by
 refine eN func40 rfl ntmps40 rfl w0 fun hF=>?_
 unfold nF at h
 refine sr ?_
 refine ln (jO (C:=#[pv0_0]) rfl rfl) rfl (fun b_1=>?_)
 refine arr 7 [0,0] rfl<|qd h (uX N · p0.Levels p1 ph0_0 ·) rfl rfl rfl fun x1 h=>art 8 [] rfl ?_
 refine ch h rfl ?_ ?_ <;> intro h
 ·refine att 4 [] rfl ?_
  exact rt hF h
 refine att 6 [] rfl ?_
 exact rt hF h
theorem xN (w0:ag Ψ Φ []) (p0:(List aG)) (p1:Int) (ph0:RSl fm 1 Ψ pG0 pv0 p0) {r:Int} (h:od N p0 p1=some r) :
  CB w0 prog 17 [pv0,iV p1] (iV r):=by
 refine eN func17 rfl ntmps17 rfl w0 fun hF=>?_
 unfold od at h
 refine atr 8 [] rfl<|lnr ph0 rfl<|art 9 [] rfl ?_
 refine ch h rfl ?_ ?_ <;> intro h
 ·refine att 4 [] rfl ?_
  exact rt hF h
 refine att 7 [] rfl ?_
 refine lin (σ:=Int × Int) (fun s=>[(0,pv0),(1,iV s.1),(5,iV s.2)]) (fun s=>St w0 Φ [] []) (fun m s=>iq N p0 m s.1 s.2=some r) (wz (p1 - (p0.length:Int)),0) N h (sx [] []) (fun n1 ih1 s hm=>?_)
 obtain ⟨s1,s2⟩:=s
 have h:iq N p0 (n1+1) s1 s2=some r:=hm
 show WT _ _ [(0,pv0),(1,iV s1),(5,iV s2)] (St w0 Φ [] [])
 unfold iq at h
 refine atr 5 [] rfl<|lnr ph0 rfl<|la rfl<|en ?_
 refine ch h rfl ?_ ?_ <;> intro h
 ·refine atr 7 [] rfl ?_
  obtain ⟨x1,hx1,h⟩:=bs h
  obtain ⟨cs1,F1,-,g1,hb1,hs1,r1⟩:=ph0.el (a7 hx1).2.2
  obtain ⟨v1,G1,rfl,hq1,h1⟩:=r1
  obtain rfl:=hq1.symm
  refine lia ph0 hx1 rfl<|lhx 0 1 g1 rfl<|la rfl<|qd h (Bp N · x1 s1 h1 ·) rfl rfl rfl fun x2 h=>art 7 [] rfl ?_
  refine ch h rfl ?_ ?_ <;> intro h
  ·refine att 4 [] rfl ?_
   exact rt hF h
  refine att 7 [] rfl ?_
  exact lb [] [] (ih1 (_,_) h)
 refine att 6 [] rfl ?_
 exact rt hF h
theorem Bb (w0:ag Ψ Φ []) (p0:aK) (p1:Int) (ph0_0:RSl dv 1 Ψ pG0_0 pv0_0 p0.Alphas) (ph0_1:RSl fm 1 Ψ pG0_1 pv0_1 p0.Rules) {r:Int} (h:qA N p0 p1=some r) :
  CB w0 prog 5 [.agg [pv0_0,pv0_1].toArray,iV p1] (iV r):=by
 refine eN func5 rfl ntmps5 rfl w0 fun hF=>?_
 unfold qA at h
 refine sr<|lbx rfl fun b_1=>arr 7 [0,0] rfl<|qd h (zb N · p0.Alphas p1 ph0_0 ·) rfl rfl rfl fun x1 h=>art 8 [] rfl ?_
 refine ch h rfl ?_ ?_ <;> intro h
 ·refine att 4 [] rfl ?_
  exact rt hF h
 refine atr 6 [1,0] rfl<|qd h (xN N · p0.Rules x1 ph0_1 ·) rfl rfl rfl fun x2 h=>art 8 [] rfl ?_
 refine ch h rfl ?_ ?_ <;> intro h
 ·refine att 4 [] rfl ?_
  exact rt hF h
 refine att 6 [] rfl ?_
 exact rt hF h
theorem xQ (w0:ag Ψ Φ []) (p0:(List aQ)) (p1:Int) (ph0:RSl aF 3 Ψ pG0 pv0 p0) {r:Int} (h:oE N p0 p1=some r) :
  CB w0 prog 136 [pv0,iV p1] (iV r):=by
 refine eN func136 rfl ntmps136 rfl w0 fun hF=>?_
 unfold oE at h
 refine atr 8 [] rfl<|lnr ph0 rfl<|art 9 [] rfl ?_
 refine ch h rfl ?_ ?_ <;> intro h
 ·refine att 4 [] rfl ?_
  exact rt hF h
 refine att 7 [] rfl ?_
 refine lin (σ:=Int × Int) (fun s=>[(0,pv0),(1,iV s.1),(5,iV s.2)]) (fun s=>St w0 Φ [] []) (fun m s=>ib N p0 m s.1 s.2=some r) (wz (p1 - (p0.length:Int)),0) N h (sx [] []) (fun n1 ih1 s hm=>?_)
 obtain ⟨s1,s2⟩:=s
 have h:ib N p0 (n1+1) s1 s2=some r:=hm
 show WT _ _ [(0,pv0),(1,iV s1),(5,iV s2)] (St w0 Φ [] [])
 unfold ib at h
 refine atr 5 [] rfl<|lnr ph0 rfl<|la rfl<|en ?_
 refine ch h rfl ?_ ?_ <;> intro h
 ·refine atr 7 [] rfl ?_
  obtain ⟨x1,hx1,h⟩:=bs h
  obtain ⟨cs1,F1,-,g1,hb1,hs1,r1⟩:=ph0.el (a7 hx1).2.2
  obtain ⟨rfl,-⟩:=r1
  refine lia ph0 hx1 rfl<|lhx 0 3 g1 rfl<|la rfl<|qc h (tF N · x1 s1 ·) rfl rfl rfl fun x2 h=>art 7 [] rfl ?_
  refine ch h rfl ?_ ?_ <;> intro h
  ·refine att 4 [] rfl ?_
   exact rt hF h
  refine att 7 [] rfl ?_
  exact lb [] [] (ih1 (_,_) h)
 refine att 6 [] rfl ?_
 exact rt hF h
theorem y8 (w0:ag Ψ Φ []) (p0:aw) (p1:Int) (ph0_0:RSl aF 3 Ψ pG0_0 pv0_0 p0.Fields) {r:Int} (h:nR N p0 p1=some r) :
  CB w0 prog 83 [.agg [.string p0.Kind,pv0_0].toArray,iV p1] (iV r):=by
 refine eN func83 rfl ntmps83 rfl w0 fun hF=>?_
 unfold nR at h
 refine sr<|lbx rfl fun b_1=>arr 7 [0,0] rfl<|lq (fS f7 rfl rfl) rfl<|art 9 [] rfl ?_
 refine ch h rfl ?_ ?_ <;> intro h
 ·refine att 4 [] rfl ?_
  exact rt hF h
 refine atr 6 [1,0] rfl<|qd h (xQ N · p0.Fields (wz (p1 - (p0.Kind.size:Int))) ph0_0 ·) rfl rfl rfl fun x1 h=>art 8 [] rfl ?_
 refine ch h rfl ?_ ?_ <;> intro h
 ·refine att 4 [] rfl ?_
  exact rt hF h
 refine att 6 [] rfl ?_
 exact rt hF h
theorem zl (w0:ag Ψ Φ []) (p0:ao) (p1:Int) (ph0_0:RSl aF 3 Ψ pG0_0 pv0_0 p0.F.Fields) {r:Int} (h:lg N p0 p1=some r) :
  CB w0 prog 41 [.agg [iV p0.Id,.string p0.F.Kind,pv0_0].toArray,iV p1] (iV r):=by
 refine eN func41 rfl ntmps41 rfl w0 fun hF=>?_
 unfold lg at h
 refine sr<|lbx rfl fun b_1=>arr 7 [1,2] rfl<|qd h (y8 N · p0.F p1 ph0_0 ·) rfl rfl rfl fun x1 h=>art 8 [] rfl ?_
 refine ch h rfl ?_ ?_ <;> intro h
 ·refine att 4 [] rfl ?_
  exact rt hF h
 refine att 6 [] rfl ?_
 exact rt hF h
theorem wC (w0:ag Ψ Φ []) (p0:(List ao)) (p1:Int) (ph0:RSl bo 3 Ψ pG0 pv0 p0) {r:Int} (h:lQ N p0 p1=some r) :
  CB w0 prog 18 [pv0,iV p1] (iV r):=by
 refine eN func18 rfl ntmps18 rfl w0 fun hF=>?_
 unfold lQ at h
 refine atr 8 [] rfl<|lnr ph0 rfl<|art 9 [] rfl ?_
 refine ch h rfl ?_ ?_ <;> intro h
 ·refine att 4 [] rfl ?_
  exact rt hF h
 refine att 7 [] rfl ?_
 refine lin (σ:=Int × Int) (fun s=>[(0,pv0),(1,iV s.1),(5,iV s.2)]) (fun s=>St w0 Φ [] []) (fun m s=>gq N p0 m s.1 s.2=some r) (wz (p1 - (p0.length:Int)),0) N h (sx [] []) (fun n1 ih1 s hm=>?_)
 obtain ⟨s1,s2⟩:=s
 have h:gq N p0 (n1+1) s1 s2=some r:=hm
 show WT _ _ [(0,pv0),(1,iV s1),(5,iV s2)] (St w0 Φ [] [])
 unfold gq at h
 refine atr 5 [] rfl<|lnr ph0 rfl<|la rfl<|en ?_
 refine ch h rfl ?_ ?_ <;> intro h
 ·refine atr 7 [] rfl ?_
  obtain ⟨x1,hx1,h⟩:=bs h
  obtain ⟨cs1,F1,-,g1,hb1,hs1,r1⟩:=ph0.el (a7 hx1).2.2
  obtain ⟨v1,G1,rfl,hq1,h1⟩:=r1
  obtain rfl:=hq1.symm
  refine lia ph0 hx1 rfl<|lhx 0 3 g1 rfl<|la rfl<|qd h (zl N · x1 s1 h1 ·) rfl rfl rfl fun x2 h=>art 7 [] rfl ?_
  refine ch h rfl ?_ ?_ <;> intro h
  ·refine att 4 [] rfl ?_
   exact rt hF h
  refine att 7 [] rfl ?_
  exact lb [] [] (ih1 (_,_) h)
 refine att 6 [] rfl ?_
 exact rt hF h
theorem wk (w0:ag Ψ Φ []) (p0:ae) (p1:Int) (ph0_0:RSl bo 3 Ψ pG0_0 pv0_0 p0.Items) {r:Int} (h:lT N p0 p1=some r) :
  CB w0 prog 6 [.agg [pv0_0,iV p0.Next].toArray,iV p1] (iV r):=by
 refine eN func6 rfl ntmps6 rfl w0 fun hF=>?_
 unfold lT at h
 refine sr<|lbx rfl fun b_1=>arr 7 [0,0] rfl<|qd h (wC N · p0.Items p1 ph0_0 ·) rfl rfl rfl fun x1 h=>art 8 [] rfl ?_
 refine ch h rfl ?_ ?_ <;> intro h
 ·refine att 4 [] rfl ?_
  exact rt hF h
 refine att 6 [] rfl ?_
 exact rt hF h
theorem bV  (w0:ag Ψ Φ []) (p0:Int) (p1:Int) (p2:Int)  {r:Bool} (h:cW N p0 p1 p2=some r) :
  CB w0 prog 45 [iV p0,iV p1,iV p2] (.bool r):=by
 refine eN func45 rfl ntmps45 rfl w0 fun hF=>?_
 unfold cW at h
 refine atr 10 [] rfl ?_
 obtain ⟨b1,hb_1,h⟩:=bs h
 refine WL.cutN 4 [(14,.bool b1),(6,.bool false)] ?_ (fun K=>?_)
 rotate_left
 ·refine sp 10 hb_1 rfl (fun hb_1=>?_) fun hb_1=>?_
  ·refine arr 4 [] rfl ?_
   cases hb_1
   exact ku K
  ·refine arr 4 [] rfl ?_
   cases hb_1
   exact ku K
 refine la rfl<|en ?_
 exact rt hF h
theorem mT  (w0:ag Ψ Φ []) (p0:Int)  {r:Bool} (h:gD N p0=some r) :
  CB w0 prog 89 [.int .u8 p0] (.bool r):=by
 refine eN func89 rfl ntmps89 rfl w0 fun hF=>?_
 unfold gD at h
 refine atr 7 [] rfl<|lq (vi GX Hb rfl) rfl<|qc h (bV N · (wz p0) 97 122 ·) rfl rfl rfl fun x1 h=>la rfl ?_
 obtain ⟨b1,hb_1,h⟩:=bs h
 refine WL.cutN 4 [(10,.bool b1),(0,.int .u8 p0),(2,.bool false)] ?_ (fun K=>?_)
 rotate_left
 ·refine sp 6 hb_1 rfl (fun hb_1=>?_) fun hb_1=>?_
  ·refine arr 4 [] rfl ?_
   cases hb_1
   exact ku K
  ·refine ly rfl rfl<|la rfl<|ly rfl rfl<|lq (vi GX Hb rfl) rfl<|ly rfl rfl<|qc hb_1 (bV N · (wz p0) 48 57 ·) rfl rfl rfl fun x2 hb_1=>la rfl ?_
   cases hb_1
   exact ku K
 refine la rfl ?_
 obtain ⟨b2,hb_2,h⟩:=bs h
 refine WL.cutN 3 [(14,.bool b2),(2,.bool false)] ?_ (fun K=>?_)
 rotate_left
 ·refine sp 11 hb_2 rfl (fun hb_2=>?_) fun hb_2=>?_
  ·refine arr 3 [] rfl ?_
   cases hb_2
   exact ku K
  ·refine arr 3 [] rfl ?_
   cases hb_2
   exact ku K
 refine la rfl<|en ?_
 exact rt hF h
theorem eO  (w0:ag Ψ Φ []) (p0:ByteArray)  {r:Bool} (h:dF N p0=some r) :
  CB w0 prog 44 [.string p0] (.bool r):=by
 refine eN func44 rfl ntmps44 rfl w0 fun hF=>?_
 unfold dF at h
 refine att 10 [] rfl ?_
 refine lin (σ:=Int) (fun s=>[(0,.string p0),(3,iV s)]) (fun s=>St w0 Φ [] []) (fun m s=>e8 N p0 m s=some r) (0) N h (sx [] []) (fun n1 ih1 s hm=>?_)
 revert hm; revert s; intro s1 hm
 have h:e8 N p0 (n1+1) s1=some r:=hm
 show WT _ _ [(0,.string p0),(3,iV s1)] (St w0 Φ [] [])
 unfold e8 at h
 refine atr 5 [] rfl<|lq (fS f7 rfl rfl) rfl<|la rfl<|en ?_
 refine ch h rfl ?_ ?_ <;> intro h
 ·refine atr 7 [] rfl ?_
  obtain ⟨y1,hy1,h⟩:=bs h
  refine lq (jq f7 rfl rfl hy1) rfl<|qc h (mT N · (y1.toNat:Int) ·) rfl rfl rfl fun x1 h=>arr 2 [] rfl ?_
  obtain ⟨b1,hb_1,h⟩:=bs h
  refine WL.cutN 11 [(26,.bool b1),(0,.string p0),(3,iV s1)] ?_ (fun K=>?_)
  rotate_left
  ·refine sp 15 hb_1 rfl (fun hb_1=>?_) fun hb_1=>?_
   ·refine arr 11 [] rfl ?_
    cases hb_1
    exact ku K
   ·refine arr 3 [] rfl ?_
    obtain ⟨b2,hb_2,hb_1⟩:=bs hb_1
    refine WL.cutN 7 [(25,.bool b2),(0,.string p0),(3,iV s1),(15,.bool false)] ?_ (fun K=>?_)
    rotate_left
    ·refine sp 18 hb_2 rfl (fun hb_2=>?_) fun hb_2=>?_
     ·refine arr 2 [] rfl<|ly rfl rfl ?_
      obtain ⟨y2,hy2,hb_2⟩:=bs hb_2
      refine lq (jq f7 rfl rfl hy2) rfl<|ly rfl rfl<|lq (vi GX Hb rfl) rfl<|ly rfl rfl<|qc hb_2 (bV N · (wz (y2.toNat:Int)) 97 122 ·) rfl rfl rfl fun x2 hb_2=>arr 2 [] rfl ?_
      cases hb_2
      exact ku K
     ·refine arr 7 [] rfl ?_
      cases hb_2
      exact ku K
    refine la rfl ?_
    cases hb_1
    exact ku K
  refine en ?_
  refine ch h rfl ?_ ?_ <;> intro h
  ·refine att 4 [] rfl ?_
   exact rt hF h
  refine att 7 [] rfl ?_
  exact lb [] [] (ih1 _ h)
 refine atr 4 [] rfl<|lq (fS f7 rfl rfl) rfl<|qc h (bV N · (p0.size:Int) 1 12 ·) rfl rfl rfl fun x3 h=>la rfl<|en ?_
 exact rt hF h
theorem qY (w0:ag Ψ Φ []) (p0:(List ByteArray)) (p1:ByteArray) (ph0:RSl RS 1 Ψ pG0 pv0 p0) {r:Bool} (h:lI N p0 p1=some r) :
  CB w0 prog 138 [pv0,.string p1] (.bool r):=by
 refine eN func138 rfl ntmps138 rfl w0 fun hF=>?_
 unfold lI at h
 refine att 10 [] rfl ?_
 refine lin (σ:=Int) (fun s=>[(0,pv0),(1,.string p1),(5,iV s)]) (fun s=>St w0 Φ [] []) (fun m s=>gP N p0 p1 m s=some r) (0) N h (sx [] []) (fun n1 ih1 s hm=>?_)
 revert hm; revert s; intro s1 hm
 have h:gP N p0 p1 (n1+1) s1=some r:=hm
 show WT _ _ [(0,pv0),(1,.string p1),(5,iV s1)] (St w0 Φ [] [])
 unfold gP at h
 refine atr 5 [] rfl<|lnr ph0 rfl<|la rfl<|en ?_
 refine ch h rfl ?_ ?_ <;> intro h
 ·refine atr 7 [] rfl ?_
  obtain ⟨x1,hx1,h⟩:=bs h
  obtain ⟨cs1,F1,-,g1,hb1,hs1,r1⟩:=ph0.el (a7 hx1).2.2
  obtain ⟨rfl,-⟩:=r1
  refine lia ph0 hx1 rfl<|lhx 0 0 g1 rfl<|art 3 [] rfl ?_
  refine ch h rfl ?_ ?_ <;> intro h
  ·refine att 4 [] rfl ?_
   exact rt hF h
  refine att 7 [] rfl ?_
  exact lb [] [] (ih1 _ h)
 refine att 5 [] rfl ?_
 exact rt hF h
theorem yK (w0:ag Ψ Φ []) (p0:aq) (ph0_0:RSl cv 5 Ψ pG0_0 pv0_0 p0.Args) {r:(List ByteArray)} (h:oR N p0=some r) :
  Calls prog 137 [.agg [.string p0.Kind,pv0_0,.bool p0.Not].toArray].toArray w0.w (aS Φ w0.w [] (fun Φ' Fs v=>∃ (sr_0_0:Value),v=sr_0_0∧Fs=[ob sr_0_0]∧OSl RS 9 1 Φ' [] sr_0_0 r)):=by
 refine eN func137 rfl ntmps137 rfl w0 fun hF=>?_
 unfold oR at h
 refine sr<|lbx rfl fun b_1=>arr 4 [] rfl<|le' (ko RS.lasts ru FR rfl rfl) rfl ?_
 rintro v1 Φ_1 D1 ⟨fr1,h1⟩
 refine art 8 [] rfl ?_
 refine lin (σ:=Hp × (List ByteArray) × Value × Int) (fun s=>[(1,pQ b_1),(3,s.2.2.1),(4,iV s.2.2.2)]) (fun s=>St w0 s.1 [(b_1,.cells #[.string p0.Kind,pv0_0,.bool p0.Not] 124 (0,0))] [ob s.2.2.1]) (fun m s=>eM N p0 m s.2.1 s.2.2.2=some r∧(OSl RS 9 1 s.1 [] s.2.2.1 s.2.1)) (Φ_1,([]:List ByteArray),v1,0) N ⟨h,h1⟩ (sx [0] [0]) (fun n1 ih1 s hm=>?_)
 obtain ⟨Φ_2,s1,u1,s2⟩:=s
 obtain ⟨h,k1⟩:=hm
 dsimp only at h k1 ⊢
 unfold eM at h
 refine atr 6 [1,0] rfl<|lnr ph0_0 rfl<|la rfl<|en ?_
 refine ch h rfl ?_ ?_ <;> intro h
 ·refine atr 8 [1,0] rfl ?_
  obtain ⟨x1,hx1,h⟩:=bs h
  obtain ⟨cs1,F1,-,g1,hb1,hs1,r1⟩:=ph0_0.el (a7 hx1).2.2
  obtain ⟨rfl,-⟩:=r1
  refine lia ph0_0 hx1 rfl<|lf zQ rfl rfl rfl<|lhx 0 0 g1 rfl<|arr 2 [] rfl ?_
  obtain ⟨b1,hb_1,h⟩:=bs h
  refine WL.cutN 10 [(30,.bool b1),(1,pQ b_1),(3,u1),(4,iV s2)] ?_ (fun K=>?_)
  rotate_left
  ·refine sp 20 hb_1 rfl (fun hb_1=>?_) fun hb_1=>?_
   ·refine arr 4 [1,0] rfl<|ly rfl rfl ?_
    obtain ⟨x2,hx2,hb_1⟩:=bs hb_1
    obtain ⟨cs2,F2,-,g2,hb2,hs2,r2⟩:=ph0_0.el (a7 hx2).2.2
    obtain ⟨rfl,-⟩:=r2
    refine lia ph0_0 hx2 rfl<|ly rfl rfl<|lf Al rfl rfl rfl<|ly rfl rfl<|lhx 1 0 g2 rfl<|ly rfl rfl<|qc hb_1 (qY N · s1 x2.S k1.rsl ·) rfl rfl rfl fun x3 hb_1=>arr 2 [] rfl ?_
    cases hb_1
    exact ku K
   ·refine arr 10 [] rfl ?_
    cases hb_1
    exact ku K
  refine en ?_
  refine ch h rfl ?_ ?_ <;> intro h
  ·refine atr 5 [1,0] rfl ?_
   obtain ⟨x4,hx4,h⟩:=bs h
   obtain ⟨cs3,F3,-,g3,hb3,hs3,r3⟩:=ph0_0.el (a7 hx4).2.2
   obtain ⟨rfl,-⟩:=r3
   refine lia ph0_0 hx4 rfl<|lf Al rfl rfl rfl<|lhx 1 0 g3 rfl ?_
   have rc2:RC RS 1 Φ_2 ([[]]:List (List Nat)) [.string x4.S] ([x4.S]:List ByteArray):=RC.cons (c:=[.string x4.S]) (cells:=[]) ⟨rfl,rfl⟩ rfl (RC.nil _ _ _)
   refine le' (cU (vs:=[(0,.string x4.S)]) (C:=#[.string x4.S]) RS.lasts ru FR rfl rfl rfl rfl (aL CP (aj (C':=[.string x4.S]) rfl rfl rfl rfl rfl (av))) rfl rc2 rfl (by simpa using Kw.nil)) rfl ?_
   rintro v2 Φ_3 D2 ⟨fr2,h2⟩
   replace h2:OSl RS 9 1 Φ_3 [] v2 ([x4.S]:List ByteArray):=by simpa using h2
   replace k1:=k1.f0 fr2
   obtain ⟨x5,hx5,h⟩:=bs h
   refine le' (dG RS.lasts RS.one RS.flat ru J8 rfl rfl rfl rfl rfl (js:=[1]) (Rr:=[ob v2]) rfl k1 h2.rsl hx5) rfl ?_
   rintro v3 Φ_4 D3 ⟨⟨ap1,fr3⟩,h3⟩
   refine art 8 [] rfl ?_
   exact lb [0] [0] (ih1 (_,_,_,_) ⟨h,h3⟩)
  refine att 7 [] rfl ?_
  exact lb [0] [0] (ih1 (_,_,_,_) ⟨h,k1⟩)
 refine att 6 [] rfl ?_
 exact rtg [0] hF (aH.one rfl) rfl (by cases h; exact fun w1 hw=>⟨u1,rfl,rfl,k1⟩)
theorem vM (w0:ag Ψ Φ []) (p0:ac) (ph0_0:RSl bw 3 Ψ pG0_0 pv0_0 p0.Pats) (ph0_1:RSl bm 11 Ψ pG0_1 pv0_1 p0.Conds) (ph0_2:RSl cZ 5 Ψ pG0_2 pv0_2 p0.Acts) {r:(List ByteArray)} (h:jM N p0=some r) :
  Calls prog 84 [.agg [.string p0.Name,iV p0.Sal,pv0_0,pv0_1,pv0_2].toArray].toArray w0.w (aS Φ w0.w [] (fun Φ' Fs v=>∃ (sr_0_0:Value),v=sr_0_0∧Fs=[ob sr_0_0]∧OSl RS 9 1 Φ' [] sr_0_0 r)):=by
 refine eN func84 rfl ntmps84 rfl w0 fun hF=>?_
 unfold jM at h
 refine sr<|lbx rfl fun b_1=>arr 4 [] rfl<|le' (ko RS.lasts ru FR rfl rfl) rfl ?_
 rintro v1 Φ_1 D1 ⟨fr1,h1⟩
 refine art 8 [] rfl ?_
 refine lin (σ:=Hp × (List ByteArray) × Value × Int) (fun s=>[(1,pQ b_1),(3,s.2.2.1),(4,iV s.2.2.2)]) (fun s=>St w0 s.1 [(b_1,.cells #[.string p0.Name,iV p0.Sal,pv0_0,pv0_1,pv0_2] 109 (0,0))] [ob s.2.2.1]) (fun m s=>cl N p0 m s.2.1 s.2.2.2=some r∧(OSl RS 9 1 s.1 [] s.2.2.1 s.2.1)) (Φ_1,([]:List ByteArray),v1,0) N ⟨h,h1⟩ (sx [0] [0]) (fun n1 ih1 s hm=>?_)
 obtain ⟨Φ_2,s1,u1,s2⟩:=s
 obtain ⟨h,k1⟩:=hm
 dsimp only at h k1 ⊢
 unfold cl at h
 refine atr 6 [2,0] rfl<|lnr ph0_0 rfl<|la rfl<|en ?_
 refine ch h rfl ?_ ?_ <;> intro h
 ·refine atr 8 [2,0] rfl ?_
  obtain ⟨x1,hx1,h⟩:=bs h
  obtain ⟨cs1,F1,-,g1,hb1,hs1,r1⟩:=ph0_0.el (a7 hx1).2.2
  obtain ⟨v2,G1,rfl,hq1,h2⟩:=r1
  obtain rfl:=hq1.symm
  refine lia ph0_0 hx1 rfl<|lhx 0 3 g1 rfl<|kab h rfl rfl rfl (fun b z q=>yK N b x1 (h2.y z) q) ?_
  rintro x2 h v3 Φ_3 F2 ⟨ap1,fr2,v4,rfl,rfl,h3⟩
  replace k1:=k1.fr fr2 (ap1.q 0 rfl) dN
  refine art 7 [] rfl ?_
  refine lin (σ:=Hp × (List ByteArray) × Value × Int) (fun s=>[(1,pQ b_1),(3,s.2.2.1),(4,iV s2),(5,v3),(6,iV s.2.2.2)]) (fun s=>St w0 s.1 [(b_1,.cells #[.string p0.Name,iV p0.Sal,pv0_0,pv0_1,pv0_2] 109 (0,0))] [ob v3,ob s.2.2.1]) (fun m s=>cw N p0 s2 (cl N p0 n1) x2 m s.2.1 s.2.2.2=some r∧(OSl RS 9 1 s.1 [] s.2.2.1 s.2.1)∧(OSl RS 9 1 s.1 [] v3 x2)) (Φ_3,s1,u1,0) N ⟨h,k1,h3⟩ (sx [0,0] [0]) (fun n2 ih2 s hm=>?_)
  obtain ⟨Φ_4,s3,u2,s4⟩:=s
  obtain ⟨h,k2,h3⟩:=hm
  dsimp only at h k2 h3 ⊢
  unfold cw at h
  refine atr 5 [] rfl<|lno h3 rfl<|arr 2 [] rfl ?_
  obtain ⟨b1,hb_1,h⟩:=bs h
  refine WL.cutN 8 [(33,.bool b1),(1,pQ b_1),(3,u2),(4,iV s2),(5,v3),(6,iV s4)] ?_ (fun K=>?_)
  rotate_left
  ·refine sp 25 hb_1 rfl (fun hb_1=>?_) fun hb_1=>?_
   ·refine arr 3 [2,0] rfl<|ly rfl rfl ?_
    obtain ⟨x3,hx3,hb_1⟩:=bs hb_1
    obtain ⟨cs2,F3,-,g2,hb2,hs2,r2⟩:=ph0_0.el (a7 hx3).2.2
    obtain ⟨v5,G2,rfl,hq2,h4⟩:=r2
    obtain rfl:=hq2.symm
    refine lia ph0_0 hx3 rfl<|ly rfl rfl<|lf lx rfl rfl rfl<|ly rfl rfl<|lhx 2 0 g2 rfl<|arr 2 [] rfl ?_
    cases hb_1
    exact ku K
   ·refine arr 8 [] rfl ?_
    cases hb_1
    exact ku K
  refine en ?_
  refine ch h rfl ?_ ?_ <;> intro h
  ·refine atr 8 [] rfl ?_
   obtain ⟨x4,hx4,h⟩:=bs h
   obtain ⟨cs3,F4,-,g3,hb3,hs3,r3⟩:=h3.elS (a7 hx4).2.2
   obtain ⟨rfl,-⟩:=r3
   refine lio h3 hx4 rfl<|lgx 0 0 g3 rfl<|qc h (qY N · s3 x4 k2.rsl ·) rfl rfl rfl fun x5 h=>la rfl<|en ?_
   refine ch h rfl ?_ ?_ <;> intro h
   ·refine atr 4 [] rfl ?_
    obtain ⟨x6,hx6,h⟩:=bs h
    obtain ⟨cs4,F5,-,g4,hb4,hs4,r4⟩:=h3.elS (a7 hx6).2.2
    obtain ⟨rfl,-⟩:=r4
    refine lio h3 hx6 rfl<|lgx 0 0 g4 rfl ?_
    have rc2:RC RS 1 Φ_4 ([[]]:List (List Nat)) [.string x6] ([x6]:List ByteArray):=RC.cons (c:=[.string x6]) (cells:=[]) ⟨rfl,rfl⟩ rfl (RC.nil _ _ _)
    refine le' (cU (vs:=[(0,.string x6)]) (C:=#[.string x6]) RS.lasts ru FR rfl rfl rfl rfl (aL CP (aj (C':=[.string x6]) rfl rfl rfl rfl rfl (av))) rfl rc2 rfl (by simpa using Kw.nil)) rfl ?_
    rintro v6 Φ_5 D2 ⟨fr3,h5⟩
    replace h5:OSl RS 9 1 Φ_5 [] v6 ([x6]:List ByteArray):=by simpa using h5
    replace k2:=k2.f0 fr3
    replace h3:=h3.f0 fr3
    obtain ⟨x7,hx7,h⟩:=bs h
    refine le' (dG RS.lasts RS.one RS.flat ru J8 rfl rfl rfl rfl rfl (js:=[2]) (Rr:=[ob v6,ob v3]) rfl k2 h5.rsl hx7) rfl ?_
    rintro v7 Φ_6 D3 ⟨⟨ap2,fr4⟩,h6⟩
    replace h3:=h3.fr fr4 (ap2.q 1 rfl) dN
    refine art 8 [] rfl ?_
    exact lb [2,0] [0] (ih2 (_,_,_,_) ⟨h,h6,h3⟩)
   refine att 7 [] rfl ?_
   exact lb [0,0] [0] (ih2 (_,_,_,_) ⟨h,k2,h3⟩)
  refine att 7 [] rfl ?_
  exact lb [1] [0] (ih1 (_,_,_,_) ⟨h,k2⟩)
 refine att 6 [] rfl ?_
 exact rtg [0] hF (aH.one rfl) rfl (by cases h; exact fun w1 hw=>⟨u1,rfl,rfl,k1⟩)
theorem wZ  (w0:ag Ψ Φ []) (p0:ByteArray)  {r:Bool} (h:m7 N p0=some r) :
  CB w0 prog 184 [.string p0] (.bool r):=by
 refine eN func184 rfl ntmps184 rfl w0 fun hF=>?_
 unfold m7 at h
 refine att 10 [] rfl ?_
 refine lin (σ:=Int) (fun s=>[(0,.string p0),(3,iV s)]) (fun s=>St w0 Φ [] []) (fun m s=>e9 N p0 m s=some r) (0) N h (sx [] []) (fun n1 ih1 s hm=>?_)
 revert hm; revert s; intro s1 hm
 have h:e9 N p0 (n1+1) s1=some r:=hm
 show WT _ _ [(0,.string p0),(3,iV s1)] (St w0 Φ [] [])
 unfold e9 at h
 refine atr 5 [] rfl<|lq (fS f7 rfl rfl) rfl<|la rfl<|en ?_
 refine ch h rfl ?_ ?_ <;> intro h
 ·refine atr 7 [] rfl ?_
  obtain ⟨y1,hy1,h⟩:=bs h
  refine lq (jq f7 rfl rfl hy1) rfl<|qc h (mT N · (y1.toNat:Int) ·) rfl rfl rfl fun x1 h=>la rfl<|en ?_
  refine ch h rfl ?_ ?_ <;> intro h
  ·refine att 4 [] rfl ?_
   exact rt hF h
  refine att 7 [] rfl ?_
  exact lb [] [] (ih1 _ h)
 refine atr 4 [] rfl<|lq (fS f7 rfl rfl) rfl<|art 3 [] rfl ?_
 exact rt hF h
theorem tx  (w0:ag Ψ Φ []) (p0:aQ)  {r:Bool} (h:nt N p0=some r) :
  CB w0 prog 143 [.agg [iV p0.K,iV p0.N,.string p0.S].toArray] (.bool r):=by
 refine eN func143 rfl ntmps143 rfl w0 fun hF=>?_
 unfold nt at h
 refine sr<|lbx rfl fun b_1=>art 14 [0,0] rfl ?_
 refine ch h rfl ?_ ?_ <;> intro h
 ·refine atr 4 [1,0] rfl<|qc h (bV N · p0.N (-1000000000) 1000000000 ·) rfl rfl rfl fun x1 h=>la rfl ?_
  obtain ⟨b1,hb_1,h⟩:=bs h
  refine WL.cutN 4 [(14,.bool b1),(2,.bool false)] ?_ (fun K=>?_)
  rotate_left
  ·refine sp 10 hb_1 rfl (fun hb_1=>?_) fun hb_1=>?_
   ·refine arr 4 [2,0] rfl ?_
    cases hb_1
    exact ku K
   ·refine arr 4 [] rfl ?_
    cases hb_1
    exact ku K
  refine la rfl<|en ?_
  exact rt hF h
 refine att 5 [] rfl ?_
 refine ch h rfl ?_ ?_ <;> intro h
 ·refine atr 4 [2,0] rfl<|qc h (wZ N · p0.S ·) rfl rfl rfl fun x2 h=>la rfl ?_
  obtain ⟨b2,hb_2,h⟩:=bs h
  refine WL.cutN 4 [(24,.bool b2),(2,.bool false)] ?_ (fun K=>?_)
  rotate_left
  ·refine sp 20 hb_2 rfl (fun hb_2=>?_) fun hb_2=>?_
   ·refine arr 4 [1,0] rfl ?_
    cases hb_2
    exact ku K
   ·refine arr 4 [] rfl ?_
    cases hb_2
    exact ku K
  refine la rfl<|en ?_
  exact rt hF h
 refine att 6 [] rfl ?_
 exact rt hF h
theorem xa  (w0:ag Ψ Φ []) (p0:Int)  {r:Bool} (h:lW N p0=some r) :
  CB w0 prog 233 [.int .u8 p0] (.bool r):=by
 refine eN func233 rfl ntmps233 rfl w0 fun hF=>?_
 unfold lW at h
 refine atr 7 [] rfl<|lq (vi GX Hb rfl) rfl<|qc h (bV N · (wz p0) 65 90 ·) rfl rfl rfl fun x1 h=>la rfl<|en ?_
 exact rt hF h
theorem xC  (w0:ag Ψ Φ []) (p0:ByteArray)  {r:Bool} (h:m9 N p0=some r) :
  CB w0 prog 219 [.string p0] (.bool r):=by
 refine eN func219 rfl ntmps219 rfl w0 fun hF=>?_
 unfold m9 at h
 refine att 10 [] rfl ?_
 refine lin (σ:=Int) (fun s=>[(0,.string p0),(3,iV s)]) (fun s=>St w0 Φ [] []) (fun m s=>cL N p0 m s=some r) (0) N h (sx [] []) (fun n1 ih1 s hm=>?_)
 revert hm; revert s; intro s1 hm
 have h:cL N p0 (n1+1) s1=some r:=hm
 show WT _ _ [(0,.string p0),(3,iV s1)] (St w0 Φ [] [])
 unfold cL at h
 refine atr 5 [] rfl<|lq (fS f7 rfl rfl) rfl<|la rfl<|en ?_
 refine ch h rfl ?_ ?_ <;> intro h
 ·refine atr 7 [] rfl ?_
  obtain ⟨y1,hy1,h⟩:=bs h
  refine lq (jq f7 rfl rfl hy1) rfl<|qc h (xa N · (y1.toNat:Int) ·) rfl rfl rfl fun x1 h=>arr 2 [] rfl ?_
  obtain ⟨b1,hb_1,h⟩:=bs h
  refine WL.cutN 10 [(25,.bool b1),(0,.string p0),(3,iV s1)] ?_ (fun K=>?_)
  rotate_left
  ·refine sp 15 hb_1 rfl (fun hb_1=>?_) fun hb_1=>?_
   ·refine arr 3 [] rfl ?_
    obtain ⟨b2,hb_2,hb_1⟩:=bs hb_1
    refine WL.cutN 6 [(24,.bool b2),(0,.string p0),(3,iV s1),(15,.bool true)] ?_ (fun K=>?_)
    rotate_left
    ·refine sp 18 hb_2 rfl (fun hb_2=>?_) fun hb_2=>?_
     ·refine arr 6 [] rfl ?_
      cases hb_2
      exact ku K
     ·refine arr 2 [] rfl<|ly rfl rfl ?_
      obtain ⟨y2,hy2,hb_2⟩:=bs hb_2
      refine lq (jq f7 rfl rfl hy2) rfl<|ly rfl rfl<|qc hb_2 (mT N · (y2.toNat:Int) ·) rfl rfl rfl fun x2 hb_2=>arr 2 [] rfl ?_
      cases hb_2
      exact ku K
    refine la rfl ?_
    cases hb_1
    exact ku K
   ·refine arr 10 [] rfl ?_
    cases hb_1
    exact ku K
  refine en ?_
  refine ch h rfl ?_ ?_ <;> intro h
  ·refine att 4 [] rfl ?_
   exact rt hF h
  refine att 7 [] rfl ?_
  exact lb [] [] (ih1 _ h)
 refine atr 4 [] rfl<|lq (fS f7 rfl rfl) rfl<|qc h (bV N · (p0.size:Int) 1 12 ·) rfl rfl rfl fun x3 h=>la rfl<|en ?_
 exact rt hF h
theorem n9  (w0:ag Ψ Φ []) (p0:bk)  {r:Bool} (h:jP N p0=some r) :
  CB w0 prog 182 [.agg [iV p0.K,.string p0.S,iV p0.V.K,iV p0.V.N,.string p0.V.S].toArray] (.bool r):=by
 refine eN func182 rfl ntmps182 rfl w0 fun hF=>?_
 unfold jP at h
 refine sr<|lbx rfl fun b_1=>arr 6 [2,3] rfl<|lq (cC (vs:=[]) (C:=#[iV 0,iV 0,.string (⟨#[]⟩:ByteArray)]) vY iw rfl (av)) rfl<|lq (CF ky rfl rfl rfl (r:=bc p0.V (⟨0,0,(⟨#[]⟩:ByteArray)⟩:aQ)) rfl) rfl<|art 14 [0,0] rfl ?_
 refine ch h rfl ?_ ?_ <;> intro h
 ·refine atr 4 [1,0] rfl<|qc h (xC N · p0.S ·) rfl rfl rfl fun x1 h=>la rfl ?_
  obtain ⟨b1,hb_1,h⟩:=bs h
  refine WL.cutN 2 [(17,.bool b1),(2,.bool false)] ?_ (fun K=>?_)
  rotate_left
  ·refine sp 15 hb_1 rfl (fun hb_1=>?_) fun hb_1=>?_
   ·refine arr 2 [] rfl ?_
    cases hb_1
    exact ku K
   ·refine arr 2 [] rfl ?_
    cases hb_1
    exact ku K
  refine la rfl<|en ?_
  exact rt hF h
 refine att 5 [] rfl ?_
 refine ch h rfl ?_ ?_ <;> intro h
 ·refine atr 4 [2,3] rfl<|qc h (tx N · p0.V ·) rfl rfl rfl fun x2 h=>la rfl ?_
  obtain ⟨b2,hb_2,h⟩:=bs h
  refine WL.cutN 4 [(27,.bool b2),(2,.bool false)] ?_ (fun K=>?_)
  rotate_left
  ·refine sp 23 hb_2 rfl (fun hb_2=>?_) fun hb_2=>?_
   ·refine arr 4 [1,0] rfl ?_
    cases hb_2
    exact ku K
   ·refine arr 4 [] rfl ?_
    cases hb_2
    exact ku K
  refine la rfl<|en ?_
  exact rt hF h
 refine att 5 [] rfl ?_
 refine ch h rfl ?_ ?_ <;> intro h
 ·refine atr 6 [1,0] rfl ?_
  obtain ⟨b3,hb_3,h⟩:=bs h
  refine WL.cutN 2 [(35,.bool b3),(2,.bool false)] ?_ (fun K=>?_)
  rotate_left
  ·refine sp 33 hb_3 rfl (fun hb_3=>?_) fun hb_3=>?_
   ·refine arr 2 [] rfl ?_
    cases hb_3
    exact ku K
   ·refine arr 2 [] rfl ?_
    cases hb_3
    exact ku K
  refine la rfl<|en ?_
  exact rt hF h
 refine att 6 [] rfl ?_
 exact rt hF h
theorem Bw (w0:ag Ψ Φ []) (p0:aq) (ph0_0:RSl cv 5 Ψ pG0_0 pv0_0 p0.Args) {r:Bool} (h:qa N p0=some r) :
  CB w0 prog 139 [.agg [.string p0.Kind,pv0_0,.bool p0.Not].toArray] (.bool r):=by
 refine eN func139 rfl ntmps139 rfl w0 fun hF=>?_
 unfold qa at h
 refine sr<|lbx rfl fun b_1=>art 8 [] rfl ?_
 refine lin (σ:=Int) (fun s=>[(1,pQ b_1),(3,iV s)]) (fun s=>St w0 Φ [(b_1,.cells #[.string p0.Kind,pv0_0,.bool p0.Not] 124 (0,0))] []) (fun m s=>fF N p0 m s=some r) (0) N h (sx [] [0]) (fun n1 ih1 s hm=>?_)
 revert hm; revert s; intro s1 hm
 have h:fF N p0 (n1+1) s1=some r:=hm
 show WT _ _ [(1,pQ b_1),(3,iV s1)] (St w0 Φ [(b_1,.cells #[.string p0.Kind,pv0_0,.bool p0.Not] 124 (0,0))] [])
 unfold fF at h
 refine atr 6 [1,0] rfl<|lnr ph0_0 rfl<|la rfl<|en ?_
 refine ch h rfl ?_ ?_ <;> intro h
 ·refine atr 8 [1,0] rfl ?_
  obtain ⟨x1,hx1,h⟩:=bs h
  obtain ⟨cs1,F1,-,g1,hb1,hs1,r1⟩:=ph0_0.el (a7 hx1).2.2
  obtain ⟨rfl,-⟩:=r1
  refine lia ph0_0 hx1 rfl<|lhx 0 5 g1 rfl<|qc h (n9 N · x1 ·) rfl rfl rfl fun x2 h=>la rfl<|en ?_
  refine ch h rfl ?_ ?_ <;> intro h
  ·refine att 4 [] rfl ?_
   exact rt hF h
  refine att 7 [] rfl ?_
  exact lb [] [0] (ih1 _ h)
 refine atr 5 [0,0] rfl<|qc h (eO N · p0.Kind ·) rfl rfl rfl fun x3 h=>la rfl ?_
 obtain ⟨b1,hb_1,h⟩:=bs h
 refine WL.cutN 5 [(26,.bool b1)] ?_ (fun K=>?_)
 rotate_left
 ·refine sp 21 hb_1 rfl (fun hb_1=>?_) fun hb_1=>?_
  ·refine arr 2 [1,0] rfl<|ly rfl rfl<|lnr ph0_0 rfl<|arr 2 [] rfl ?_
   cases hb_1
   exact ku K
  ·refine arr 5 [] rfl ?_
   cases hb_1
   exact ku K
 refine la rfl<|en ?_
 exact rt hF h
theorem yn (w0:ag Ψ Φ []) (p0:(List aq)) (ph0:RSl bw 3 Ψ pG0 pv0 p0) {r:Bool} (h:p8 N p0=some r) :
  CB w0 prog 85 [pv0] (.bool r):=by
 refine eN func85 rfl ntmps85 rfl w0 fun hF=>?_
 unfold p8 at h
 refine att 10 [] rfl ?_
 refine lin (σ:=Int) (fun s=>[(0,pv0),(3,iV s)]) (fun s=>St w0 Φ [] []) (fun m s=>dY N p0 m s=some r) (0) N h (sx [] []) (fun n1 ih1 s hm=>?_)
 revert hm; revert s; intro s1 hm
 have h:dY N p0 (n1+1) s1=some r:=hm
 show WT _ _ [(0,pv0),(3,iV s1)] (St w0 Φ [] [])
 unfold dY at h
 refine atr 5 [] rfl<|lnr ph0 rfl<|la rfl<|en ?_
 refine ch h rfl ?_ ?_ <;> intro h
 ·refine atr 9 [] rfl ?_
  obtain ⟨b1,hb_1,h⟩:=bs h
  refine WL.cutN 7 [(19,.bool b1),(0,pv0),(3,iV s1)] ?_ (fun K=>?_)
  rotate_left
  ·refine sp 12 hb_1 rfl (fun hb_1=>?_) fun hb_1=>?_
   ·refine arr 2 [] rfl<|ly rfl rfl ?_
    obtain ⟨x1,hx1,hb_1⟩:=bs hb_1
    obtain ⟨cs1,F1,-,g1,hb1,hs1,r1⟩:=ph0.el (a7 hx1).2.2
    obtain ⟨v1,G1,rfl,hq1,h1⟩:=r1
    obtain rfl:=hq1.symm
    refine lia ph0 hx1 rfl<|ly rfl rfl<|lf lx rfl rfl rfl<|ly rfl rfl<|lhx 2 0 g1 rfl<|arr 2 [] rfl ?_
    cases hb_1
    exact ku K
   ·refine arr 7 [] rfl ?_
    cases hb_1
    exact ku K
  refine en ?_
  refine ch h rfl ?_ ?_ <;> intro h
  ·refine att 4 [] rfl ?_
   exact rt hF h
  refine atr 5 [] rfl ?_
  obtain ⟨x2,hx2,h⟩:=bs h
  obtain ⟨cs2,F2,-,g2,hb2,hs2,r2⟩:=ph0.el (a7 hx2).2.2
  obtain ⟨v2,G2,rfl,hq2,h2⟩:=r2
  obtain rfl:=hq2.symm
  refine lia ph0 hx2 rfl<|lhx 0 3 g2 rfl<|qd h (Bw N · x2 h2 ·) rfl rfl rfl fun x3 h=>arr 2 [] rfl ?_
  obtain ⟨b2,hb_2,h⟩:=bs h
  refine WL.cutN 10 [(36,.bool b2),(0,pv0),(3,iV s1)] ?_ (fun K=>?_)
  rotate_left
  ·refine sp 26 hb_2 rfl (fun hb_2=>?_) fun hb_2=>?_
   ·refine arr 10 [] rfl ?_
    cases hb_2
    exact ku K
   ·refine arr 3 [] rfl ?_
    obtain ⟨b3,hb_3,hb_2⟩:=bs hb_2
    refine WL.cutN 6 [(35,.bool b3),(0,pv0),(3,iV s1),(26,.bool false)] ?_ (fun K=>?_)
    rotate_left
    ·refine sp 29 hb_3 rfl (fun hb_3=>?_) fun hb_3=>?_
     ·refine arr 2 [] rfl<|ly rfl rfl ?_
      obtain ⟨x4,hx4,hb_3⟩:=bs hb_3
      obtain ⟨cs3,F3,-,g3,hb3,hs3,r3⟩:=ph0.el (a7 hx4).2.2
      obtain ⟨v3,G3,rfl,hq3,h3⟩:=r3
      obtain rfl:=hq3.symm
      refine lia ph0 hx4 rfl<|ly rfl rfl<|lf lx rfl rfl rfl<|ly rfl rfl<|lhx 2 0 g3 rfl<|ly rfl rfl<|la rfl ?_
      cases hb_3
      exact ku K
     ·refine arr 6 [] rfl ?_
      cases hb_3
      exact ku K
    refine la rfl ?_
    cases hb_2
    exact ku K
  refine la rfl ?_
  obtain ⟨b4,hb_4,h⟩:=bs h
  refine WL.cutN 19 [(56,.bool b4),(0,pv0),(3,iV s1)] ?_ (fun K=>?_)
  rotate_left
  ·refine sp 37 hb_4 rfl (fun hb_4=>?_) fun hb_4=>?_
   ·refine arr 19 [] rfl ?_
    cases hb_4
    exact ku K
   ·refine arr 3 [] rfl ?_
    obtain ⟨b5,hb_5,hb_4⟩:=bs hb_4
    refine WL.cutN 7 [(47,.bool b5),(0,pv0),(3,iV s1),(37,.bool false)] ?_ (fun K=>?_)
    rotate_left
    ·refine sp 40 hb_5 rfl (fun hb_5=>?_) fun hb_5=>?_
     ·refine arr 3 [] rfl<|ly rfl rfl ?_
      obtain ⟨x5,hx5,hb_5⟩:=bs hb_5
      obtain ⟨cs4,F4,-,g4,hb4,hs4,r4⟩:=ph0.el (a7 hx5).2.2
      obtain ⟨v4,G4,rfl,hq4,h4⟩:=r4
      obtain rfl:=hq4.symm
      refine lia ph0 hx5 rfl<|ly rfl rfl<|lf lx rfl rfl rfl<|ly rfl rfl<|lhx 2 0 g4 rfl<|ly rfl rfl<|la rfl ?_
      cases hb_5
      exact ku K
     ·refine arr 7 [] rfl ?_
      cases hb_5
      exact ku K
    refine ly rfl rfl<|la rfl ?_
    obtain ⟨b6,hb_6,hb_4⟩:=bs hb_4
    refine WL.cutN 7 [(55,.bool b6),(0,pv0),(3,iV s1),(37,.bool false)] ?_ (fun K=>?_)
    rotate_left
    ·refine sp 48 hb_6 rfl (fun hb_6=>?_) fun hb_6=>?_
     ·refine arr 2 [] rfl<|ly rfl rfl ?_
      obtain ⟨x6,hx6,hb_6⟩:=bs hb_6
      obtain ⟨cs5,F5,-,g5,hb5,hs5,r5⟩:=ph0.el (a7 hx6).2.2
      obtain ⟨v5,G5,rfl,hq5,h5⟩:=r5
      obtain rfl:=hq5.symm
      refine lia ph0 hx6 rfl<|ly rfl rfl<|lf lx rfl rfl rfl<|ly rfl rfl<|lhx 2 0 g5 rfl<|arr 2 [] rfl ?_
      cases hb_6
      exact ku K
     ·refine arr 7 [] rfl ?_
      cases hb_6
      exact ku K
    refine la rfl ?_
    cases hb_4
    exact ku K
  refine en ?_
  refine ch h rfl ?_ ?_ <;> intro h
  ·refine att 4 [] rfl ?_
   exact rt hF h
  refine att 7 [] rfl ?_
  exact lb [] [] (ih1 _ h)
 refine atr 4 [] rfl<|lnr ph0 rfl<|qc h (bV N · (p0.length:Int) 1 6 ·) rfl rfl rfl fun x7 h=>la rfl<|en ?_
 exact rt hF h
theorem xV  (w0:ag Ψ Φ []) (p0:bA)  {r:Bool} (h:nO N p0=some r) :
  CB w0 prog 140 [.agg [iV p0.Op,iV p0.L.K,.string p0.L.S,iV p0.L.V.K,iV p0.L.V.N,.string p0.L.V.S,iV p0.R.K,.string p0.R.S,iV p0.R.V.K,iV p0.R.V.N,.string p0.R.V.S].toArray] (.bool r):=by
 refine eN func140 rfl ntmps140 rfl w0 fun hF=>?_
 unfold nO at h
 refine sr<|lbx rfl fun b_1=>arr 6 [0,0] rfl<|qc h (bV N · p0.Op 1 3 ·) rfl rfl rfl fun x1 h=>la rfl ?_
 obtain ⟨b1,hb_1,h⟩:=bs h
 refine WL.cutN 4 [(10,.bool b1),(1,pQ b_1),(2,.bool false)] ?_ (fun K=>?_)
 rotate_left
 ·refine sp 6 hb_1 rfl (fun hb_1=>?_) fun hb_1=>?_
  ·refine arr 2 [1,5] rfl<|ly rfl rfl<|qc hb_1 (n9 N · p0.L ·) rfl rfl rfl fun x2 hb_1=>la rfl ?_
   cases hb_1
   exact ku K
  ·refine arr 4 [] rfl ?_
   cases hb_1
   exact ku K
 refine la rfl ?_
 obtain ⟨b2,hb_2,h⟩:=bs h
 refine WL.cutN 4 [(15,.bool b2),(1,pQ b_1),(2,.bool false)] ?_ (fun K=>?_)
 rotate_left
 ·refine sp 11 hb_2 rfl (fun hb_2=>?_) fun hb_2=>?_
  ·refine arr 2 [6,5] rfl<|ly rfl rfl<|qc hb_2 (n9 N · p0.R ·) rfl rfl rfl fun x3 hb_2=>la rfl ?_
   cases hb_2
   exact ku K
  ·refine arr 4 [] rfl ?_
   cases hb_2
   exact ku K
 refine la rfl ?_
 obtain ⟨b3,hb_3,h⟩:=bs h
 refine WL.cutN 5 [(21,.bool b3),(1,pQ b_1),(2,.bool false)] ?_ (fun K=>?_)
 rotate_left
 ·refine sp 16 hb_3 rfl (fun hb_3=>?_) fun hb_3=>?_
  ·refine arr 5 [1,0,0] rfl ?_
   cases hb_3
   exact ku K
  ·refine arr 5 [] rfl ?_
   cases hb_3
   exact ku K
 refine la rfl ?_
 obtain ⟨b4,hb_4,h⟩:=bs h
 refine WL.cutN 5 [(27,.bool b4),(2,.bool false)] ?_ (fun K=>?_)
 rotate_left
 ·refine sp 22 hb_4 rfl (fun hb_4=>?_) fun hb_4=>?_
  ·refine arr 5 [6,0,0] rfl ?_
   cases hb_4
   exact ku K
  ·refine arr 5 [] rfl ?_
   cases hb_4
   exact ku K
 refine la rfl<|en ?_
 exact rt hF h
theorem jW (w0:ag Ψ Φ []) (p0:bk) (p1:(List ByteArray)) (ph1:RSl RS 1 Ψ pG1 pv1 p1) {r:Bool} (h:gx N p0 p1=some r) :
  CB w0 prog 141 [.agg [iV p0.K,.string p0.S,iV p0.V.K,iV p0.V.N,.string p0.V.S].toArray,pv1] (.bool r):=by
 refine eN func141 rfl ntmps141 rfl w0 fun hF=>?_
 unfold gx at h
 refine sr<|lbx rfl fun b_1=>arr 8 [0,0] rfl ?_
 obtain ⟨b1,hb_1,h⟩:=bs h
 refine WL.cutN 5 [(13,.bool b1),(4,.bool false)] ?_ (fun K=>?_)
 rotate_left
 ·refine sp 8 hb_1 rfl (fun hb_1=>?_) fun hb_1=>?_
  ·refine arr 5 [] rfl ?_
   cases hb_1
   exact ku K
  ·refine arr 3 [1,0] rfl<|ly rfl rfl<|qd hb_1 (qY N · p1 p0.S ph1 ·) rfl rfl rfl fun x1 hb_1=>la rfl ?_
   cases hb_1
   exact ku K
 refine la rfl<|en ?_
 exact rt hF h
theorem wa (w0:ag Ψ Φ []) (p0:(List bA)) (p1:(List ByteArray)) (ph0:RSl bm 11 Ψ pG0 pv0 p0) (ph1:RSl RS 1 Ψ pG1 pv1 p1) {r:Bool} (h:mt N p0 p1=some r) :
  CB w0 prog 86 [pv0,pv1] (.bool r):=by
 refine eN func86 rfl ntmps86 rfl w0 fun hF=>?_
 unfold mt at h
 refine att 10 [] rfl ?_
 refine lin (σ:=Int) (fun s=>[(0,pv0),(1,pv1),(5,iV s)]) (fun s=>St w0 Φ [] []) (fun m s=>ep N p0 p1 m s=some r) (0) N h (sx [] []) (fun n1 ih1 s hm=>?_)
 revert hm; revert s; intro s1 hm
 have h:ep N p0 p1 (n1+1) s1=some r:=hm
 show WT _ _ [(0,pv0),(1,pv1),(5,iV s1)] (St w0 Φ [] [])
 unfold ep at h
 refine atr 5 [] rfl<|lnr ph0 rfl<|la rfl<|en ?_
 refine ch h rfl ?_ ?_ <;> intro h
 ·refine atr 7 [] rfl ?_
  obtain ⟨x1,hx1,h⟩:=bs h
  obtain ⟨cs1,F1,-,g1,hb1,hs1,r1⟩:=ph0.el (a7 hx1).2.2
  obtain ⟨rfl,-⟩:=r1
  refine lia ph0 hx1 rfl<|lhx 0 11 g1 rfl<|qc h (xV N · x1 ·) rfl rfl rfl fun x2 h=>arr 2 [] rfl ?_
  obtain ⟨b1,hb_1,h⟩:=bs h
  refine WL.cutN 9 [(27,.bool b1),(0,pv0),(1,pv1),(5,iV s1)] ?_ (fun K=>?_)
  rotate_left
  ·refine sp 18 hb_1 rfl (fun hb_1=>?_) fun hb_1=>?_
   ·refine arr 9 [] rfl ?_
    cases hb_1
    exact ku K
   ·refine arr 2 [] rfl<|ly rfl rfl ?_
    obtain ⟨x3,hx3,hb_1⟩:=bs hb_1
    obtain ⟨cs2,F2,-,g2,hb2,hs2,r2⟩:=ph0.el (a7 hx3).2.2
    obtain ⟨rfl,-⟩:=r2
    refine lia ph0 hx3 rfl<|ly rfl rfl<|lf A6 rfl rfl rfl<|ly rfl rfl<|lhx 1 5 g2 rfl<|ly rfl rfl<|la rfl<|ly rfl rfl<|qd hb_1 (jW N · x3.L p1 ph1 ·) rfl rfl rfl fun x4 hb_1=>arr 2 [] rfl ?_
    cases hb_1
    exact ku K
  refine la rfl ?_
  obtain ⟨b2,hb_2,h⟩:=bs h
  refine WL.cutN 9 [(37,.bool b2),(0,pv0),(1,pv1),(5,iV s1)] ?_ (fun K=>?_)
  rotate_left
  ·refine sp 28 hb_2 rfl (fun hb_2=>?_) fun hb_2=>?_
   ·refine arr 9 [] rfl ?_
    cases hb_2
    exact ku K
   ·refine arr 2 [] rfl<|ly rfl rfl ?_
    obtain ⟨x5,hx5,hb_2⟩:=bs hb_2
    obtain ⟨cs3,F3,-,g3,hb3,hs3,r3⟩:=ph0.el (a7 hx5).2.2
    obtain ⟨rfl,-⟩:=r3
    refine lia ph0 hx5 rfl<|ly rfl rfl<|lf zK rfl rfl rfl<|ly rfl rfl<|lhx 6 5 g3 rfl<|ly rfl rfl<|la rfl<|ly rfl rfl<|qd hb_2 (jW N · x5.R p1 ph1 ·) rfl rfl rfl fun x6 hb_2=>arr 2 [] rfl ?_
    cases hb_2
    exact ku K
  refine en ?_
  refine ch h rfl ?_ ?_ <;> intro h
  ·refine att 4 [] rfl ?_
   exact rt hF h
  refine att 7 [] rfl ?_
  exact lb [] [] (ih1 _ h)
 refine atr 4 [] rfl<|lnr ph0 rfl<|art 3 [] rfl ?_
 exact rt hF h
theorem nY  (w0:ag Ψ Φ []) (p0:bk)  {r:Bool} (h:iG N p0=some r) :
  CB w0 prog 234 [.agg [iV p0.K,.string p0.S,iV p0.V.K,iV p0.V.N,.string p0.V.S].toArray] (.bool r):=by
 refine eN func234 rfl ntmps234 rfl w0 fun hF=>?_
 unfold iG at h
 refine sr<|lbx rfl fun b_1=>arr 5 [5] rfl<|qc h (n9 N · p0 ·) rfl rfl rfl fun x1 h=>la rfl ?_
 obtain ⟨b1,hb_1,h⟩:=bs h
 refine WL.cutN 4 [(9,.bool b1),(2,.bool false)] ?_ (fun K=>?_)
 rotate_left
 ·refine sp 5 hb_1 rfl (fun hb_1=>?_) fun hb_1=>?_
  ·refine arr 4 [0,0] rfl ?_
   cases hb_1
   exact ku K
  ·refine arr 4 [] rfl ?_
   cases hb_1
   exact ku K
 refine la rfl<|en ?_
 exact rt hF h
end Go.Proofs.YtiljnppocjgkkaaGreat
