/- Printed by a program of ours: each Go function computes its Lean function. -/
import Derived.Test.YtinomobmcjnfjaaGreatProg
import Derived.Test.YtinomobmcjnfjaaGreatWKeptMod
import Derived.Test.YtinomobmcjnfjaaGreatEP
namespace Go.Proofs.YtinomobmcjnfjaaGreat
open Eng Tryz
open Go.RowKit (Below)
set_option linter.unusedVariables false
set_option linter.unusedSimpArgs false

set_option maxRecDepth 100000
set_option maxHeartbeats 1000000
theorem cc:prog.follows .mixedOrders=true:=by kernel_rfl
theorem xM:Sl prog 22 5 1=true:=by kernel_rfl
theorem H7:T1 prog 5=true:=by kernel_rfl
theorem Aa:Ik prog 5 .u8=true:=by kernel_rfl
theorem Av:Ik prog 3 .i64=true:=by kernel_rfl
theorem Gx:Pl prog 82 #[(0,1),(1,1),(2,1)]=true:=by kernel_rfl
theorem Gb:(prog.info? 82).map (·.zero)=some (some (.agg #[.slice none 0 0,iV 0,iV 0])):=by kernel_rfl
theorem xP:Fld prog 82 2 2=true:=by kernel_rfl
theorem pt:T1 prog 3=true:=by kernel_rfl
theorem wQ:Sz prog 3 1=true:=by kernel_rfl
theorem C9:Fld prog 82 1 1=true:=by kernel_rfl
theorem sN:Fun prog 17=true:=by kernel_rfl
theorem ke:Sl prog 89 9 1=true:=by kernel_rfl
theorem FO:T1 prog 9=true:=by kernel_rfl
theorem jk:(prog.info? 91).map (·.zero)=some (some (.agg #[iV 0,iV 0,.string ⟨#[]⟩])):=by kernel_rfl
theorem tl:Pl prog 91 #[(0,1),(1,1),(2,1)]=true:=by kernel_rfl
theorem qZ:Sz prog 91 3=true:=by kernel_rfl
theorem kz:Tn prog 91 3=true:=by kernel_rfl
theorem xp:madeCells (Value.string ⟨#[]⟩:Value).cells (2*1) = #[.string ⟨#[]⟩,.string ⟨#[]⟩]:=by kernel_rfl
theorem rp:(prog.info? 9).map (·.zero)=some (some (.string ⟨#[]⟩)):=by kernel_rfl
theorem j9:(prog.info? 47).map (·.zero)=some (some (.agg #[.string ⟨#[]⟩,.slice none 0 0])):=by kernel_rfl
theorem xw:madeCells (Value.string ⟨#[]⟩:Value).cells (4*1) = #[.string ⟨#[]⟩,.string ⟨#[]⟩,.string ⟨#[]⟩,.string ⟨#[]⟩]:=by kernel_rfl
theorem zJ:Pl prog 47 #[(0,1),(1,1)]=true:=by kernel_rfl
theorem jL:Sz prog 47 2=true:=by kernel_rfl
theorem BM:Fld prog 47 1 1=true:=by kernel_rfl
theorem E2:Fun prog 40=true:=by kernel_rfl
theorem wH:madeCells (Value.agg #[iV 0,iV 0,.string ⟨#[]⟩]:Value).cells (1*3) = #[iV 0,iV 0,.string ⟨#[]⟩]:=by kernel_rfl
theorem fT:Sl prog 45 91 3=true:=by kernel_rfl
theorem vY:(prog.info? 91).map (fun i=>(i.zero,i.size,i.bytes))=some (some (.agg #[iV 0,iV 0,.string ⟨#[]⟩]),3,32):=by kernel_rfl
theorem yb:Sz prog 45 1=true:=by kernel_rfl
theorem ni:Tn prog 47 2=true:=by kernel_rfl
theorem mK:EqT prog 91 [.i .i64,.i .i64,.s]=true:=by kernel_rfl
theorem lC:Fld prog 37 0 0=true:=by kernel_rfl
theorem Gg:T1 prog 35=true:=by kernel_rfl
theorem nX:Sl prog 35 69 3=true:=by kernel_rfl
theorem xD:Fld prog 69 1 1=true:=by kernel_rfl
theorem DZ:Fun prog 41=true:=by kernel_rfl
theorem pT:Fld prog 69 0 0=true:=by kernel_rfl
theorem pV:Tn prog 37 2=true:=by kernel_rfl
theorem C7:Fun prog 15=true:=by kernel_rfl
theorem uu:Fld prog 37 1 1=true:=by kernel_rfl
theorem ER:Fun prog 42=true:=by kernel_rfl
theorem Gi:Pl prog 69 #[(0,1),(1,2)]=true:=by kernel_rfl
theorem sm:(prog.info? 69).map (·.zero)=some (some (.agg #[iV 0,.string ⟨#[]⟩,.slice none 0 0])):=by kernel_rfl
theorem zA:madeCells (Value.agg #[iV 0,.string ⟨#[]⟩,.slice none 0 0]:Value).cells (1*3) = #[iV 0,.string ⟨#[]⟩,.slice none 0 0]:=by kernel_rfl
theorem DF:(prog.info? 69).map (fun i=>(i.zero,i.size,i.bytes))=some (some (.agg #[iV 0,.string ⟨#[]⟩,.slice none 0 0]),3,48):=by kernel_rfl
theorem DQ:Sz prog 35 1=true:=by kernel_rfl
theorem uI:Fld prog 75 3 3=true:=by kernel_rfl
theorem iz:T1 prog 42=true:=by kernel_rfl
theorem aW:Sl prog 42 3 1=true:=by kernel_rfl
theorem xS:Fld prog 75 2 2=true:=by kernel_rfl
theorem AS:Fun prog 80=true:=by kernel_rfl
theorem kL:Sl prog 140 177 4=true:=by kernel_rfl
theorem A9:Fld prog 177 0 0=true:=by kernel_rfl
theorem Ac:Fld prog 177 1 1=true:=by kernel_rfl
theorem pn:(prog.info? 177).map (·.zero)=some (some (.agg #[.string ⟨#[]⟩,iV 0,iV 0,.string ⟨#[]⟩])):=by kernel_rfl
theorem uT:(prog.info? 177).map (fun i=>(i.zero,i.size,i.bytes))=some (some (.agg #[.string ⟨#[]⟩,iV 0,iV 0,.string ⟨#[]⟩]),4,48):=by kernel_rfl
theorem un:Sl prog 126 152 5=true:=by kernel_rfl
theorem kM:Tn prog 152 5=true:=by kernel_rfl
theorem iu:(prog.info? 152).map (·.zero)=some (some (.agg #[iV 0,.string ⟨#[]⟩,iV 0,iV 0,.string ⟨#[]⟩])):=by kernel_rfl
theorem gy:Sz prog 152 5=true:=by kernel_rfl
theorem wh:Fld prog 152 1 1=true:=by kernel_rfl
theorem ww:Fld prog 152 0 0=true:=by kernel_rfl
theorem BI:Pl prog 177 #[(0,1),(1,3)]=true:=by kernel_rfl
theorem yc:madeCells (Value.agg #[.string ⟨#[]⟩,iV 0,iV 0,.string ⟨#[]⟩]:Value).cells (1*4) = #[.string ⟨#[]⟩,iV 0,iV 0,.string ⟨#[]⟩]:=by kernel_rfl
theorem Bl:Fun prog 53=true:=by kernel_rfl
theorem wy:Fld prog 120 2 2=true:=by kernel_rfl
theorem o7:Sl prog 108 128 3=true:=by kernel_rfl
theorem ve:Tn prog 128 3=true:=by kernel_rfl
theorem zH:Fun prog 134=true:=by kernel_rfl
theorem gB:(prog.info? 3).map (·.zero)=some (some (iV 0)):=by kernel_rfl
theorem kF:Fld prog 128 2 2=true:=by kernel_rfl
theorem iy:madeCells (Value.int .i64 0:Value).cells (1*1) = #[iV 0]:=by kernel_rfl
theorem jw:(prog.info? 3).map (fun i=>(i.zero,i.size,i.bytes))=some (some (iV 0),1,8):=by kernel_rfl
theorem cM:Sl prog 99 103 2=true:=by kernel_rfl
theorem mF:Tn prog 120 5=true:=by kernel_rfl
theorem oW:Fld prog 103 0 0=true:=by kernel_rfl
theorem Df:Fun prog 108=true:=by kernel_rfl
theorem Dk:Fun prog 109=true:=by kernel_rfl
theorem oK:Fld prog 103 1 1=true:=by kernel_rfl
theorem rH:Pl prog 103 #[(0,1),(1,1)]=true:=by kernel_rfl
theorem dJ:(prog.info? 103).map (·.zero)=some (some (.agg #[.slice none 0 0,.slice none 0 0])):=by kernel_rfl
theorem lT:madeCells (Value.agg #[.slice none 0 0,.slice none 0 0]:Value).cells (1*2) = #[.slice none 0 0,.slice none 0 0]:=by kernel_rfl
theorem km:(prog.info? 103).map (fun i=>(i.zero,i.size,i.bytes))=some (some (.agg #[.slice none 0 0,.slice none 0 0]),2,48):=by kernel_rfl
theorem CU:Fun prog 105=true:=by kernel_rfl
theorem Hr:By prog 3 8=true:=by kernel_rfl
theorem nU:Sz prog 42 1=true:=by kernel_rfl
theorem C3:Tn prog 103 2=true:=by kernel_rfl
theorem qy:Sz prog 103 2=true:=by kernel_rfl
theorem lE:Fld prog 34 1 1=true:=by kernel_rfl
theorem DM:T1 prog 32=true:=by kernel_rfl
theorem pZ:Sl prog 32 98 1=true:=by kernel_rfl
theorem gZ:Fld prog 98 0 0=true:=by kernel_rfl
theorem yu:T1 prog 96=true:=by kernel_rfl
theorem mD:Sl prog 96 101 1=true:=by kernel_rfl
theorem dP:Fld prog 101 0 0=true:=by kernel_rfl
theorem vV:T1 prog 99=true:=by kernel_rfl
theorem Ch:Fun prog 71=true:=by kernel_rfl
theorem oA:madeCells (Value.agg #[.slice none 0 0,.slice none 0 0]:Value).cells (0*2) = #[]:=by kernel_rfl
theorem lg:Fld prog 79 0 0=true:=by kernel_rfl
theorem yB:Sl prog 115 4 1=true:=by kernel_rfl
theorem BC:Fun prog 85=true:=by kernel_rfl
theorem gr:Fld prog 34 0 0=true:=by kernel_rfl
theorem uX:T1 prog 31=true:=by kernel_rfl
theorem jR:Sl prog 31 44 1=true:=by kernel_rfl
theorem fw:Fld prog 44 0 0=true:=by kernel_rfl
theorem Eg:Fun prog 86=true:=by kernel_rfl
theorem y9:Sz prog 99 1=true:=by kernel_rfl
theorem Gf:(prog.info? 4).map (·.zero)=some (some (.bool false)):=by kernel_rfl
theorem kg:Fld prog 30 0 0=true:=by kernel_rfl
theorem Ca:T1 prog 27=true:=by kernel_rfl
theorem oG:Sl prog 27 75 4=true:=by kernel_rfl
theorem rQ:Tn prog 75 4=true:=by kernel_rfl
theorem EB:Fun prog 57=true:=by kernel_rfl
theorem Eb:madeCells (Value.bool false:Value).cells (1*1) = #[.bool false]:=by kernel_rfl
theorem Hj:(prog.info? 4).map (fun i=>(i.zero,i.size,i.bytes))=some (some (.bool false),1,1):=by kernel_rfl
theorem tP:Fld prog 26 1 1=true:=by kernel_rfl
theorem DN:T1 prog 24=true:=by kernel_rfl
theorem wx:Sl prog 24 120 5=true:=by kernel_rfl
theorem sd:Fld prog 30 1 1=true:=by kernel_rfl
theorem DC:T1 prog 28=true:=by kernel_rfl
theorem ky:Sl prog 28 79 2=true:=by kernel_rfl
theorem DR:Tn prog 79 2=true:=by kernel_rfl
theorem Ew:Fun prog 58=true:=by kernel_rfl
theorem uL:Pl prog 152 #[(0,1),(1,1),(2,3)]=true:=by kernel_rfl
theorem jY:(prog.info? 128).map (·.zero)=some (some (.agg #[.string ⟨#[]⟩,.slice none 0 0,.bool false])):=by kernel_rfl
theorem Fx:Pl prog 128 #[(0,1),(1,1),(2,1)]=true:=by kernel_rfl
theorem od:Sz prog 128 3=true:=by kernel_rfl
theorem CL:Fun prog 126=true:=by kernel_rfl
theorem B5:madeCells (Value.agg #[iV 0,.string ⟨#[]⟩,iV 0,iV 0,.string ⟨#[]⟩]:Value).cells (1*5) = #[iV 0,.string ⟨#[]⟩,iV 0,iV 0,.string ⟨#[]⟩]:=by kernel_rfl
theorem E3:(prog.info? 152).map (fun i=>(i.zero,i.size,i.bytes))=some (some (.agg #[iV 0,.string ⟨#[]⟩,iV 0,iV 0,.string ⟨#[]⟩]),5,56):=by kernel_rfl
theorem Ek:Sz prog 126 1=true:=by kernel_rfl
theorem yI:madeCells (Value.string ⟨#[]⟩:Value).cells (1*1) = #[.string ⟨#[]⟩]:=by kernel_rfl
theorem EE:(prog.info? 9).map (fun i=>(i.zero,i.size,i.bytes))=some (some (.string ⟨#[]⟩),1,16):=by kernel_rfl
theorem sQ:(prog.info? 154).map (·.zero)=some (some (.agg #[iV 0,iV 0,.string ⟨#[]⟩,iV 0,iV 0,.string ⟨#[]⟩,iV 0,.string ⟨#[]⟩,iV 0,iV 0,.string ⟨#[]⟩])):=by kernel_rfl
theorem Fo:Pl prog 154 #[(0,1),(1,5),(6,5)]=true:=by kernel_rfl
theorem xl:Sz prog 154 11=true:=by kernel_rfl
theorem FB:Tn prog 154 11=true:=by kernel_rfl
theorem t4:(prog.info? 170).map (·.zero)=some (some (.agg #[.string ⟨#[]⟩,iV 0,.string ⟨#[]⟩,iV 0,iV 0,.string ⟨#[]⟩,iV 0,.string ⟨#[]⟩,iV 0,iV 0,.string ⟨#[]⟩])):=by kernel_rfl
theorem Eh:Pl prog 170 #[(0,1),(1,5),(6,5)]=true:=by kernel_rfl
theorem xc:Sz prog 170 11=true:=by kernel_rfl
theorem E4:Tn prog 170 11=true:=by kernel_rfl
theorem wa:Fld prog 170 0 0=true:=by kernel_rfl
theorem Fv:Sz prog 9 1=true:=by kernel_rfl
theorem qH:Fld prog 170 2 6=true:=by kernel_rfl
theorem rq:(prog.info? 158).map (·.zero)=some (some (.agg #[iV 0,.string ⟨#[]⟩,.slice none 0 0,iV 0,.string ⟨#[]⟩])):=by kernel_rfl
theorem EC:madeCells (Value.int .i64 0:Value).cells (8*1) = #[iV 0,iV 0,iV 0,iV 0,iV 0,iV 0,iV 0,iV 0]:=by kernel_rfl
theorem Eo:Pl prog 158 #[(0,1),(1,1),(2,1),(3,1),(4,1)]=true:=by kernel_rfl
theorem rI:Sz prog 158 5=true:=by kernel_rfl
theorem A7:Fld prog 158 0 0=true:=by kernel_rfl
theorem sL:Fld prog 158 3 3=true:=by kernel_rfl
theorem xn:Tn prog 158 5=true:=by kernel_rfl
theorem EZ:madeCells (Value.string ⟨#[]⟩:Value).cells (5*1) = #[.string ⟨#[]⟩,.string ⟨#[]⟩,.string ⟨#[]⟩,.string ⟨#[]⟩,.string ⟨#[]⟩]:=by kernel_rfl
theorem AG:Fld prog 158 1 1=true:=by kernel_rfl
theorem kE:Fld prog 158 2 2=true:=by kernel_rfl
theorem xg:T1 prog 156=true:=by kernel_rfl
theorem CE:Fun prog 133=true:=by kernel_rfl
theorem Bg:madeCells (Value.agg #[.string ⟨#[]⟩,iV 0,.string ⟨#[]⟩,iV 0,iV 0,.string ⟨#[]⟩,iV 0,.string ⟨#[]⟩,iV 0,iV 0,.string ⟨#[]⟩]:Value).cells (1*11) = #[.string ⟨#[]⟩,iV 0,.string ⟨#[]⟩,iV 0,iV 0,.string ⟨#[]⟩,iV 0,.string ⟨#[]⟩,iV 0,iV 0,.string ⟨#[]⟩]:=by kernel_rfl
theorem ta:Sl prog 156 170 11=true:=by kernel_rfl
theorem EP:(prog.info? 170).map (fun i=>(i.zero,i.size,i.bytes))=some (some (.agg #[.string ⟨#[]⟩,iV 0,.string ⟨#[]⟩,iV 0,iV 0,.string ⟨#[]⟩,iV 0,.string ⟨#[]⟩,iV 0,iV 0,.string ⟨#[]⟩]),11,128):=by kernel_rfl
theorem EM:Sz prog 156 1=true:=by kernel_rfl
theorem Am:Fld prog 158 4 4=true:=by kernel_rfl
theorem Fl:madeCells (Value.int .i64 0:Value).cells (4*1) = #[iV 0,iV 0,iV 0,iV 0]:=by kernel_rfl
theorem rB:(prog.info? 120).map (·.zero)=some (some (.agg #[.string ⟨#[]⟩,iV 0,.slice none 0 0,.slice none 0 0,.slice none 0 0])):=by kernel_rfl
theorem Fy:madeCells (Value.int .i64 0:Value).cells (5*1) = #[iV 0,iV 0,iV 0,iV 0,iV 0]:=by kernel_rfl
theorem En:Pl prog 120 #[(0,1),(1,1),(2,1),(3,1),(4,1)]=true:=by kernel_rfl
theorem uZ:Sz prog 120 5=true:=by kernel_rfl
theorem zK:Fun prog 100=true:=by kernel_rfl
theorem tS:madeCells (Value.agg #[.string ⟨#[]⟩,.slice none 0 0,.bool false]:Value).cells (1*3) = #[.string ⟨#[]⟩,.slice none 0 0,.bool false]:=by kernel_rfl
theorem yz:(prog.info? 128).map (fun i=>(i.zero,i.size,i.bytes))=some (some (.agg #[.string ⟨#[]⟩,.slice none 0 0,.bool false]),3,48):=by kernel_rfl
theorem BR:Sz prog 108 1=true:=by kernel_rfl
theorem sM:Fld prog 170 1 1=true:=by kernel_rfl
theorem A5:Fld prog 120 4 4=true:=by kernel_rfl
theorem Bv:madeCells (Value.agg #[iV 0,.string ⟨#[]⟩,.slice none 0 0,iV 0,.string ⟨#[]⟩]:Value).cells (1*5) = #[iV 0,.string ⟨#[]⟩,.slice none 0 0,iV 0,.string ⟨#[]⟩]:=by kernel_rfl
theorem AZ:Sl prog 118 158 5=true:=by kernel_rfl
theorem DV:(prog.info? 158).map (fun i=>(i.zero,i.size,i.bytes))=some (some (.agg #[iV 0,.string ⟨#[]⟩,.slice none 0 0,iV 0,.string ⟨#[]⟩]),5,72):=by kernel_rfl
theorem E7:Sz prog 118 1=true:=by kernel_rfl
theorem w9:Fld prog 154 1 1=true:=by kernel_rfl
theorem w5:Fld prog 154 2 6=true:=by kernel_rfl
theorem Au:Fld prog 120 3 3=true:=by kernel_rfl
theorem Bt:madeCells (Value.agg #[iV 0,iV 0,.string ⟨#[]⟩,iV 0,iV 0,.string ⟨#[]⟩,iV 0,.string ⟨#[]⟩,iV 0,iV 0,.string ⟨#[]⟩]:Value).cells (1*11) = #[iV 0,iV 0,.string ⟨#[]⟩,iV 0,iV 0,.string ⟨#[]⟩,iV 0,.string ⟨#[]⟩,iV 0,iV 0,.string ⟨#[]⟩]:=by kernel_rfl
theorem Cc:Sl prog 117 154 11=true:=by kernel_rfl
theorem Ef:(prog.info? 154).map (fun i=>(i.zero,i.size,i.bytes))=some (some (.agg #[iV 0,iV 0,.string ⟨#[]⟩,iV 0,iV 0,.string ⟨#[]⟩,iV 0,.string ⟨#[]⟩,iV 0,iV 0,.string ⟨#[]⟩]),11,120):=by kernel_rfl
theorem Fm:Sz prog 117 1=true:=by kernel_rfl
theorem tj:(prog.info? 26).map (·.zero)=some (some (.agg #[.string ⟨#[]⟩,.slice none 0 0])):=by kernel_rfl
theorem E1:madeCells (Value.string ⟨#[]⟩:Value).cells (3*1) = #[.string ⟨#[]⟩,.string ⟨#[]⟩,.string ⟨#[]⟩]:=by kernel_rfl
theorem Gz:Pl prog 26 #[(0,1),(1,1)]=true:=by kernel_rfl
theorem u6:Sz prog 26 2=true:=by kernel_rfl
theorem EJ:Fun prog 67=true:=by kernel_rfl
theorem BJ:madeCells (Value.agg #[.string ⟨#[]⟩,iV 0,.slice none 0 0,.slice none 0 0,.slice none 0 0]:Value).cells (1*5) = #[.string ⟨#[]⟩,iV 0,.slice none 0 0,.slice none 0 0,.slice none 0 0]:=by kernel_rfl
theorem Eq:(prog.info? 120).map (fun i=>(i.zero,i.size,i.bytes))=some (some (.agg #[.string ⟨#[]⟩,iV 0,.slice none 0 0,.slice none 0 0,.slice none 0 0]),5,96):=by kernel_rfl
theorem Gc:Sz prog 24 1=true:=by kernel_rfl
theorem zh:Tn prog 26 2=true:=by kernel_rfl
theorem zu:Fun prog 118=true:=by kernel_rfl
theorem zk:Fun prog 106=true:=by kernel_rfl
theorem tH:madeCells (Value.agg #[.string ⟨#[]⟩,iV 0,.slice none 0 0,.slice none 0 0]:Value).cells (1*4) = #[.string ⟨#[]⟩,iV 0,.slice none 0 0,.slice none 0 0]:=by kernel_rfl
theorem lQ:(prog.info? 75).map (·.zero)=some (some (.agg #[.string ⟨#[]⟩,iV 0,.slice none 0 0,.slice none 0 0])):=by kernel_rfl
theorem zD:(prog.info? 75).map (fun i=>(i.zero,i.size,i.bytes))=some (some (.agg #[.string ⟨#[]⟩,iV 0,.slice none 0 0,.slice none 0 0]),4,72):=by kernel_rfl
theorem zc:Sz prog 27 1=true:=by kernel_rfl
theorem Ba:Pl prog 75 #[(0,1),(1,1),(2,1),(3,1)]=true:=by kernel_rfl
theorem qP:Sz prog 75 4=true:=by kernel_rfl
theorem nj:(prog.info? 30).map (·.zero)=some (some (.agg #[.slice none 0 0,.slice none 0 0])):=by kernel_rfl
theorem DL:Pl prog 30 #[(0,1),(1,1)]=true:=by kernel_rfl
theorem o0:Sz prog 30 2=true:=by kernel_rfl
theorem zq:Pl prog 79 #[(0,1),(1,1)]=true:=by kernel_rfl
theorem nG:(prog.info? 79).map (·.zero)=some (some (.agg #[.slice none 0 0,.slice none 0 0])):=by kernel_rfl
theorem yd:Sz prog 79 2=true:=by kernel_rfl
theorem qf:Fld prog 79 1 1=true:=by kernel_rfl
theorem rS:madeCells (Value.agg #[.slice none 0 0,.slice none 0 0]:Value).cells (1*2) = #[.slice none 0 0,.slice none 0 0]:=by kernel_rfl
theorem xX:(prog.info? 79).map (fun i=>(i.zero,i.size,i.bytes))=some (some (.agg #[.slice none 0 0,.slice none 0 0]),2,48):=by kernel_rfl
theorem yj:Sz prog 28 1=true:=by kernel_rfl
theorem uU:Tn prog 30 2=true:=by kernel_rfl
theorem jE:(prog.info? 34).map (·.zero)=some (some (.agg #[.slice none 0 0,.slice none 0 0])):=by kernel_rfl
theorem DA:Pl prog 34 #[(0,1),(1,1)]=true:=by kernel_rfl
theorem kj:Sz prog 34 2=true:=by kernel_rfl
theorem B9:Pl prog 44 #[(0,1)]=true:=by kernel_rfl
theorem uc:(prog.info? 44).map (·.zero)=some (some (.agg #[.slice none 0 0])):=by kernel_rfl
theorem xh:madeCells (Value.agg #[.slice none 0 0]:Value).cells (1*1) = #[.slice none 0 0]:=by kernel_rfl
theorem C8:(prog.info? 44).map (fun i=>(i.zero,i.size,i.bytes))=some (some (.agg #[.slice none 0 0]),1,24):=by kernel_rfl
theorem AP:Sz prog 31 1=true:=by kernel_rfl
theorem Bx:Pl prog 98 #[(0,1)]=true:=by kernel_rfl
theorem oD:(prog.info? 98).map (·.zero)=some (some (.agg #[.slice none 0 0])):=by kernel_rfl
theorem yk:Sz prog 98 1=true:=by kernel_rfl
theorem BK:Pl prog 101 #[(0,1)]=true:=by kernel_rfl
theorem qe:(prog.info? 101).map (·.zero)=some (some (.agg #[.slice none 0 0])):=by kernel_rfl
theorem ur:madeCells (Value.agg #[.slice none 0 0]:Value).cells (1*1) = #[.slice none 0 0]:=by kernel_rfl
theorem yL:(prog.info? 101).map (fun i=>(i.zero,i.size,i.bytes))=some (some (.agg #[.slice none 0 0]),1,24):=by kernel_rfl
theorem AR:Sz prog 96 1=true:=by kernel_rfl
theorem BF:Tn prog 98 1=true:=by kernel_rfl
theorem tK:madeCells (Value.agg #[.slice none 0 0]:Value).cells (1*1) = #[.slice none 0 0]:=by kernel_rfl
theorem zI:(prog.info? 98).map (fun i=>(i.zero,i.size,i.bytes))=some (some (.agg #[.slice none 0 0]),1,24):=by kernel_rfl
theorem zR:Sz prog 32 1=true:=by kernel_rfl
theorem tc:Tn prog 34 2=true:=by kernel_rfl
theorem Cs:madeCells (Value.agg #[iV 0,.string ⟨#[]⟩,.slice none 0 0]:Value).cells (0*3) = #[]:=by kernel_rfl
theorem w8:(prog.info? 37).map (·.zero)=some (some (.agg #[.slice none 0 0,iV 0])):=by kernel_rfl
theorem Er:Fun prog 34=true:=by kernel_rfl
theorem FW:Pl prog 37 #[(0,1),(1,1)]=true:=by kernel_rfl
theorem xV:Sz prog 37 2=true:=by kernel_rfl
theorem Ex:Fun prog 52=true:=by kernel_rfl
theorem FV:Sz prog 44 1=true:=by kernel_rfl
theorem yJ:Fun prog 45=true:=by kernel_rfl
theorem Ff:Tn prog 101 1=true:=by kernel_rfl
theorem Bq:Sz prog 101 1=true:=by kernel_rfl
theorem Ej:Fun prog 59=true:=by kernel_rfl
theorem xZ:Sz prog 69 3=true:=by kernel_rfl
theorem j7:Str prog 9=true:=by kernel_rfl
theorem Ed:Fun prog 61=true:=by kernel_rfl
theorem BQ:Fun prog 92=true:=by kernel_rfl
theorem Ck:Fun prog 120=true:=by kernel_rfl
theorem FP:Bo prog 4=true:=by kernel_rfl
theorem zd:EqT prog 152 [.i .i64,.s,.i .i64,.i .i64,.s]=true:=by kernel_rfl
theorem xB:madeCells (Value.agg #[iV 0,.string ⟨#[]⟩,iV 0,iV 0,.string ⟨#[]⟩]:Value).cells (2*5) = #[iV 0,.string ⟨#[]⟩,iV 0,iV 0,.string ⟨#[]⟩,iV 0,.string ⟨#[]⟩,iV 0,iV 0,.string ⟨#[]⟩]:=by kernel_rfl
theorem wj:Fld prog 120 0 0=true:=by kernel_rfl
theorem FG:Fun prog 91=true:=by kernel_rfl
theorem Eu:Fun prog 97=true:=by kernel_rfl
theorem Ez:Fun prog 30=true:=by kernel_rfl
theorem E8:Fun prog 32=true:=by kernel_rfl
theorem FE:Fun prog 73=true:=by kernel_rfl
theorem yH:(prog.info? 110).map (·.zero)=some (some (.agg #[.slice none 0 0,.slice none 0 0,.slice none 0 0,.slice none 0 0,.slice none 0 0,.slice none 0 0,iV 0,iV 0])):=by kernel_rfl
theorem B8:Fun prog 75=true:=by kernel_rfl
theorem Ea:Pl prog 110 #[(0,1),(1,1),(2,2),(4,1),(5,2),(7,1)]=true:=by kernel_rfl
theorem BO:Sz prog 110 8=true:=by kernel_rfl
theorem BW:Tn prog 110 8=true:=by kernel_rfl
theorem EV:Sz prog 177 4=true:=by kernel_rfl
theorem El:Fun prog 77=true:=by kernel_rfl
theorem Es:Fun prog 78=true:=by kernel_rfl
theorem EQ:Fun prog 50=true:=by kernel_rfl
theorem CH:Fun prog 114=true:=by kernel_rfl
theorem EY:Fun prog 81=true:=by kernel_rfl
theorem Di:Fun prog 137=true:=by kernel_rfl
theorem CZ:Fun prog 138=true:=by kernel_rfl
theorem Ds:Fun prog 139=true:=by kernel_rfl
theorem Dw:Fun prog 116=true:=by kernel_rfl
theorem Dn:Fun prog 117=true:=by kernel_rfl
theorem DP:Fun prog 8=true:=by kernel_rfl
variable {Ψ Φ:Hp} {pv0 pv0_0 pv1 pv1_0 pv0_1 pv2 pv0_2 pv3_0 pv1_1 pv1_2 pv2_0 pv3:Value} {pG0 pG0_0 pG1 pG1_0 pD0_0 pG0_1 pG2 pG0_2 pD2 pG3_0 pD0 pG1_1 pG1_2 pG2_0 pG3:List Nat} {pb0:Nat} (N:Nat)
theorem z0 (w0:aw Ψ Φ []) (p0:(List Int)) (ph0:RSl (RI .u8) 1 Ψ pG0 pv0 p0) {r:Bool} (h:tF N p0=some r) :
  CB w0 prog 4 [pv0] (.bool r):=by
 refine eN func4 rfl ntmps4 rfl w0 fun hF=>?_
 unfold tF at h
 refine atr 7 [] rfl<|lnr ph0 rfl<|art 3 [] rfl ?_
 exact rt hF h
theorem wZ (w0:aw Ψ Φ []) (p0:(List Int)) (ph0:RSl (RI .u8) 1 Ψ pG0 pv0 p0) {r:a8} (h:oL N p0=some r) :
  Calls prog 11 [pv0].toArray w0.w (bg Φ w0.w [] (fun Φ' Fs v=>∃ (b0:Nat) (sr_0_0:Value) (Gr_0_0:List Nat),v=pQ b0∧Fs=[[b0]]∧RSl (RI .u8) 1 Φ' Gr_0_0 sr_0_0 r.b∧(∀ k∈Gr_0_0,k∈pG0)∧Φ' b0=some (.cells #[sr_0_0,iV r.i,iV r.h] 82 (0,0)))):=by
 refine eN func11 rfl ntmps11 rfl w0 fun hF=>?_
 unfold oL at h
 refine atr 7 [] rfl<|lnr ph0 rfl<|art 9 [] rfl ?_
 refine lin (σ:=Int × Int) (fun s=>[(0,pv0),(3,iV s.1),(4,iV s.2)]) (fun s=>St w0 Φ [] []) (fun m s=>gT N p0 m s.1 s.2=some r) (wz (354354+(p0.length:Int)),0) N h (sx [] []) (fun n1 ih1 s hm=>?_)
 obtain ⟨s1,s2⟩:=s
 have h:gT N p0 (n1+1) s1 s2=some r:=hm
 show WT _ _ [(0,pv0),(3,iV s1),(4,iV s2)] (St w0 Φ [] [])
 unfold gT at h
 refine atr 5 [] rfl<|lnr ph0 rfl<|arr 2 [] rfl ?_
 obtain ⟨b1,hb_1,h⟩:=bs h
 refine WL.cutN 3 [(15,.bool b1),(0,pv0),(3,iV s1),(4,iV s2)] ?_ (fun K=>?_)
 rotate_left
 ·refine sp 12 hb_1 rfl (fun hb_1=>?_) fun hb_1=>?_
  ·refine arr 3 [] rfl ?_
   cases hb_1
   exact ku K
  ·refine arr 3 [] rfl ?_
   cases hb_1
   exact ku K
 refine en ?_
 refine ch h rfl ?_ ?_ <;> intro h
 ·refine atr 8 [] rfl ?_
  obtain ⟨x1,hx1,h⟩:=bs h
  obtain ⟨cs1,F1,-,g1,hb1,hs1,r1⟩:=ph0.el (a9 hx1).2.2
  obtain ⟨rfl,-⟩:=r1
  refine lia ph0 hx1 rfl<|lhx 0 0 g1 rfl<|lq (qF Aa Av rfl) rfl<|arr 2 [] rfl<|lq (AO rfl rfl) rfl<|art 8 [] rfl ?_
  exact lb [] [] (ih1 (_,_) h)
 refine atr 5 [] rfl<|lq (aQ (vs:=[(0,pv0),(2,iV s1)]) (C:=#[pv0,iV 0,iV s1]) Gx Gb rfl (a7 (C':=[pv0,iV 0,iV 0]) rfl (bt ph0.one) rfl rfl rfl (a7 (C':=[pv0,iV 0,iV s1]) rfl rfl rfl rfl rfl (aa)))) rfl<|lbx rfl fun b_1=>la rfl<|en ?_
 refine WT.frz (js:=[0]) (R:=[]) rfl (fun Φ_1 fr1 k1=>?_)
 exact rtg [0] hF (az.one rfl) rfl (by cases h; exact fun w1 hw=>⟨b_1,pv0,pG0,rfl,rfl,(ph0.y hw.up),(fun k hk=>hk),k1⟩)
theorem kX (w0:aw Ψ Φ [[pb0]].flatten) (p0:a8) (ph0_0:RSl (RI .u8) 1 Ψ pG0_0 pv0_0 p0.b) (pp0:Φ pb0=some (.cells #[pv0_0,iV p0.i,iV p0.h] 82 (0,0))) {r:Int × a8} (h:iQ N p0=some r) :
  Calls prog 43 [pQ pb0].toArray w0.w (bg Φ w0.w [[pb0]].flatten (fun Φ' Fs v=>v=iV r.1∧Fs=[[pb0]]∧r.2.b=p0.b∧Φ' pb0=some (.cells #[pv0_0,iV r.2.i,iV r.2.h] 82 (0,0)))):=by
 refine eL func43 rfl ntmps43 rfl (L:=[[pb0]]) w0 (fun hF=>?_)
 unfold iQ at h
 refine atr 8 [] rfl<|lq (aC rfl) rfl<|lf xP rfl rfl rfl<|lgx 2 0 (bP pp0) rfl<|arr 2 [] rfl<|lq (aC rfl) rfl<|lf xP rfl rfl rfl ?_
 refine WL.thw (js:=[0]) (R:=[]) rfl pp0 (fun Φ_1 ap1 fr1=>?_)
 refine so1 0 wQ rfl rfl ?_
 refine en<|sq<|WT.draw cc (by kernel_rfl) (fun _ h=>h.drew)<|qq (ep rfl) rfl<|qq (aC rfl) rfl<|aqq 2 [2,0] rfl<|qq (Dy rfl rfl (by decide)) rfl<|qq (ep rfl) rfl<|qq (aC rfl) rfl<|aqq 2 [2,0] rfl<|qq (Dy rfl rfl (by decide)) rfl<|qq (Fq0 rfl rfl) rfl<|qq (AO rfl rfl) rfl<|aqt 4 [] rfl<|WT.draw cc (by kernel_rfl) (fun _ h=>h.drew)<|qq (ep rfl) rfl<|qq (aC rfl) rfl<|aqq 3 [1,0] rfl<|qq (aC rfl) rfl<|aqq 2 [0,0] rfl<|qq (o5 xM rfl rfl ph0_0) rfl<|aqt 2 [] rfl ?_
 refine ch h rfl ?_ ?_ <;> intro h
 ·refine sq<|WT.draw cc (by kernel_rfl) (fun _ h=>h.drew)<|aqq 2 [] rfl<|qq (aC rfl) rfl<|aqq 3 [0,0] rfl<|qq (aC rfl) rfl<|aqq 2 [1,0] rfl ?_
  obtain ⟨x1,hx1,h⟩:=bs h
  obtain ⟨cs1,F1,-,g1,hb1,hs1,r1⟩:=ph0_0.el (a9 hx1).2.2
  obtain ⟨rfl,-⟩:=r1
  refine qq (ac xM rfl rfl ph0_0 hx1) rfl<|qq (au H7 rfl (fun w1 hw=>(g1.of_eq 0 1 rfl rfl:rg _ _ _ [.int .u8 x1]).rangeAt hw.in0)) rfl<|qq (qF Aa Av rfl) rfl<|qq (DS rfl rfl) rfl<|qq (AO rfl rfl) rfl<|aqr 5 [] rfl<|lq (aC rfl) rfl<|arr 3 [1,0] rfl<|lq (aC rfl) rfl<|lf C9 rfl rfl rfl<|so1 0 wQ rfl rfl ?_
  refine art 6 [] rfl ?_
  refine WT.frz (js:=[0]) (R:=[]) rfl (fun Φ_2 fr2 k1=>?_)
  exact rtg [0] hF (az.one rfl) rfl (by cases h; exact fun w1 hw=>⟨rfl,rfl,rfl,k1⟩)
 refine att 6 [] rfl ?_
 refine WT.frz (js:=[0]) (R:=[]) rfl (fun Φ_3 fr3 k2=>?_)
 exact rtg [0] hF (az.one rfl) rfl (by cases h; exact fun w1 hw=>⟨rfl,rfl,rfl,k2⟩)
theorem aL (w0:aw Ψ Φ [[pb0]].flatten) (p0:a8) (p1:Int) (ph0_0:RSl (RI .u8) 1 Ψ pG0_0 pv0_0 p0.b) (pp0:Φ pb0=some (.cells #[pv0_0,iV p0.i,iV p0.h] 82 (0,0))) {r:Int × a8} (h:aV N p0 p1=some r) :
  Calls prog 17 [pQ pb0,iV p1].toArray w0.w (bg Φ w0.w [[pb0]].flatten (fun Φ' Fs v=>v=iV r.1∧Fs=[[pb0]]∧r.2.b=p0.b∧Φ' pb0=some (.cells #[pv0_0,iV r.2.i,iV r.2.h] 82 (0,0)))):=by
 refine eL func17 rfl ntmps17 rfl (L:=[[pb0]]) w0 (fun hF=>?_)
 unfold aV at h
 refine att 10 [] rfl ?_
 refine ch h rfl ?_ ?_ <;> intro h
 ·refine att 4 [] rfl ?_
  exact rtg [0] hF (az.one rfl) rfl (by cases h; exact fun w1 hw=>⟨rfl,rfl,rfl,pp0⟩)
 refine att 7 [] rfl ?_
 refine ch h rfl ?_ ?_ <;> intro h
 ·refine sr<|la rfl<|kcb [0] h rfl rfl rfl rfl (fun b ap z q=>kX N b p0 (ph0_0.y z) pp0 q) ?_
  rintro x1 h v1 Φ_1 F1 ⟨ap1,fr1,rfl,rfl,e1,h1⟩
  refine la rfl ?_
  obtain ⟨x2,hx2,h⟩:=bs h
  refine lq (Bj rfl rfl hx2) rfl<|la rfl<|en ?_
  exact rtg [0] hF (az.one rfl) rfl (by cases h; exact fun w1 hw=>⟨rfl,rfl,rfl,h1⟩)
 refine atr 4 [] rfl<|kcb [0] h rfl rfl rfl rfl (fun b ap z q=>kX N b p0 (ph0_0.y z) pp0 q) ?_
 rintro x3 h v2 Φ_2 F2 ⟨ap2,fr2,rfl,rfl,e2,h2⟩
 refine arr 5 [] rfl<|kcb [0] h rfl rfl rfl rfl (fun b ap z q=>kX N b (⟨p0.b,x3.2.i,x3.2.h⟩:a8) (ph0_0.y z) h2 q) ?_
 rintro x4 h v3 Φ_3 F3 ⟨ap3,fr3,rfl,rfl,e3,h3⟩
 refine arr 5 [] rfl<|kcb [0] h rfl rfl rfl rfl (fun b ap z q=>kX N b (⟨p0.b,x4.2.i,x4.2.h⟩:a8) (ph0_0.y z) h3 q) ?_
 rintro x5 h v4 Φ_4 F4 ⟨ap4,fr4,rfl,rfl,e4,h4⟩
 refine arr 12 [] rfl ?_
 obtain ⟨x6,hx6,h⟩:=bs h
 refine lq (Bj rfl rfl hx6) rfl<|la rfl<|en ?_
 exact rtg [0] hF (az.one rfl) rfl (by cases h; exact fun w1 hw=>⟨rfl,rfl,rfl,h4⟩)
theorem em (w0:aw Ψ Φ [[pb0]].flatten) (p0:a8) (p1:Int) (ph0_0:RSl (RI .u8) 1 Ψ pG0_0 pv0_0 p0.b) (pp0:Φ pb0=some (.cells #[pv0_0,iV p0.i,iV p0.h] 82 (0,0))) {r:Bool × a8} (h:dL N p0 p1=some r) :
  Calls prog 36 [pQ pb0,iV p1].toArray w0.w (bg Φ w0.w [[pb0]].flatten (fun Φ' Fs v=>v = .bool r.1∧Fs=[[pb0]]∧r.2.b=p0.b∧Φ' pb0=some (.cells #[pv0_0,iV r.2.i,iV r.2.h] 82 (0,0)))):=by
 refine eL func36 rfl ntmps36 rfl (L:=[[pb0]]) w0 (fun hF=>?_)
 unfold dL at h
 refine atr 8 [] rfl<|kcb [0] h rfl rfl rfl rfl (fun b ap z q=>aL N b p0 p1 (ph0_0.y z) pp0 q) ?_
 rintro x1 h v1 Φ_1 F1 ⟨ap1,fr1,rfl,rfl,e1,h1⟩
 refine art 3 [] rfl ?_
 exact rtg [0] hF (az.one rfl) rfl (by cases h; exact fun w1 hw=>⟨rfl,rfl,rfl,h1⟩)
theorem eY (w0:aw Ψ Φ [[pb0]].flatten) (p0:a8) (p1:(List ByteArray)) (ph0_0:RSl (RI .u8) 1 Ψ pG0_0 pv0_0 p0.b) (pp0:Φ pb0=some (.cells #[pv0_0,iV p0.i,iV p0.h] 82 (0,0))) (ph1:RSl RS 1 Ψ pG1 pv1 p1) {r:ByteArray × a8} (h:fv N p0 p1=some r) :
  Calls prog 39 [pQ pb0,pv1].toArray w0.w (bg Φ w0.w [[pb0]].flatten (fun Φ' Fs v=>v = .string r.1∧Fs=[[pb0]]∧r.2.b=p0.b∧Φ' pb0=some (.cells #[pv0_0,iV r.2.i,iV r.2.h] 82 (0,0)))):=by
 refine eL func39 rfl ntmps39 rfl (L:=[[pb0]]) w0 (fun hF=>?_)
 unfold fv at h
 refine atr 9 [] rfl<|lnr ph1 rfl<|kcb [0] h rfl rfl rfl rfl (fun b ap z q=>aL N b p0 (p1.length:Int) (ph0_0.y z) pp0 q) ?_
 rintro x1 h v1 Φ_1 F1 ⟨ap1,fr1,rfl,rfl,e1,h1⟩
 obtain ⟨x2,hx2,h⟩:=bs h
 obtain ⟨cs1,F2,-,g1,hb1,hs1,r1⟩:=ph1.el (a9 hx2).2.2
 obtain ⟨rfl,-⟩:=r1
 refine lia ph1 hx2 rfl<|lhx 0 0 g1 rfl<|la rfl<|en ?_
 exact rtg [0] hF (az.one rfl) rfl (by cases h; exact fun w1 hw=>⟨rfl,rfl,rfl,h1⟩)
theorem mX (w0:aw Ψ Φ [[pb0]].flatten) (p0:a8) (ph0_0:RSl (RI .u8) 1 Ψ pG0_0 pv0_0 p0.b) (pp0:Φ pb0=some (.cells #[pv0_0,iV p0.i,iV p0.h] 82 (0,0))) {r:bn × a8} (h:iO N p0=some r) :
  Calls prog 40 [pQ pb0].toArray w0.w (bg Φ w0.w [[pb0]].flatten (fun Φ' Fs v=>v = .agg [iV r.1.K,iV r.1.N,.string r.1.S].toArray∧Fs=[[pb0]]∧r.2.b=p0.b∧Φ' pb0=some (.cells #[pv0_0,iV r.2.i,iV r.2.h] 82 (0,0)))):=by
 refine eL func40 rfl ntmps40 rfl (L:=[[pb0]]) w0 (fun hF=>?_)
 unfold iO at h
 refine sr<|lnz jk rfl fun b_1=>arr 5 [] rfl<|kcb [0] h rfl rfl rfl rfl (fun b ap z q=>em N b p0 2 (ph0_0.y z) pp0 q) ?_
 rintro x1 h v1 Φ_1 F1 ⟨ap1,fr1,rfl,rfl,e1,h1⟩
 refine en ?_
 refine ch h rfl ?_ ?_ <;> intro h
 ·refine sr<|la rfl<|kcb [0] h rfl rfl rfl rfl (fun b ap z q=>aL N b (⟨p0.b,x1.2.i,x1.2.h⟩:a8) 3 (ph0_0.y z) h1 q) ?_
  rintro x2 h v2 Φ_2 F2 ⟨ap2,fr2,rfl,rfl,e2,h2⟩
  refine la rfl<|lq (aQ (vs:=[(0,iV 1),(1,iV (wz (1+x2.1)))]) (C:=#[iV 1,iV (wz (1+x2.1)),.string (⟨#[]⟩:ByteArray)]) tl jk rfl (a7 (C':=[iV 1,iV 0,.string ⟨#[]⟩]) rfl rfl rfl rfl rfl (a7 (C':=[iV 1,iV (wz (1+x2.1)),.string ⟨#[]⟩]) rfl rfl rfl rfl rfl (aa)))) rfl<|soN 0 qZ rfl ⟨rfl,rfl,rfl,trivial⟩ rfl ?_
  refine en ?_
  exact rtg [0] hF (az.one (aX kz rfl (fun w1 hw=>hw.rgO (i:=0) rfl 0 3 [iV 1,iV (wz (1+x2.1)),.string (⟨#[]⟩:ByteArray)] rfl) rfl)) rfl (by cases h; exact fun w1 hw=>⟨rfl,rfl,rfl,h2⟩)
 refine atr 4 [] rfl ?_
 have rc1:RC RS 1 Φ_1 ([[],[]]:List (List Nat)) [.string (⟨#[97]⟩:ByteArray),.string (⟨#[98]⟩:ByteArray)] ([(⟨#[97]⟩:ByteArray),(⟨#[98]⟩:ByteArray)]:List ByteArray):=RC.cons (c:=[.string (⟨#[97]⟩:ByteArray)]) (cells:=[.string (⟨#[98]⟩:ByteArray)]) ⟨rfl,rfl⟩ rfl (RC.cons (c:=[.string (⟨#[98]⟩:ByteArray)]) (cells:=[]) ⟨rfl,rfl⟩ rfl (RC.nil _ _ _))
 refine le' (aY (vs:=[(0,.string (⟨#[97]⟩:ByteArray)),(1,.string (⟨#[98]⟩:ByteArray))]) (C:=#[.string (⟨#[97]⟩:ByteArray),.string (⟨#[98]⟩:ByteArray)]) RS.lasts ke rp rfl rfl rfl rfl (ag xp (a7 (C':=[.string (⟨#[97]⟩:ByteArray),.string ⟨#[]⟩]) rfl rfl rfl rfl rfl (a7 (C':=[.string (⟨#[97]⟩:ByteArray),.string (⟨#[98]⟩:ByteArray)]) rfl rfl rfl rfl rfl (aa)))) rfl rc1 rfl (by simpa using Kw.nil)) rfl ?_
 rintro v3 Φ_3 D1 ⟨fr3,h3⟩
 replace h3:OSl RS 9 1 Φ_3 [] v3 ([(⟨#[97]⟩:ByteArray),(⟨#[98]⟩:ByteArray)]:List ByteArray):=by simpa using h3
 replace h1:=fr3 _ _ (by simp) h1
 refine kcb [1] h rfl rfl rfl rfl (fun b ap z q=>eY N b (⟨p0.b,x1.2.i,x1.2.h⟩:a8) ([(⟨#[97]⟩:ByteArray),(⟨#[98]⟩:ByteArray)]:List ByteArray) (ph0_0.y z) h1 (h3.rsl.x (Dj.app (ap.q 0 rfl) dN)) q) ?_
 rintro x3 h v4 Φ_4 F3 ⟨ap3,fr4,rfl,rfl,e3,h4⟩
 refine lq (aQ (vs:=[(0,iV 2),(2,.string x3.1)]) (C:=#[iV 2,iV 0,.string x3.1]) tl jk rfl (a7 (C':=[iV 2,iV 0,.string ⟨#[]⟩]) rfl rfl rfl rfl rfl (a7 (C':=[iV 2,iV 0,.string x3.1]) rfl rfl rfl rfl rfl (aa)))) rfl<|soN 0 qZ rfl ⟨rfl,rfl,rfl,trivial⟩ rfl ?_
 refine en ?_
 exact rtg [0] hF (az.one (aX kz rfl (fun w1 hw=>hw.rgO (i:=0) rfl 0 3 [iV 2,iV 0,.string x3.1] rfl) rfl)) rfl (by cases h; exact fun w1 hw=>⟨rfl,rfl,rfl,h4⟩)
theorem qX (w0:aw Ψ Φ [[pb0]].flatten) (p0:a8) (ph0_0:RSl (RI .u8) 1 Ψ pG0_0 pv0_0 p0.b) (pp0:Φ pb0=some (.cells #[pv0_0,iV p0.i,iV p0.h] 82 (0,0))) {r:aA × a8} (h:kC N p0=some r) :
  Calls prog 13 [pQ pb0].toArray w0.w (bg Φ w0.w [[pb0]].flatten (fun Φ' Fs v=>∃ (sr_0_0:Value),v = .agg [.string r.1.Kind,sr_0_0].toArray∧Fs=[ob sr_0_0,[pb0]]∧OSl aH 91 3 Φ' [] sr_0_0 r.1.Fields∧r.2.b=p0.b∧Φ' pb0=some (.cells #[pv0_0,iV r.2.i,iV r.2.h] 82 (0,0)))):=by
 refine eL func13 rfl ntmps13 rfl (L:=[[pb0]]) w0 (fun hF=>?_)
 unfold kC at h
 refine sr<|lnz j9 rfl fun b_1=>arr 4 [] rfl ?_
 have rc1:RC RS 1 Φ ([[],[],[],[]]:List (List Nat)) [.string (⟨#[111,114,100,101,114]⟩:ByteArray),.string (⟨#[112,97,105,100]⟩:ByteArray),.string (⟨#[105,116,101,109]⟩:ByteArray),.string (⟨#[111,114,100,101,114]⟩:ByteArray)] ([(⟨#[111,114,100,101,114]⟩:ByteArray),(⟨#[112,97,105,100]⟩:ByteArray),(⟨#[105,116,101,109]⟩:ByteArray),(⟨#[111,114,100,101,114]⟩:ByteArray)]:List ByteArray):=RC.cons (c:=[.string (⟨#[111,114,100,101,114]⟩:ByteArray)]) (cells:=[.string (⟨#[112,97,105,100]⟩:ByteArray),.string (⟨#[105,116,101,109]⟩:ByteArray),.string (⟨#[111,114,100,101,114]⟩:ByteArray)]) ⟨rfl,rfl⟩ rfl (RC.cons (c:=[.string (⟨#[112,97,105,100]⟩:ByteArray)]) (cells:=[.string (⟨#[105,116,101,109]⟩:ByteArray),.string (⟨#[111,114,100,101,114]⟩:ByteArray)]) ⟨rfl,rfl⟩ rfl (RC.cons (c:=[.string (⟨#[105,116,101,109]⟩:ByteArray)]) (cells:=[.string (⟨#[111,114,100,101,114]⟩:ByteArray)]) ⟨rfl,rfl⟩ rfl (RC.cons (c:=[.string (⟨#[111,114,100,101,114]⟩:ByteArray)]) (cells:=[]) ⟨rfl,rfl⟩ rfl (RC.nil _ _ _))))
 refine le' (aY (vs:=[(0,.string (⟨#[111,114,100,101,114]⟩:ByteArray)),(1,.string (⟨#[112,97,105,100]⟩:ByteArray)),(2,.string (⟨#[105,116,101,109]⟩:ByteArray)),(3,.string (⟨#[111,114,100,101,114]⟩:ByteArray))]) (C:=#[.string (⟨#[111,114,100,101,114]⟩:ByteArray),.string (⟨#[112,97,105,100]⟩:ByteArray),.string (⟨#[105,116,101,109]⟩:ByteArray),.string (⟨#[111,114,100,101,114]⟩:ByteArray)]) RS.lasts ke rp rfl rfl rfl rfl (ag xw (a7 (C':=[.string (⟨#[111,114,100,101,114]⟩:ByteArray),.string ⟨#[]⟩,.string ⟨#[]⟩,.string ⟨#[]⟩]) rfl rfl rfl rfl rfl (a7 (C':=[.string (⟨#[111,114,100,101,114]⟩:ByteArray),.string (⟨#[112,97,105,100]⟩:ByteArray),.string ⟨#[]⟩,.string ⟨#[]⟩]) rfl rfl rfl rfl rfl (a7 (C':=[.string (⟨#[111,114,100,101,114]⟩:ByteArray),.string (⟨#[112,97,105,100]⟩:ByteArray),.string (⟨#[105,116,101,109]⟩:ByteArray),.string ⟨#[]⟩]) rfl rfl rfl rfl rfl (a7 (C':=[.string (⟨#[111,114,100,101,114]⟩:ByteArray),.string (⟨#[112,97,105,100]⟩:ByteArray),.string (⟨#[105,116,101,109]⟩:ByteArray),.string (⟨#[111,114,100,101,114]⟩:ByteArray)]) rfl rfl rfl rfl rfl (aa)))))) rfl rc1 rfl (by simpa using Kw.nil)) rfl ?_
 rintro v1 Φ_1 D1 ⟨fr1,h1⟩
 replace h1:OSl RS 9 1 Φ_1 [] v1 ([(⟨#[111,114,100,101,114]⟩:ByteArray),(⟨#[112,97,105,100]⟩:ByteArray),(⟨#[105,116,101,109]⟩:ByteArray),(⟨#[111,114,100,101,114]⟩:ByteArray)]:List ByteArray):=by simpa using h1
 replace pp0:=fr1 _ _ (by simp) pp0
 refine kcb [1] h rfl rfl rfl rfl (fun b ap z q=>eY N b p0 ([(⟨#[111,114,100,101,114]⟩:ByteArray),(⟨#[112,97,105,100]⟩:ByteArray),(⟨#[105,116,101,109]⟩:ByteArray),(⟨#[111,114,100,101,114]⟩:ByteArray)]:List ByteArray) (ph0_0.y z) pp0 (h1.rsl.x (Dj.app (ap.q 0 rfl) dN)) q) ?_
 rintro x1 h v2 Φ_2 F1 ⟨ap1,fr2,rfl,rfl,e1,h2⟩
 refine lq (aQ (vs:=[(0,.string x1.1)]) (C:=#[.string x1.1,.slice none 0 0]) zJ j9 rfl (a7 (C':=[.string x1.1,.slice none 0 0]) rfl rfl rfl rfl rfl (aa))) rfl<|lnz j9 rfl fun b_2=>soN 0 jL rfl ⟨rfl,rfl,trivial⟩ rfl ?_
 refine art 12 [0,0] rfl ?_
 refine cut (σ:=Int) (fun s=>[(0,pQ pb0),(2,pQ b_1),(3,pQ b_2),(4,iV s)]) (fun s=>St w0 Φ_2 [(b_2,.cells #[.string x1.1,.slice none 0 0] 47 (0,0)),(b_1,.cells #[.string (⟨#[]⟩:ByteArray),.slice none 0 0] 47 (0,0))] [[pb0]]) (fun s=>fW N p0 x1 s=some r) (fun s hm=>?_) (fun K=>?_)
 ·clear h
  revert hm; revert s; intro s1 hm
  have h:fW N p0 x1 s1=some r:=hm
  show WT _ _ [(0,pQ pb0),(2,pQ b_1),(3,pQ b_2),(4,iV s1)] (St w0 Φ_2 [(b_2,.cells #[.string x1.1,.slice none 0 0] 47 (0,0)),(b_1,.cells #[.string (⟨#[]⟩:ByteArray),.slice none 0 0] 47 (0,0))] [[pb0]])
  unfold fW at h
  refine atr 4 [] rfl<|kcb [0] h rfl rfl rfl rfl (fun b ap z q=>em N b (⟨p0.b,x1.2.i,x1.2.h⟩:a8) 12 (ph0_0.y z) h2 q) ?_
  rintro x2 h v3 Φ_3 F2 ⟨ap2,fr3,rfl,rfl,e2,h3⟩
  refine en ?_
  refine cut (σ:=Hp × Int × Int × Int) (fun s=>[(0,pQ pb0),(2,pQ b_1),(3,pQ b_2),(4,iV s.2.1)]) (fun s=>St w0 s.1 [(b_2,.cells #[.string x1.1,.slice none 0 0] 47 (0,0)),(b_1,.cells #[.string (⟨#[]⟩:ByteArray),.slice none 0 0] 47 (0,0))] [[pb0]]) (fun s=>je N p0 x1 s.2.1 s.2.2.1 s.2.2.2=some r∧(s.1 pb0=some (.cells #[pv0_0,iV s.2.2.1,iV s.2.2.2] 82 (0,0)))) (fun s hm=>?_) (fun K=>?_)
  ·clear h
   obtain ⟨Φ_4,s2,s3,s4⟩:=s
   obtain ⟨h,k1⟩:=hm
   dsimp only at h k1 ⊢
   unfold je at h
   refine att 6 [] rfl<|wtS ?_
   have k2:=OSl.nil aH 91 3 Φ_4
   refine lin (σ:=Hp × (List bn) × Value × Int × Int × Int) (fun s=>[(0,pQ pb0),(2,pQ b_1),(3,pQ b_2),(4,iV s2),(5,iV s.2.2.2.1)]) (fun s=>St w0 s.1 [(b_2,.cells #[.string x1.1,s.2.2.1] 47 (0,0)),(b_1,.cells #[.string (⟨#[]⟩:ByteArray),.slice none 0 0] 47 (0,0))] [ob s.2.2.1,[pb0]]) (fun m s=>i8 N p0 x1 s2 m s.2.1 s.2.2.2.1 s.2.2.2.2.1 s.2.2.2.2.2=some r∧(OSl aH 91 3 s.1 [] s.2.2.1 s.2.1)∧(s.1 pb0=some (.cells #[pv0_0,iV s.2.2.2.2.1,iV s.2.2.2.2.2] 82 (0,0)))) (Φ_4,([]:List bn),(.slice none 0 0),0,s3,s4) N ⟨h,k2,k1⟩ (sx [0,0] [0,0]) (fun n3 ih3 s hm=>?_)
   obtain ⟨Φ_5,s5,u1,s6,s7,s8⟩:=s
   obtain ⟨h,k3,k4⟩:=hm
   dsimp only at h k3 k4 ⊢
   unfold i8 at h
   refine att 7 [] rfl ?_
   refine ch h rfl ?_ ?_ <;> intro h
   ·refine att 3 [] rfl<|wm [0,1] [7] rfl<|amm 3 [0,1,1,0,2] [0,1] rfl rfl ?_
    obtain ⟨x3,hx3,h⟩:=bs h
    refine WM.one 3 (by kernel_rfl) (mc rfl (fun _ v Φx D w1 hq hw=>Kn.of Kf.nil (ai2 0 1 rfl rfl) hw) (bZ (js:=[1]) (R:=[ob u1]) E2 rfl rfl (fun w1 hw ap hl=>mX N (bx hw ap hl) (⟨p0.b,s7,s8⟩:a8) (ph0_0.y (hw.uo ap)) k4  hx3)) rfl ?_)
    rintro v4 Φ_6 F3 ⟨ap3,fr4,rfl,rfl,e3,h4⟩
    replace k3:=k3.fr fr4 (ap3.q 0 rfl) dN
    have rc2:RC aH 3 Φ_6 ([[]]:List (List Nat)) [iV x3.1.K,iV x3.1.N,.string x3.1.S] ([x3.1]:List bn):=RC.cons (c:=[iV x3.1.K,iV x3.1.N,.string x3.1.S]) (cells:=[]) ⟨rfl,rfl⟩ rfl (RC.nil _ _ _)
    refine WM.one 4 (by kernel_rfl) (me rfl (fun _ v Φx D w1 hq hw=>Kn.of Kf.nil (ai2 0 1 rfl rfl) hw) (aY (vs:=[(0,.agg [iV x3.1.K,iV x3.1.N,.string x3.1.S].toArray)]) (C:=#[iV x3.1.K,iV x3.1.N,.string x3.1.S]) aH.lasts fT jk rfl rfl rfl rfl (ag wH (a7 (C':=[iV x3.1.K,iV x3.1.N,.string x3.1.S]) rfl rfl rfl rfl rfl (aa))) rfl rc2 rfl (by simpa using Kw.nil)) rfl ?_)
    rintro v5 Φ_7 D2 ⟨fr5,h5⟩
    replace h5:OSl aH 91 3 Φ_7 [] v5 ([x3.1]:List bn):=by simpa using h5
    replace k3:=k3.f0 fr5
    replace h4:=fr5 _ _ (by simp) h4
    obtain ⟨x4,hx4,h⟩:=bs h
    refine WM.one 5 (by kernel_rfl) (me rfl (fun _ v Φx D w1 hq hw=>Kn.of Kf.nil (ai2 0 1 rfl rfl) hw) (bB aH.lasts aH.one aH.flat fT vY rfl rfl rfl rfl rfl (js:=[2]) (Rr:=[ob v5,[pb0]]) rfl k3 h5.rsl hx4) rfl ?_)
    rintro v6 Φ_8 D3 ⟨⟨ap4,fr6⟩,h6⟩
    replace h4:=fr6 _ _ ((ap4.q 1 rfl) _ (by simp)) h4
    refine amm 1 [6,1] [0,1] rfl rfl ?_
    refine on1 7 (ms1 0 rfl nk yb rfl h6.one ?_)
    refine WM.nil (by kernel_rfl)<|att 6 [] rfl ?_
    exact lb [0,1] [0,0] (ih3 (_,_,_,_,_,_) ⟨h,h6,h4⟩)
   refine atr 4 [2] rfl<|soN 1 jL rfl ⟨rfl,k3.one,trivial⟩ rfl ?_
   refine en ?_
   exact rtg [0,0] hF (az.one (aX ni rfl (fun w1 hw=>hw.rgO (i:=1) rfl 0 2 [.string x1.1,u1] rfl) rfl)) rfl (by cases h; exact fun w1 hw=>⟨u1,rfl,rfl,k3,rfl,k4⟩)
  refine ch h rfl ?_ ?_ <;> intro h
  ·refine atr 2 [] rfl<|kcb [0] h rfl rfl rfl rfl (fun b ap z q=>aL N b (⟨p0.b,x2.2.i,x2.2.h⟩:a8) 6 (ph0_0.y z) h3 q) ?_
   rintro x5 h v7 Φ_9 F4 ⟨ap5,fr7,rfl,rfl,e4,h7⟩
   refine la rfl<|en ?_
   exact wo [0] [0,0] (K (_,_,_,_) ⟨h,h7⟩)
  refine WT.skip ?_
  exact wo [0] [0,0] (K (_,_,_,_) ⟨h,h3⟩)
 refine ch h rfl ?_ ?_ <;> intro h
 ·refine att 3 [] rfl ?_
  exact wo [0] [0,0] (K _ h)
 refine WT.skip ?_
 exact wo [0] [0,0] (K _ h)
theorem nZ (w0:aw Ψ Φ []) (p0:(List bn)) (p1:(List bn)) (ph0:RSl aH 3 Ψ pG0 pv0 p0) (ph1:RSl aH 3 Ψ pG1 pv1 p1) {r:Bool} (h:gt N p0 p1=some r) :
  CB w0 prog 72 [pv0,pv1] (.bool r):=by
 refine eN func72 rfl ntmps72 rfl w0 fun hF=>?_
 unfold gt at h
 refine atr 8 [] rfl<|lnr ph0 rfl<|la rfl<|lnr ph1 rfl<|la rfl<|en ?_
 refine ch h rfl ?_ ?_ <;> intro h
 ·refine att 4 [] rfl ?_
  exact rt hF h
 refine att 7 [] rfl ?_
 refine lin (σ:=Int) (fun s=>[(0,pv0),(1,pv1),(5,iV s)]) (fun s=>St w0 Φ [] []) (fun m s=>de N p0 p1 m s=some r) (0) N h (sx [] []) (fun n1 ih1 s hm=>?_)
 revert hm; revert s; intro s1 hm
 have h:de N p0 p1 (n1+1) s1=some r:=hm
 show WT _ _ [(0,pv0),(1,pv1),(5,iV s1)] (St w0 Φ [] [])
 unfold de at h
 refine atr 5 [] rfl<|lnr ph0 rfl<|la rfl<|en ?_
 refine ch h rfl ?_ ?_ <;> intro h
 ·refine att 4 [] rfl<|WT.draw cc (by kernel_rfl) (fun _ h=>h.drew)<|aqq 2 [] rfl ?_
  obtain ⟨x1,hx1,h⟩:=bs h
  obtain ⟨cs1,F1,-,g1,hb1,hs1,r1⟩:=ph0.el (a9 hx1).2.2
  obtain ⟨rfl,-⟩:=r1
  refine qq (ac fT rfl rfl ph0 hx1) rfl<|qq (aI kz rfl (fun w1 hw=>(g1.of_eq 0 3 rfl rfl:rg _ _ _ [iV x1.K,iV x1.N,.string x1.S]).rangeAt hw.in0) rfl) rfl<|aqq 2 [] rfl ?_
  obtain ⟨x2,hx2,h⟩:=bs h
  obtain ⟨cs2,F2,-,g2,hb2,hs2,r2⟩:=ph1.el (a9 hx2).2.2
  obtain ⟨rfl,-⟩:=r2
  refine qq (ac fT rfl rfl ph1 hx2) rfl<|qq (aI kz rfl (fun w1 hw=>(g2.of_eq 0 3 rfl rfl:rg _ _ _ [iV x2.K,iV x2.N,.string x2.S]).rangeAt hw.in0) rfl) rfl<|qq (te mK rfl rfl rfl (r:=bo x1 x2) rfl) rfl<|WQ.nil ?_
  refine ch h rfl ?_ ?_ <;> intro h
  ·refine att 4 [] rfl ?_
   exact rt hF h
  refine att 7 [] rfl ?_
  exact lb [] [] (ih1 _ h)
 refine att 5 [] rfl ?_
 exact rt hF h
theorem tw (w0:aw Ψ Φ []) (p0:aA) (p1:aA) (ph0_0:RSl aH 3 Ψ pG0_0 pv0_0 p0.Fields) (ph1_0:RSl aH 3 Ψ pG1_0 pv1_0 p1.Fields) {r:Bool} (h:jO N p0 p1=some r) :
  CB w0 prog 41 [.agg [.string p0.Kind,pv0_0].toArray,.agg [.string p1.Kind,pv1_0].toArray] (.bool r):=by
 refine eN func41 rfl ntmps41 rfl w0 fun hF=>?_
 unfold jO at h
 refine sr<|lbx rfl fun b_1=>lbx rfl fun b_2=>arr 10 [0,32,0,0] rfl ?_
 obtain ⟨b1,hb_1,h⟩:=bs h
 refine WL.cutN 6 [(16,.bool b1),(4,.bool false)] ?_ (fun K=>?_)
 rotate_left
 ·refine sp 10 hb_1 rfl (fun hb_1=>?_) fun hb_1=>?_
  ·refine arr 4 [1,32,1,0] rfl<|ly rfl rfl<|qd hb_1 (nZ N · p0.Fields p1.Fields ph0_0 ph1_0 ·) rfl rfl rfl fun x1 hb_1=>la rfl ?_
   cases hb_1
   exact ku K
  ·refine arr 6 [] rfl ?_
   cases hb_1
   exact ku K
 refine la rfl<|en ?_
 exact rt hF h
theorem nV (w0:aw Ψ Φ []) (p0:ah) (p1:aA) (ph0_0:RSl bh 3 Ψ pG0_0 pv0_0 p0.Items) (ph1_0:RSl aH 3 Ψ pG1_0 pv1_0 p1.Fields) {r:Int} (h:lO N p0 p1=some r) :
  CB w0 prog 15 [.agg [pv0_0,iV p0.Next].toArray,.agg [.string p1.Kind,pv1_0].toArray] (iV r):=by
 refine eN func15 rfl ntmps15 rfl w0 fun hF=>?_
 unfold lO at h
 refine sr<|lbx rfl fun b_1=>lbx rfl fun b_2=>art 8 [] rfl ?_
 refine lin (σ:=Int) (fun s=>[(2,pQ b_1),(3,pQ b_2),(5,iV s)]) (fun s=>St w0 Φ [(b_2,.cells #[.string p1.Kind,pv1_0] 47 (0,0)),(b_1,.cells #[pv0_0,iV p0.Next] 37 (0,0))] []) (fun m s=>gH N p0 p1 m s=some r) (0) N h (sx [] [0,0]) (fun n1 ih1 s hm=>?_)
 revert hm; revert s; intro s1 hm
 have h:gH N p0 p1 (n1+1) s1=some r:=hm
 show WT _ _ [(2,pQ b_1),(3,pQ b_2),(5,iV s1)] (St w0 Φ [(b_2,.cells #[.string p1.Kind,pv1_0] 47 (0,0)),(b_1,.cells #[pv0_0,iV p0.Next] 37 (0,0))] [])
 unfold gH at h
 refine atr 6 [0,32] rfl<|lnr ph0_0 rfl<|la rfl<|en ?_
 refine ch h rfl ?_ ?_ <;> intro h
 ·refine att 4 [] rfl<|WT.draw cc (by kernel_rfl) (fun _ h=>h.drew)<|aqq 3 [0,32] rfl ?_
  obtain ⟨x1,hx1,h⟩:=bs h
  obtain ⟨cs1,F1,-,g1,hb1,hs1,r1⟩:=ph0_0.el (a9 hx1).2.2
  obtain ⟨v1,G1,rfl,hq1,h1⟩:=r1
  obtain rfl:=hq1.symm
  refine qq (ac nX rfl rfl ph0_0 hx1) rfl<|qq (ab xD rfl) rfl<|qq (aI ni rfl (fun w1 hw=>(g1.of_eq 1 2 rfl rfl:rg _ _ _ [.string x1.F.Kind,v1]).rangeAt hw.in0) rfl) rfl<|qq (aI ni rfl (fun w1 hw=>hw.rgO (i:=0) rfl 0 2 [.string p1.Kind,pv1_0] rfl) rfl) rfl ?_
  obtain ⟨x2,hx2,h⟩:=bs h
  refine qp (cQ DZ rfl (fun w1 hw=>tw N (ba hw.in0) x1.F p1 h1 ph1_0 hx2)) rfl<|WQ.nil ?_
  refine ch h rfl ?_ ?_ <;> intro h
  ·refine atr 5 [0,32] rfl ?_
   obtain ⟨x3,hx3,h⟩:=bs h
   obtain ⟨cs2,F2,-,g2,hb2,hs2,r2⟩:=ph0_0.el (a9 hx3).2.2
   obtain ⟨v2,G2,rfl,hq2,h2⟩:=r2
   obtain rfl:=hq2.symm
   refine lia ph0_0 hx3 rfl<|lf pT rfl rfl rfl<|lhx 0 0 g2 rfl<|la rfl<|en ?_
   exact rt hF h
  refine att 7 [] rfl ?_
  exact lb [] [0,0] (ih1 _ h)
 refine att 5 [] rfl ?_
 exact rt hF h
theorem rf (w0:aw Ψ Φ []) (p0:aA) (ph0_0:RSl aH 3 Ψ pG0_0 pv0_0 p0.Fields) {r:aA} (h:iG N p0=some r) :
  Calls prog 42 [.agg [.string p0.Kind,pv0_0].toArray].toArray w0.w (bg Φ w0.w [] (fun Φ' Fs v=>∃ (sr_0_0:Value),v = .agg [.string r.Kind,sr_0_0].toArray∧Fs=[ob sr_0_0]∧OSl aH 91 3 Φ' [] sr_0_0 r.Fields)):=by
 refine eN func42 rfl ntmps42 rfl w0 fun hF=>?_
 unfold iG at h
 refine sr<|lbx rfl fun b_1=>lnz j9 rfl fun b_2=>en<|sr<|le' (dI aH.lasts fT jk rfl rfl) rfl ?_
 rintro v1 Φ_1 D1 ⟨fr1,h1⟩
 refine arr 2 [1,32] rfl<|lu0 ph0_0 fun h2=>?_
 obtain ⟨x1,hx1,h⟩:=bs h
 refine le' (bB aH.lasts aH.one aH.flat fT vY rfl rfl rfl rfl rfl (js:=[0]) (Rr:=[]) rfl h1 h2 hx1) rfl ?_
 rintro v2 Φ_2 D2 ⟨⟨ap1,fr2⟩,h3⟩
 refine lf BM rfl rfl rfl<|so1 1 yb rfl h3.one ?_
 refine arr 4 [34] rfl<|soN 0 jL rfl ⟨rfl,h3.one,trivial⟩ rfl ?_
 refine en ?_
 exact rtg [0] hF (az.one (aX ni rfl (fun w1 hw=>hw.rgO (i:=0) rfl 0 2 [.string p0.Kind,v2] rfl) rfl)) rfl (by cases h; exact fun w1 hw=>⟨v2,rfl,rfl,h3⟩)
theorem pO (w0:aw Ψ Φ [[pb0],ob pv0_0].flatten) (p0:ah) (p1:aA) (ph0_0:OSl bh 69 3 Φ pD0_0 pv0_0 p0.Items) (pp0:Φ pb0=some (.cells #[pv0_0,iV p0.Next] 37 (0,0))) (ph1_0:RSl aH 3 Ψ pG1_0 pv1_0 p1.Fields) (pd0_0:Dj pD0_0 [[pb0],ob pv0_0].flatten) {r:Int × ah} (h:gN N p0 p1=some r) :
  Calls prog 16 [pQ pb0,.agg [.string p1.Kind,pv1_0].toArray].toArray w0.w (bg Φ w0.w [[pb0],ob pv0_0].flatten (fun Φ' Fs v=>∃ (so_0_0:Value) (Do_0_0:List Nat) (X:List Nat),v=iV r.1∧Fs=[[pb0],ob so_0_0,X]∧OSl bh 69 3 Φ' Do_0_0 so_0_0 r.2.Items∧(∀ k∈Do_0_0,k∈(X++pD0_0))∧Φ' pb0=some (.cells #[so_0_0,iV r.2.Next] 37 (0,0)))):=by
 refine eL func16 rfl ntmps16 rfl (L:=[[pb0],ob pv0_0]) w0 (fun hF=>?_)
 have pa0_0:=Old.mk w0 ph0_0.kn pd0_0
 unfold gN at h
 refine sr<|lbx rfl fun b_1=>art 3 [] rfl<|WT.draw cc (by kernel_rfl) (fun _ h=>h.drew)<|qq (ep rfl) rfl<|qq (aC rfl) rfl<|qq (aI pV rfl (fun w1 hw=>((bP pp0).of_eq 0 2 rfl rfl:rg _ _ _ [pv0_0,iV p0.Next]).rangeAt hw.fro) rfl) rfl<|qq (aI ni rfl (fun w1 hw=>hw.rgO (i:=0) rfl 0 2 [.string p1.Kind,pv1_0] rfl) rfl) rfl ?_
 obtain ⟨x1,hx1,h⟩:=bs h
 refine qp (cQ C7 rfl (fun w1 hw=>nV N (ba hw.fro) p0 p1 ph0_0.rsl (ph1_0.y hw.up) hx1)) rfl<|aqt 8 [] rfl ?_
 refine ch h rfl ?_ ?_ <;> intro h
 ·refine att 5 [] rfl ?_
  refine WT.ret hF (az.one rfl) (fun w1 hw=>?_)
  cases h
  replace hw:=hw.addNil
  refine bc (js:=[1,1,0]) hw rfl ⟨pv0_0,pD0_0,[],rfl,rfl,ph0_0,(fun k hk=>(List.mem_append.2 (.inr hk))),pp0⟩
 refine atr 5 [] rfl<|lq (aC rfl) rfl<|lf lC rfl rfl rfl<|lgx 0 0 (bP pp0) rfl<|lno ph0_0 rfl<|arr 2 [] rfl ?_
 obtain ⟨b1,hb_1,h⟩:=bs h
 refine WL.cutN 6 [(26,.bool b1),(0,pQ pb0),(3,pQ b_1)] ?_ (fun K=>?_)
 rotate_left
 ·refine sp 20 hb_1 rfl (fun hb_1=>?_) fun hb_1=>?_
  ·refine arr 6 [] rfl ?_
   cases hb_1
   exact ku K
  ·refine ly rfl rfl<|la rfl<|ly rfl rfl<|lq (aC rfl) rfl<|ly rfl rfl<|lf uu rfl rfl rfl<|ly rfl rfl<|lgx 1 0 (bP pp0) rfl<|arr 2 [] rfl ?_
   cases hb_1
   exact ku K
 refine en ?_
 refine ch h rfl ?_ ?_ <;> intro h
 ·refine att 4 [] rfl ?_
  refine WT.ret hF (az.one rfl) (fun w1 hw=>?_)
  cases h
  replace hw:=hw.addNil
  refine bc (js:=[1,1,0]) hw rfl ⟨pv0_0,pD0_0,[],rfl,rfl,ph0_0,(fun k hk=>(List.mem_append.2 (.inr hk))),pp0⟩
 refine att 2 [] rfl<|WT.mix (Kn w0 Φ [pb0] [(b_1,.cells #[.string p1.Kind,pv1_0] 47 (0,0))]) (fun i=>match i with | 16=>false | _=>true) cc (fun _ h=>h.drew)<|ma 0 rfl (by kernel_rfl) (kn Kf.id (am [0] rfl)) rfl<|ma 1 rfl (by kernel_rfl) (kn Kf.id (am [0] rfl)) rfl<|mq 2 rfl (by kernel_rfl) (kn Kf.id (am [0] rfl)) (aC rfl) rfl<|mq 3 rfl (by kernel_rfl) (kn Kf.id (am [0] rfl)) (ab lC rfl) rfl<|mq 4 rfl (by kernel_rfl) (kn Kf.id (am [0] rfl)) (au Gg rfl (fun w1 hw=>hw.rg (by simp) ((bP pp0).of_eq 0 1 rfl rfl:rg _ _ _ [pv0_0]))) rfl ?_
 refine ma 5 rfl (by kernel_rfl) (kn Kf.id (am [0] rfl)) rfl<|mq 6 rfl (by kernel_rfl) (kn Kf.id (am [0] rfl)) (aC rfl) rfl<|mq 7 rfl (by kernel_rfl) (kn Kf.id (am [0] rfl)) (ab uu rfl) rfl<|mq 8 rfl (by kernel_rfl) (kn Kf.id (am [0] rfl)) (au pt rfl (fun w1 hw=>hw.rg (by simp) ((bP pp0).of_eq 1 1 rfl rfl:rg _ _ _ [iV p0.Next]))) rfl<|mq 9 rfl (by kernel_rfl) (kn Kf.id (am [0] rfl)) (aI ni rfl (fun w1 hw=>hw.rgO (i:=0) rfl 0 2 [.string p1.Kind,pv1_0] rfl) rfl) rfl ?_
 obtain ⟨x2,hx2,h⟩:=bs h
 refine WM.one 10 (by kernel_rfl) (mc rfl (fun _ v Φx D w1 hq hw=>Kn.of (Kf.id.st hq.2.1 (hq.1.r (i:=0) rfl)) (am [0] rfl) hw) (bZ (js:=[]) (R:=[[pb0],ob pv0_0]) ER rfl rfl (fun w1 hw ap hl=>rf N (ba hw.fro) p1 (ph1_0.y hw.up)  hx2)) rfl ?_)
 rintro v1 Φ_1 F1 ⟨ap1,fr1,v2,rfl,rfl,h1⟩
 replace ph0_0:=ph0_0.fr fr1 (ap1.q 1 rfl) (ap1.o pa0_0)
 replace pp0:=fr1 _ _ ((ap1.q 0 rfl) _ (by simp)) pp0
 have kf1:=(Kf.id (F:=[pb0]):Kf Φ _ _).st fr1 (ap1.q 0 rfl)
 refine mq 11 rfl (by kernel_rfl) (kn kf1 (am [0] rfl)) (aQ (vs:=[(0,iV p0.Next),(1,.agg [.string x2.Kind,v2].toArray)]) (C:=#[iV p0.Next,.string x2.Kind,v2]) Gi sm rfl (a7 (C':=[iV p0.Next,.string ⟨#[]⟩,.slice none 0 0]) rfl rfl rfl rfl rfl (a7 (C':=[iV p0.Next,.string x2.Kind,v2]) rfl rfl rfl rfl rfl (aa)))) rfl ?_
 have rc1:RC eQ 3 Φ_1 ([(ob v2++[])]:List (List Nat)) [iV p0.Next,.string x2.Kind,v2] ([(⟨p0.Next,x2⟩:aP)]:List aP):=RC.cons (c:=[iV p0.Next,.string x2.Kind,v2]) (cells:=[]) ⟨v2,rfl,rfl,h1⟩ rfl (RC.nil _ _ _)
 refine WM.one 12 (by kernel_rfl) (me rfl (fun _ v Φx D w1 hq hw=>Kn.of (kf1.se hq.1) (am [0] rfl) hw) (aY (vs:=[(0,.agg [iV p0.Next,.string x2.Kind,v2].toArray)]) (C:=#[iV p0.Next,.string x2.Kind,v2]) eQ.lasts nX sm rfl rfl rfl rfl (ag zA (a7 (C':=[iV p0.Next,.string x2.Kind,v2]) rfl rfl rfl rfl rfl (aa))) rfl rc1 rfl (RC.kn eQ.knows rc1)) rfl ?_)
 rintro v3 Φ_2 D1 ⟨fr2,h2⟩
 replace h2:OSl eQ 69 3 Φ_2 ((ob v2++[])) v3 ([(⟨p0.Next,x2⟩:aP)]:List aP):=by simpa [List.append_assoc] using h2
 replace ph0_0:=ph0_0.f0 fr2
 replace pp0:=fr2 _ _ (by simp) pp0
 refine WM.conv (S':=St w0 Φ_2 [(b_1,.cells #[.string p1.Kind,pv1_0] 47 (0,0))] [((ob v2++[])),ob v3,[pb0],ob pv0_0]) (fun w1 hw=>hw.merge (js:=[1]) rfl (SP.eq (by simp [List.append_assoc,bv]))) ?_
 obtain ⟨x3,hx3,h⟩:=bs h
 have kf2:=kf1.se fr2
 refine WM.one 13 (by kernel_rfl) (me rfl (fun _ v Φx D w1 hq hw=>Kn.of (kf2.st hq.1.2 (hq.1.1.r (i:=2) rfl)) (am [0] rfl) hw) (bU bh.lasts bh.one nX DF rfl rfl rfl rfl rfl (js:=[3]) (Rr:=[((ob v2++[])),ob v3,[pb0]]) rfl ph0_0 (h2.gives eQ.gives) (fun ap=>(ap.o pa0_0)) (fun ap=>ap.q 0 rfl) hx3) rfl ?_)
 rintro v4 Φ_3 D2 ⟨⟨ap2,fr3⟩,h3⟩
 replace pp0:=fr3 _ _ ((ap2.q 2 rfl) _ (by simp)) pp0
 have kf3:=kf2.st fr3 (ap2.q 2 rfl)
 refine mqT 14 [15,16] rfl (by kernel_rfl) (kn kf3 (am [0] rfl)) (aC rfl) rfl<|mq 15 rfl (by kernel_rfl) (kn kf3 (am [0] rfl)) (ab lC rfl) rfl ?_
 refine WM.thw (js:=[3]) (R:=[ob v4,((ob v2++[])),ob v3]) rfl pp0 (fun Φ_4 ap3 fr4=>?_)
 replace h3:=h3.fr fr4 (ap3.q 0 rfl) (Dj.app (ap3.o pa0_0) (ap3.q 1 rfl))
 refine on1 16 (ms1 0 rfl nk DQ rfl h3.one ?_)
 refine WM.nil (by kernel_rfl)<|atr 4 [] rfl<|lq (aC rfl) rfl<|arr 3 [1,0] rfl<|lq (aC rfl) rfl<|lf uu rfl rfl rfl<|so1 0 wQ rfl rfl ?_
 refine arr 4 [] rfl<|lq (aC rfl) rfl<|art 5 [1,0] rfl ?_
 refine WT.frz (js:=[0]) (R:=[(b_1,.cells #[.string p1.Kind,pv1_0] 47 (0,0))]) rfl (fun Φ_5 fr5 k1=>?_)
 replace h3:=h3.f0 fr5
 refine WT.ret hF (az.one rfl) (fun w1 hw=>?_)
 cases h
 replace hw:=hw.merge (js:=[2]) (F:=[((ob v2++[]))].flatten) rfl (SP.eq (by simp))
 refine bc (js:=[1,1,0]) hw rfl ⟨v4,(pD0_0++((ob v2++[]))),[((ob v2++[]))].flatten,rfl,rfl,h3,(fun k hk=>((List.mem_append.1 hk).elim (fun h=>(List.mem_append.2 (.inr h))) (fun h=>(List.mem_append.2 (.inl (List.mem_flatten.2 ⟨((ob v2++[])),by simp,h⟩)))))),k1⟩
theorem jg (w0:aw Ψ Φ []) (p0:ah) (p1:Int) (ph0_0:RSl bh 3 Ψ pG0_0 pv0_0 p0.Items) {r:aA × Bool} (h:iL N p0 p1=some r) :
  Calls prog 53 [.agg [pv0_0,iV p0.Next].toArray,iV p1].toArray w0.w (bg Φ w0.w [] (fun Φ' Fs v=>∃ (sr_0_0:Value),v = .tuple #[.agg [.string r.1.Kind,sr_0_0].toArray,.bool r.2]∧Fs=[ob sr_0_0]∧OSl aH 91 3 Φ' [] sr_0_0 r.1.Fields)):=by
 refine eN func53 rfl ntmps53 rfl w0 fun hF=>?_
 unfold iL at h
 refine sr<|lbx rfl fun b_1=>lnz j9 rfl fun b_2=>art 8 [] rfl ?_
 refine lin (σ:=Int) (fun s=>[(1,iV p1),(2,pQ b_1),(4,pQ b_2),(6,iV s)]) (fun s=>St w0 Φ [(b_2,.cells #[.string (⟨#[]⟩:ByteArray),.slice none 0 0] 47 (0,0)),(b_1,.cells #[pv0_0,iV p0.Next] 37 (0,0))] []) (fun m s=>fg N p0 p1 m s=some r) (0) N h (sx [] [0,0]) (fun n1 ih1 s hm=>?_)
 revert hm; revert s; intro s1 hm
 have h:fg N p0 p1 (n1+1) s1=some r:=hm
 show WT _ _ [(1,iV p1),(2,pQ b_1),(4,pQ b_2),(6,iV s1)] (St w0 Φ [(b_2,.cells #[.string (⟨#[]⟩:ByteArray),.slice none 0 0] 47 (0,0)),(b_1,.cells #[pv0_0,iV p0.Next] 37 (0,0))] [])
 unfold fg at h
 refine atr 6 [0,32] rfl<|lnr ph0_0 rfl<|la rfl<|en ?_
 refine ch h rfl ?_ ?_ <;> intro h
 ·refine atr 8 [0,32] rfl ?_
  obtain ⟨x1,hx1,h⟩:=bs h
  obtain ⟨cs1,F1,-,g1,hb1,hs1,r1⟩:=ph0_0.el (a9 hx1).2.2
  obtain ⟨v1,G1,rfl,hq1,h1⟩:=r1
  obtain rfl:=hq1.symm
  refine lia ph0_0 hx1 rfl<|lf pT rfl rfl rfl<|lhx 0 0 g1 rfl<|art 3 [] rfl ?_
  refine ch h rfl ?_ ?_ <;> intro h
  ·refine atr 5 [0,32] rfl ?_
   obtain ⟨x2,hx2,h⟩:=bs h
   obtain ⟨cs2,F2,-,g2,hb2,hs2,r2⟩:=ph0_0.el (a9 hx2).2.2
   obtain ⟨v2,G2,rfl,hq2,h2⟩:=r2
   obtain rfl:=hq2.symm
   refine lia ph0_0 hx2 rfl<|lf xD rfl rfl rfl<|lhx 1 2 g2 rfl<|kab h rfl rfl rfl (fun b z q=>rf N b x2.F (h2.y z) q) ?_
   rintro x3 h v3 Φ_1 F3 ⟨ap1,fr1,v4,rfl,rfl,h3⟩
   refine soN 0 jL rfl ⟨rfl,h3.one,trivial⟩ rfl ?_
   refine la rfl<|en ?_
   exact rtg [0] hF (az.two (aX ni rfl (fun w1 hw=>hw.rgO (i:=0) rfl 0 2 [.string x3.Kind,v4] rfl) rfl) rfl) rfl (by cases h; exact fun w1 hw=>⟨v4,rfl,rfl,h3⟩)
  refine att 7 [] rfl ?_
  exact lb [] [0,0] (ih1 _ h)
 refine xt rfl<|sr<|lq (aQ (vs:=[]) (C:=#[.string (⟨#[]⟩:ByteArray),.slice none 0 0]) zJ j9 rfl (aa)) rfl<|soN 0 jL rfl ⟨rfl,rfl,trivial⟩ rfl ?_
 refine la rfl<|en ?_
 refine WT.ret hF (az.two (aX ni rfl (fun w1 hw=>hw.rgO (i:=0) rfl 0 2 [.string (⟨#[]⟩:ByteArray),.slice none 0 0] rfl) rfl) rfl) (fun w1 hw=>?_)
 cases h
 replace hw:=hw.addNil
 refine bc (js:=[0]) hw rfl ⟨.slice none 0 0,rfl,rfl,OSl.nil _ _ _ _⟩
theorem ce  (w0:aw Ψ Φ []) (p0:Int) (p1:Int) (p2:Int)  {r:Bool} (h:cZ N p0 p1 p2=some r) :
  CB w0 prog 80 [iV p0,iV p1,iV p2] (.bool r):=by
 refine eN func80 rfl ntmps80 rfl w0 fun hF=>?_
 unfold cZ at h
 refine atr 10 [] rfl ?_
 obtain ⟨b1,hb_1,h⟩:=bs h
 refine WL.cutN 4 [(14,.bool b1),(6,.bool false)] ?_ (fun K=>?_)
 rotate_left
 ·refine sp 10 hb_1 rfl (fun hb_1=>?_) fun hb_1=>?_
  ·refine arr 4 [] rfl ?_
   cases hb_1
   exact ku K
  ·refine arr 4 [] rfl ?_
   cases hb_1
   exact ku K
 refine la rfl<|en ?_
 exact rt hF h
theorem vC (w0:aw Ψ Φ []) (p0:ai) (p1:aA) (ph0_0:RSl aH 3 Ψ pG0_0 pv0_0 p0.Consts) (ph0_1:RSl (RI .i64) 1 Ψ pG0_1 pv0_1 p0.At) (ph1_0:RSl aH 3 Ψ pG1_0 pv1_0 p1.Fields) {r:Bool} (h:nu N p0 p1=some r) :
  CB w0 prog 57 [.agg [.string p0.Kind,iV p0.N,pv0_0,pv0_1].toArray,.agg [.string p1.Kind,pv1_0].toArray] (.bool r):=by
 refine eN func57 rfl ntmps57 rfl w0 fun hF=>?_
 unfold nu at h
 refine sr<|lbx rfl fun b_1=>lbx rfl fun b_2=>arr 11 [0,32,0,0] rfl ?_
 obtain ⟨b1,hb_1,h⟩:=bs h
 refine WL.cutN 7 [(19,.bool b1),(2,pQ b_1),(3,pQ b_2)] ?_ (fun K=>?_)
 rotate_left
 ·refine sp 12 hb_1 rfl (fun hb_1=>?_) fun hb_1=>?_
  ·refine arr 7 [] rfl ?_
   cases hb_1
   exact ku K
  ·refine arr 4 [1,32,1,0] rfl<|ly rfl rfl<|lnr ph1_0 rfl<|arr 2 [] rfl ?_
   cases hb_1
   exact ku K
 refine en ?_
 refine ch h rfl ?_ ?_ <;> intro h
 ·refine att 4 [] rfl ?_
  exact rt hF h
 refine att 7 [] rfl ?_
 refine lin (σ:=Int) (fun s=>[(2,pQ b_1),(3,pQ b_2),(5,iV s)]) (fun s=>St w0 Φ [(b_2,.cells #[.string p1.Kind,pv1_0] 47 (0,0)),(b_1,.cells #[.string p0.Kind,iV p0.N,pv0_0,pv0_1] 75 (0,0))] []) (fun m s=>gg N p0 p1 m s=some r) (0) N h (sx [] [0,0]) (fun n1 ih1 s hm=>?_)
 revert hm; revert s; intro s1 hm
 have h:gg N p0 p1 (n1+1) s1=some r:=hm
 show WT _ _ [(2,pQ b_1),(3,pQ b_2),(5,iV s1)] (St w0 Φ [(b_2,.cells #[.string p1.Kind,pv1_0] 47 (0,0)),(b_1,.cells #[.string p0.Kind,iV p0.N,pv0_0,pv0_1] 75 (0,0))] [])
 unfold gg at h
 refine atr 6 [3,32] rfl<|lnr ph0_1 rfl<|la rfl<|en ?_
 refine ch h rfl ?_ ?_ <;> intro h
 ·refine atr 8 [3,32] rfl ?_
  obtain ⟨x1,hx1,h⟩:=bs h
  obtain ⟨cs1,F1,-,g1,hb1,hs1,r1⟩:=ph0_1.el (a9 hx1).2.2
  obtain ⟨rfl,-⟩:=r1
  refine lia ph0_1 hx1 rfl<|lhx 0 0 g1 rfl<|art 3 [] rfl<|WT.draw cc (by kernel_rfl) (fun _ h=>h.drew)<|aqq 3 [2,32] rfl<|qq (o5 fT rfl rfl ph0_0) rfl<|aqq 2 [] rfl ?_
  obtain ⟨b2,hb_2,h⟩:=bs h
  refine WQ.cutN 8 [(45,.bool b2),(2,pQ b_1),(3,pQ b_2),(5,iV s1),(6,iV x1)] ?_ (fun K=>?_)
  rotate_left
  ·refine WQ.split (d:=37) rfl (fun c4=>?_) (fun c4=>?_)
   ·replace hb_2:=fN hb_2 c4
    refine aqq 8 [] rfl ?_
    cases hb_2
    exact kq K
   ·replace hb_2:=fO hb_2 c4
    refine aqq 3 [1,0] rfl<|WQ.yes rfl rfl<|qq (o5 fT rfl rfl ph1_0) rfl<|WQ.yes rfl rfl<|qq (za rfl rfl) rfl<|WQ.yes rfl rfl ?_
    obtain ⟨x2,hx2,hb_2⟩:=bs hb_2
    refine qp (cQ AS rfl (fun w1 hw=>ce N (ba hw.fro) x1 0 (wz ((p1.Fields.length:Int) - 1)) hx2)) rfl<|aqq 2 [] rfl ?_
    cases hb_2
    exact kq K
  refine qq (ep rfl) rfl ?_
  obtain ⟨b3,hb_3,h⟩:=bs h
  refine WQ.cutN 12 [(58,.bool b3),(2,pQ b_1),(3,pQ b_2),(5,iV s1)] ?_ (fun K=>?_)
  rotate_left
  ·refine WQ.split (d:=46) rfl (fun c5=>?_) (fun c5=>?_)
   ·replace hb_3:=fN hb_3 c5
    refine aqq 12 [] rfl ?_
    cases hb_3
    exact kq K
   ·replace hb_3:=fO hb_3 c5
    refine aqq 3 [1,0] rfl<|WQ.yes rfl rfl ?_
    obtain ⟨x3,hx3,hb_3⟩:=bs hb_3
    obtain ⟨cs2,F2,-,g2,hb2,hs2,r2⟩:=ph1_0.el (a9 hx3).2.2
    obtain ⟨rfl,-⟩:=r2
    refine qq (ac fT rfl rfl ph1_0 hx3) rfl<|WQ.yes rfl rfl<|qq (aI kz rfl (fun w1 hw=>(g2.of_eq 0 3 rfl rfl:rg _ _ _ [iV x3.K,iV x3.N,.string x3.S]).rangeAt hw.in0) rfl) rfl<|aqq 3 [2,32] rfl<|WQ.yes rfl rfl ?_
    obtain ⟨x4,hx4,hb_3⟩:=bs hb_3
    obtain ⟨cs3,F3,-,g3,hb3,hs3,r3⟩:=ph0_0.el (a9 hx4).2.2
    obtain ⟨rfl,-⟩:=r3
    refine qq (ac fT rfl rfl ph0_0 hx4) rfl<|WQ.yes rfl rfl<|qq (aI kz rfl (fun w1 hw=>(g3.of_eq 0 3 rfl rfl:rg _ _ _ [iV x4.K,iV x4.N,.string x4.S]).rangeAt hw.in0) rfl) rfl<|WQ.yes rfl rfl<|qq (te mK rfl rfl rfl (r:=bo x3 x4) rfl) rfl<|WQ.q (nT rfl rfl) rfl rfl rfl ?_
    cases hb_3
    exact kq K
  refine WQ.nil ?_
  refine ch h rfl ?_ ?_ <;> intro h
  ·refine att 4 [] rfl ?_
   exact rt hF h
  refine att 7 [] rfl ?_
  exact lb [] [0,0] (ih1 _ h)
 refine att 5 [] rfl ?_
 exact rt hF h
theorem vE (w0:aw Ψ Φ []) (p0:(List aD)) (p1:ByteArray) (ph0:RSl bi 4 Ψ pG0 pv0 p0) {r:bn × Bool} (h:nA N p0 p1=some r) :
  CB w0 prog 144 [pv0,.string p1] (.tuple #[.agg [iV r.1.K,iV r.1.N,.string r.1.S].toArray,.bool r.2]):=by
 refine eN func144 rfl ntmps144 rfl w0 fun hF=>?_
 unfold nA at h
 refine sr<|lnz jk rfl fun b_1=>art 8 [] rfl ?_
 refine lin (σ:=Int) (fun s=>[(0,pv0),(1,.string p1),(4,pQ b_1),(6,iV s)]) (fun s=>St w0 Φ [(b_1,.cells #[iV 0,iV 0,.string (⟨#[]⟩:ByteArray)] 91 (0,0))] []) (fun m s=>ga N p0 p1 m s=some r) (0) N h (sx [] [0]) (fun n1 ih1 s hm=>?_)
 revert hm; revert s; intro s1 hm
 have h:ga N p0 p1 (n1+1) s1=some r:=hm
 show WT _ _ [(0,pv0),(1,.string p1),(4,pQ b_1),(6,iV s1)] (St w0 Φ [(b_1,.cells #[iV 0,iV 0,.string (⟨#[]⟩:ByteArray)] 91 (0,0))] [])
 unfold ga at h
 refine atr 5 [] rfl<|lnr ph0 rfl<|la rfl<|en ?_
 refine ch h rfl ?_ ?_ <;> intro h
 ·refine atr 7 [] rfl ?_
  obtain ⟨x1,hx1,h⟩:=bs h
  obtain ⟨cs1,F1,-,g1,hb1,hs1,r1⟩:=ph0.el (a9 hx1).2.2
  obtain ⟨rfl,-⟩:=r1
  refine lia ph0 hx1 rfl<|lf A9 rfl rfl rfl<|lhx 0 0 g1 rfl<|art 3 [] rfl ?_
  refine ch h rfl ?_ ?_ <;> intro h
  ·refine atr 4 [] rfl ?_
   obtain ⟨x2,hx2,h⟩:=bs h
   obtain ⟨cs2,F2,-,g2,hb2,hs2,r2⟩:=ph0.el (a9 hx2).2.2
   obtain ⟨rfl,-⟩:=r2
   refine lia ph0 hx2 rfl<|lf Ac rfl rfl rfl<|lhx 1 3 g2 rfl<|soN 0 qZ rfl ⟨rfl,rfl,rfl,trivial⟩ rfl ?_
   refine la rfl<|en ?_
   refine WT.ret hF (az.two (aX kz rfl (fun w1 hw=>hw.rgO (i:=0) rfl 0 3 [iV x2.V.K,iV x2.V.N,.string x2.V.S] rfl) rfl) rfl) (fun w1 hw=>?_)
   cases h
   exact gi hw
  refine att 7 [] rfl ?_
  exact lb [] [0] (ih1 _ h)
 refine xt rfl<|sr<|lq (aQ (vs:=[]) (C:=#[iV 0,iV 0,.string (⟨#[]⟩:ByteArray)]) tl jk rfl (aa)) rfl<|soN 0 qZ rfl ⟨rfl,rfl,rfl,trivial⟩ rfl ?_
 refine la rfl<|en ?_
 refine WT.ret hF (az.two (aX kz rfl (fun w1 hw=>hw.rgO (i:=0) rfl 0 3 [iV 0,iV 0,.string (⟨#[]⟩:ByteArray)] rfl) rfl) rfl) (fun w1 hw=>?_)
 cases h
 exact gi hw
theorem pM (w0:aw Ψ Φ []) (p0:av) (p1:aA) (p2:(List aD)) (ph0_0:RSl du 5 Ψ pG0_0 pv0_0 p0.Args) (ph1_0:RSl aH 3 Ψ pG1_0 pv1_0 p1.Fields) (ph2:RSl bi 4 Ψ pG2 pv2 p2) {r:(List aD) × Bool} (h:j6 N p0 p1 p2=some r) :
  Calls prog 134 [.agg [.string p0.Kind,pv0_0,.bool p0.Not].toArray,.agg [.string p1.Kind,pv1_0].toArray,pv2].toArray w0.w (bg Φ w0.w [] (fun Φ' Fs v=>∃ (sr_0_0:Value),v = .tuple #[sr_0_0,.bool r.2]∧Fs=[ob sr_0_0]∧OSl bi 177 4 Φ' [] sr_0_0 r.1)):=by
 refine eN func134 rfl ntmps134 rfl w0 fun hF=>?_
 unfold j6 at h
 refine sr<|lbx rfl fun b_1=>lbx rfl fun b_2=>arr 5 [] rfl<|le' (dI bi.lasts kL pn rfl rfl) rfl ?_
 rintro v1 Φ_1 D1 ⟨fr1,h1⟩
 refine la rfl<|lu0 ph2 fun h2=>?_
 obtain ⟨x1,hx1,h⟩:=bs h
 refine le' (bB bi.lasts bi.one bi.flat kL uT rfl rfl rfl rfl rfl (js:=[0]) (Rr:=[]) rfl h1 h2 hx1) rfl ?_
 rintro v2 Φ_2 D2 ⟨⟨ap1,fr2⟩,h3⟩
 refine arr 11 [0,32,0,0] rfl ?_
 obtain ⟨b1,hb_1,h⟩:=bs h
 refine WL.cutN 8 [(29,.bool b1),(2,pv2),(3,pQ b_1),(4,pQ b_2),(8,v2)] ?_ (fun K=>?_)
 rotate_left
 ·refine sp 21 hb_1 rfl (fun hb_1=>?_) fun hb_1=>?_
  ·refine arr 8 [] rfl ?_
   cases hb_1
   exact ku K
  ·refine arr 2 [1,32] rfl<|ly rfl rfl<|lnr ph0_0 rfl<|arr 2 [1,0] rfl<|ly rfl rfl<|lnr ph1_0 rfl<|arr 2 [] rfl ?_
   cases hb_1
   exact ku K
 refine en ?_
 refine ch h rfl ?_ ?_ <;> intro h
 ·refine att 6 [] rfl ?_
  exact rtg [0] hF (az.two rfl rfl) rfl (by cases h; exact fun w1 hw=>⟨v2,rfl,rfl,h3⟩)
 refine att 7 [] rfl ?_
 refine lin (σ:=Hp × (List aD) × Value × Int) (fun s=>[(2,pv2),(3,pQ b_1),(4,pQ b_2),(8,s.2.2.1),(9,iV s.2.2.2)]) (fun s=>St w0 s.1 [(b_2,.cells #[.string p1.Kind,pv1_0] 47 (0,0)),(b_1,.cells #[.string p0.Kind,pv0_0,.bool p0.Not] 128 (0,0))] [ob s.2.2.1]) (fun m s=>eR N p0 p1 p2 m s.2.1 s.2.2.2=some r∧(OSl bi 177 4 s.1 [] s.2.2.1 s.2.1)) (Φ_2,x1,v2,0) N ⟨h,h3⟩ (sx [0] [0,0]) (fun n1 ih1 s hm=>?_)
 obtain ⟨Φ_3,s1,u1,s2⟩:=s
 obtain ⟨h,k1⟩:=hm
 dsimp only at h k1 ⊢
 unfold eR at h
 refine atr 6 [1,32] rfl<|lnr ph0_0 rfl<|la rfl<|en ?_
 refine ch h rfl ?_ ?_ <;> intro h
 ·refine atr 8 [1,32] rfl ?_
  obtain ⟨x2,hx2,h⟩:=bs h
  obtain ⟨cs1,F1,-,g1,hb1,hs1,r1⟩:=ph0_0.el (a9 hx2).2.2
  obtain ⟨rfl,-⟩:=r1
  refine lia ph0_0 hx2 rfl<|lhx 0 5 g1 rfl<|lnz iu rfl fun b_3=>soN 0 gy rfl ⟨rfl,rfl,rfl,rfl,rfl,trivial⟩ rfl ?_
  refine arr 6 [1,0] rfl<|qc h (vE N · s1 x2.S k1.rsl ·) rfl rfl rfl fun x3 h=>arr 3 [] rfl<|lnz jk rfl fun b_4=>soN 0 qZ rfl ⟨rfl,rfl,rfl,trivial⟩ rfl ?_
  refine art 4 [] rfl<|WT.draw cc (by kernel_rfl) (fun _ h=>h.drew)<|aqq 4 [0,32] rfl ?_
  obtain ⟨b2,hb_2,h⟩:=bs h
  refine WQ.cutN 9 [(62,.bool b2),(2,pv2),(3,pQ b_1),(4,pQ b_2),(8,u1),(9,iV s2),(10,pQ b_3),(11,pQ b_4),(12,.bool x3.2)] ?_ (fun K=>?_)
  rotate_left
  ·refine WQ.split (d:=53) rfl (fun c4=>?_) (fun c4=>?_)
   ·replace hb_2:=fN hb_2 c4
    refine aqq 5 [2,35,1,64] rfl<|WQ.yes rfl rfl ?_
    obtain ⟨x4,hx4,hb_2⟩:=bs hb_2
    obtain ⟨cs2,F2,-,g2,hb2,hs2,r2⟩:=ph1_0.el (a9 hx4).2.2
    obtain ⟨rfl,-⟩:=r2
    refine qq (ac fT rfl rfl ph1_0 hx4) rfl<|WQ.yes rfl rfl<|qq (aI kz rfl (fun w1 hw=>(g2.of_eq 0 3 rfl rfl:rg _ _ _ [iV x4.K,iV x4.N,.string x4.S]).rangeAt hw.in0) rfl) rfl<|WQ.yes rfl rfl<|qq (te mK rfl rfl rfl (r:=bo x2.V x4) rfl) rfl<|WQ.q (ph rfl rfl) rfl rfl rfl ?_
    cases hb_2
    exact kq K
   ·replace hb_2:=fO hb_2 c4
    refine aqq 9 [] rfl ?_
    cases hb_2
    exact kq K
  refine qq (ep rfl) rfl ?_
  obtain ⟨b3,hb_3,h⟩:=bs h
  refine WQ.cutN 16 [(79,.bool b3),(2,pv2),(3,pQ b_1),(4,pQ b_2),(8,u1),(9,iV s2),(10,pQ b_3),(12,.bool x3.2)] ?_ (fun K=>?_)
  rotate_left
  ·refine WQ.split (d:=63) rfl (fun c5=>?_) (fun c5=>?_)
   ·replace hb_3:=fN hb_3 c5
    refine aqq 16 [] rfl ?_
    cases hb_3
    exact kq K
   ·replace hb_3:=fO hb_3 c5
    refine aqq 4 [0,32] rfl ?_
    obtain ⟨b4,hb_4,hb_3⟩:=bs hb_3
    refine WQ.cutN 2 [(69,.bool b4),(2,pv2),(3,pQ b_1),(4,pQ b_2),(8,u1),(9,iV s2),(10,pQ b_3),(11,pQ b_4),(12,.bool x3.2),(63,.bool false)] ?_ (fun K=>?_)
    rotate_left
    ·refine WQ.split (d:=67) rfl (fun c6=>?_) (fun c6=>?_)
     ·replace hb_4:=fN hb_4 c6
      refine aqq 2 [] rfl ?_
      cases hb_4
      exact kq K
     ·replace hb_4:=fO hb_4 c6
      refine aqq 2 [] rfl ?_
      cases hb_4
      exact kq K
    refine WQ.yes rfl rfl<|qq (ep rfl) rfl ?_
    obtain ⟨b5,hb_5,hb_3⟩:=bs hb_3
    refine WQ.cutN 8 [(78,.bool b5),(2,pv2),(3,pQ b_1),(4,pQ b_2),(8,u1),(9,iV s2),(10,pQ b_3),(12,.bool x3.2),(63,.bool false)] ?_ (fun K=>?_)
    rotate_left
    ·refine WQ.split (d:=70) rfl (fun c7=>?_) (fun c7=>?_)
     ·replace hb_5:=fN hb_5 c7
      refine aqq 4 [3,1,64] rfl<|WQ.yes rfl rfl ?_
      obtain ⟨x5,hx5,hb_5⟩:=bs hb_5
      obtain ⟨cs3,F3,-,g3,hb3,hs3,r3⟩:=ph1_0.el (a9 hx5).2.2
      obtain ⟨rfl,-⟩:=r3
      refine qq (ac fT rfl rfl ph1_0 hx5) rfl<|WQ.yes rfl rfl<|qq (aI kz rfl (fun w1 hw=>(g3.of_eq 0 3 rfl rfl:rg _ _ _ [iV x5.K,iV x5.N,.string x5.S]).rangeAt hw.in0) rfl) rfl<|WQ.yes rfl rfl<|qq (te mK rfl rfl rfl (r:=bo x3.1 x5) rfl) rfl<|WQ.yes rfl rfl<|WQ.q (ph rfl rfl) rfl rfl rfl ?_
      cases hb_5
      exact kq K
     ·replace hb_5:=fO hb_5 c7
      refine aqq 8 [] rfl ?_
      cases hb_5
      exact kq K
    refine WQ.q (nT rfl rfl) rfl rfl rfl ?_
    cases hb_3
    exact kq K
  refine WQ.nil ?_
  refine ch h rfl ?_ ?_ <;> intro h
  ·refine sr<|le' (dI bi.lasts kL pn rfl rfl) rfl ?_
   rintro v3 Φ_4 D3 ⟨fr3,h4⟩
   refine la rfl<|lu0 ph2 fun h5=>?_
   obtain ⟨x6,hx6,h⟩:=bs h
   refine le' (bB bi.lasts bi.one bi.flat kL uT rfl rfl rfl rfl rfl (js:=[0]) (Rr:=[ob u1]) rfl h4 h5 hx6) rfl ?_
   rintro v4 Φ_5 D4 ⟨⟨ap2,fr4⟩,h6⟩
   refine art 3 [] rfl ?_
   exact rtg [0] hF (az.two rfl rfl) rfl (by cases h; exact fun w1 hw=>⟨v4,rfl,rfl,h6⟩)
  refine atr 7 [0,32] rfl ?_
  obtain ⟨b6,hb_6,h⟩:=bs h
  refine WL.cutN 3 [(89,.bool b6),(2,pv2),(3,pQ b_1),(4,pQ b_2),(8,u1),(9,iV s2),(10,pQ b_3)] ?_ (fun K=>?_)
  rotate_left
  ·refine sp 86 hb_6 rfl (fun hb_6=>?_) fun hb_6=>?_
   ·refine arr 3 [] rfl ?_
    cases hb_6
    exact ku K
   ·refine arr 3 [] rfl ?_
    cases hb_6
    exact ku K
  refine en ?_
  refine ch h rfl ?_ ?_ <;> intro h
  ·refine wm [0,1,2,3] [] rfl<|amm 6 [0,1,1,2,32,3,1,4,64,5] [0,1,2,3] rfl rfl ?_
   obtain ⟨x7,hx7,h⟩:=bs h
   obtain ⟨cs4,F4,-,g4,hb4,hs4,r4⟩:=ph1_0.el (a9 hx7).2.2
   obtain ⟨rfl,-⟩:=r4
   refine mq 6 rfl (by kernel_rfl) (kN [0,1,2,3]) (ac fT rfl rfl ph1_0 hx7) rfl<|mq 7 rfl (by kernel_rfl) (kN [0,1,2,3]) (aI kz rfl (fun w1 hw=>(g4.of_eq 0 3 rfl rfl:rg _ _ _ [iV x7.K,iV x7.N,.string x7.S]).rangeAt hw.1) rfl) rfl ?_
   refine mq 8 rfl (by kernel_rfl) (kN [0,1,2,3]) (aQ (vs:=[(0,.string x2.S),(1,.agg [iV x7.K,iV x7.N,.string x7.S].toArray)]) (C:=#[.string x2.S,iV x7.K,iV x7.N,.string x7.S]) BI pn rfl (a7 (C':=[.string x2.S,iV 0,iV 0,.string ⟨#[]⟩]) rfl rfl rfl rfl rfl (a7 (C':=[.string x2.S,iV x7.K,iV x7.N,.string x7.S]) rfl rfl rfl rfl rfl (aa)))) rfl ?_
   have rc3:RC bi 4 Φ_3 ([[]]:List (List Nat)) [.string x2.S,iV x7.K,iV x7.N,.string x7.S] ([(⟨x2.S,x7⟩:aD)]:List aD):=RC.cons (c:=[.string x2.S,iV x7.K,iV x7.N,.string x7.S]) (cells:=[]) ⟨rfl,rfl⟩ rfl (RC.nil _ _ _)
   refine WM.one 9 (by kernel_rfl) (me rfl (fun _ v Φx D w1 hq hw=>Kn.of Kf.nil (am [0,1,2,3] rfl) hw) (aY (vs:=[(0,.agg [.string x2.S,iV x7.K,iV x7.N,.string x7.S].toArray)]) (C:=#[.string x2.S,iV x7.K,iV x7.N,.string x7.S]) bi.lasts kL pn rfl rfl rfl rfl (ag yc (a7 (C':=[.string x2.S,iV x7.K,iV x7.N,.string x7.S]) rfl rfl rfl rfl rfl (aa))) rfl rc3 rfl (by simpa using Kw.nil)) rfl ?_)
   rintro v5 Φ_6 D5 ⟨fr5,h7⟩
   replace h7:OSl bi 177 4 Φ_6 [] v5 ([(⟨x2.S,x7⟩:aD)]:List aD):=by simpa using h7
   replace k1:=k1.f0 fr5
   obtain ⟨x8,hx8,h⟩:=bs h
   refine WM.one 10 (by kernel_rfl) (me rfl (fun _ v Φx D w1 hq hw=>Kn.of Kf.nil (am [0,1,2,3] rfl) hw) (bB bi.lasts bi.one bi.flat kL uT rfl rfl rfl rfl rfl (js:=[1]) (Rr:=[ob v5]) rfl k1 h7.rsl hx8) rfl ?_)
   rintro v6 Φ_7 D6 ⟨⟨ap3,fr6⟩,h8⟩
   refine amm 1 [11] [0,1,2,3] rfl rfl<|WM.nil (by kernel_rfl)<|att 6 [] rfl ?_
   exact lb [0] [2,2] (ih1 (_,_,_,_) ⟨h,h8⟩)
  refine att 7 [] rfl ?_
  exact lb [0] [2,2] (ih1 (_,_,_,_) ⟨h,k1⟩)
 refine att 7 [] rfl ?_
 exact rtg [0] hF (az.two rfl rfl) rfl (by cases h; exact fun w1 hw=>⟨u1,rfl,rfl,k1⟩)
theorem m6 (w0:aw Ψ Φ []) (p0:an) (p1:ah) (p2:(List Int)) (ph0_0:RSl bW 3 Ψ pG0_0 pv0_0 p0.Pats) (ph0_1:RSl bL 11 Ψ pG0_1 pv0_1 p0.Conds) (ph0_2:RSl fS 5 Ψ pG0_2 pv0_2 p0.Acts) (ph1_0:RSl bh 3 Ψ pG1_0 pv1_0 p1.Items) (ph2:RSl (RI .i64) 1 Ψ pG2 pv2 p2) {r:(List aD) × Bool} (h:gS N p0 p1 p2=some r) :
  Calls prog 108 [.agg [.string p0.Name,iV p0.Sal,pv0_0,pv0_1,pv0_2].toArray,.agg [pv1_0,iV p1.Next].toArray,pv2].toArray w0.w (bg Φ w0.w [] (fun Φ' Fs v=>∃ (sr_0_0:Value),v = .tuple #[sr_0_0,.bool r.2]∧Fs=[ob sr_0_0]∧OSl bi 177 4 Φ' [] sr_0_0 r.1)):=by
 refine eN func108 rfl ntmps108 rfl w0 fun hF=>?_
 unfold gS at h
 refine sr<|lbx rfl fun b_1=>lbx rfl fun b_2=>arr 5 [] rfl<|le' (dI bi.lasts kL pn rfl rfl) rfl ?_
 rintro v1 Φ_1 D1 ⟨fr1,h1⟩
 refine art 8 [] rfl ?_
 refine lin (σ:=Hp × (List aD) × Value × Int) (fun s=>[(2,pv2),(3,pQ b_1),(4,pQ b_2),(8,s.2.2.1),(9,iV s.2.2.2)]) (fun s=>St w0 s.1 [(b_2,.cells #[pv1_0,iV p1.Next] 37 (0,0)),(b_1,.cells #[.string p0.Name,iV p0.Sal,pv0_0,pv0_1,pv0_2] 120 (0,0))] [ob s.2.2.1]) (fun m s=>dF N p0 p1 p2 m s.2.1 s.2.2.2=some r∧(OSl bi 177 4 s.1 [] s.2.2.1 s.2.1)) (Φ_1,([]:List aD),v1,0) N ⟨h,h1⟩ (sx [0] [0,0]) (fun n1 ih1 s hm=>?_)
 obtain ⟨Φ_2,s1,u1,s2⟩:=s
 obtain ⟨h,k1⟩:=hm
 dsimp only at h k1 ⊢
 unfold dF at h
 refine atr 5 [] rfl<|lnr ph2 rfl<|la rfl<|en ?_
 refine ch h rfl ?_ ?_ <;> intro h
 ·refine att 4 [] rfl ?_
  refine cut (σ:=Hp × Nat × (List bn) × Value × Bool × ByteArray) (fun s=>[(2,pv2),(3,pQ b_1),(4,pQ b_2),(8,u1),(9,iV s2),(10,.pointer (some ⟨s.2.1,0,none⟩)),(11,.bool s.2.2.2.2.1)]) (fun s=>St w0 s.1 [(s.2.1,.cells #[.string s.2.2.2.2.2,s.2.2.2.1] 47 (0,0)),(b_2,.cells #[pv1_0,iV p1.Next] 37 (0,0)),(b_1,.cells #[.string p0.Name,iV p0.Sal,pv0_0,pv0_1,pv0_2] 120 (0,0))] [ob s.2.2.2.1,ob u1]) (fun s=>jo N p0 s1 s2 (dF N p0 p1 p2 n1) s.2.2.1 s.2.2.2.2.1 s.2.2.2.2.2=some r∧(OSl bi 177 4 s.1 [] u1 s1)∧(OSl aH 91 3 s.1 [] s.2.2.2.1 s.2.2.1)) (fun s hm=>?_) (fun K=>?_)
  ·clear h
   obtain ⟨Φ_4,b_4,s3,u2,s4,s5⟩:=s
   obtain ⟨h,k1,k2⟩:=hm
   dsimp only at h k1 k2 ⊢
   unfold jo at h
   refine sq<|wm [0,1,2] [] rfl<|amm 3 [0,2,1,64,2] [0,1,2] rfl rfl ?_
   obtain ⟨x3,hx3,h⟩:=bs h
   obtain ⟨cs2,F3,-,g2,hb2,hs2,r2⟩:=ph0_0.el (a9 hx3).2.2
   obtain ⟨v4,G1,rfl,hq1,h3⟩:=r2
   obtain rfl:=hq1.symm
   refine mq 3 rfl (by kernel_rfl) (kN [0,1,2]) (ac o7 rfl rfl ph0_0 hx3) rfl<|mq 4 rfl (by kernel_rfl) (kN [0,1,2]) (aI ve rfl (fun w1 hw=>(g2.of_eq 0 3 rfl rfl:rg _ _ _ [.string x3.Kind,v4,.bool x3.Not]).rangeAt hw.1) rfl) rfl<|amm 2 [5,2,6] [0,1,2] rfl rfl ?_
   obtain ⟨x4,hx4,h⟩:=bs h
   refine WM.one 7 (by kernel_rfl) (mc rfl (fun _ v Φx D w1 hq hw=>Kn.of Kf.nil (ai3 0 1 2 rfl rfl rfl) hw) (bZ (js:=[]) (R:=[ob u2,ob u1]) zH rfl rfl (fun w1 hw ap hl=>pM N (ba hw.fro) x3 (⟨s5,s3⟩:aA) s1 (h3.y hw.up) k2.rsl k1.rsl  hx4)) rfl ?_)
   rintro v5 Φ_5 F4 ⟨ap2,fr3,v6,rfl,rfl,h4⟩
   replace k1:=k1.fr fr3 (ap2.q 1 rfl) dN
   refine amm 5 [8,9,10,11,12] [0,1,2] rfl rfl<|WM.nil (by kernel_rfl)<|atr 6 [] rfl ?_
   obtain ⟨b1,hb_1,h⟩:=bs h
   refine WL.cutN 3 [(46,.bool b1),(2,pv2),(3,pQ b_1),(4,pQ b_2),(8,u1),(9,iV s2),(12,v6)] ?_ (fun K=>?_)
   rotate_left
   ·refine sp 43 hb_1 rfl (fun hb_1=>?_) fun hb_1=>?_
    ·refine arr 3 [] rfl ?_
     cases hb_1
     exact ku K
    ·refine arr 3 [] rfl ?_
     cases hb_1
     exact ku K
   refine en ?_
   refine ch h rfl ?_ ?_ <;> intro h
   ·refine att 6 [] rfl ?_
    exact rtg [2] hF (az.two rfl rfl) rfl (by cases h; exact fun w1 hw=>⟨u1,rfl,rfl,k1⟩)
   refine att 11 [] rfl ?_
   exact lb [0] [1,1] (ih1 (_,_,_,_) ⟨h,h4⟩)
  refine wm [0,1] [] rfl<|amm 3 [0,2,1,2] [0,1] rfl rfl ?_
  obtain ⟨x5,hx5,h⟩:=bs h
  obtain ⟨cs3,F5,-,g3,hb3,hs3,r3⟩:=ph2.el (a9 hx5).2.2
  obtain ⟨rfl,-⟩:=r3
  refine mq 3 rfl (by kernel_rfl) (kN [0,1]) (ac aW rfl rfl ph2 hx5) rfl<|mq 4 rfl (by kernel_rfl) (kN [0,1]) (au pt rfl (fun w1 hw=>(g3.of_eq 0 1 rfl rfl:rg _ _ _ [iV x5]).rangeAt hw.1)) rfl ?_
  refine WM.two 5 9 (by kernel_rfl) ?_ ?_
  ·obtain ⟨x6,hx6,h⟩:=bs h
   refine mc rfl (fun _ v Φx D w1 hq hw=>Kn.of Kf.nil (ai2 0 1 rfl rfl) hw) (bZ (js:=[]) (R:=[ob u1]) Bl rfl rfl (fun w1 hw ap hl=>jg N (ba hw.fro) p1 x5 (ph1_0.y hw.up)  hx6)) rfl ?_
   rintro v7 Φ_6 F6 ⟨ap3,fr4,v8,rfl,rfl,h5⟩
   replace k1:=k1.fr fr4 (ap3.q 0 rfl) dN
   refine amm 3 [6,7,8] [0,1] rfl rfl ?_
   refine on1 9 (mn rfl (kB [1,2]) (nz j9) rfl (fun b_5=>?_))
   refine on1 10 (msK 0 [1,2] rfl jL rfl ⟨rfl,h5.one,trivial⟩ rfl rfl ?_)
   refine amm 1 [11] [1,2] rfl rfl<|WM.nil (by kernel_rfl) ?_
   exact wo [0,0] [0,0,0] (K (_,_,_,_,_,_) ⟨h,k1,h5⟩)
  refine mn rfl (fun _ b w1 hw=>Kn.of Kf.nil (ai2 1 2 rfl rfl) hw) (nz j9) rfl (fun b_6=>?_)
  obtain ⟨x7,hx7,h⟩:=bs h
  refine WM.one 5 (by kernel_rfl) (mc rfl (fun _ v Φx D w1 hq hw=>Kn.of Kf.nil (ai2 1 2 rfl rfl) hw) (bZ (js:=[]) (R:=[ob u1]) Bl rfl rfl (fun w1 hw ap hl=>jg N (ba hw.fro) p1 x5 (ph1_0.y hw.up)  hx7)) rfl ?_)
  rintro v9 Φ_7 F7 ⟨ap4,fr5,v10,rfl,rfl,h6⟩
  replace k1:=k1.fr fr5 (ap4.q 0 rfl) dN
  refine amm 3 [6,7,8] [1,2] rfl rfl ?_
  refine on1 10 (msK 0 [1,2] rfl jL rfl ⟨rfl,h6.one,trivial⟩ rfl rfl ?_)
  refine amm 1 [11] [1,2] rfl rfl<|WM.nil (by kernel_rfl) ?_
  exact wo [0,0] [0,0,0] (K (_,_,_,_,_,_) ⟨h,k1,h6⟩)
 refine att 7 [] rfl ?_
 exact rtg [0] hF (az.two rfl rfl) rfl (by cases h; exact fun w1 hw=>⟨u1,rfl,rfl,k1⟩)
theorem rd (w0:aw Ψ Φ []) (p0:an) (p1:aA) (p2:(List aD)) (ph0_0:RSl bW 3 Ψ pG0_0 pv0_0 p0.Pats) (ph0_1:RSl bL 11 Ψ pG0_1 pv0_1 p0.Conds) (ph0_2:RSl fS 5 Ψ pG0_2 pv0_2 p0.Acts) (ph1_0:RSl aH 3 Ψ pG1_0 pv1_0 p1.Fields) (ph2:RSl bi 4 Ψ pG2 pv2 p2) {r:(List Int)} (h:kH N p0 p1 p2=some r) :
  Calls prog 109 [.agg [.string p0.Name,iV p0.Sal,pv0_0,pv0_1,pv0_2].toArray,.agg [.string p1.Kind,pv1_0].toArray,pv2].toArray w0.w (bg Φ w0.w [] (fun Φ' Fs v=>∃ (sr_0_0:Value),v=sr_0_0∧Fs=[ob sr_0_0]∧OSl (RI .i64) 3 1 Φ' [] sr_0_0 r)):=by
 refine eN func109 rfl ntmps109 rfl w0 fun hF=>?_
 unfold kH at h
 refine sr<|lbx rfl fun b_1=>lbx rfl fun b_2=>arr 4 [] rfl<|le' (dI (R:=RI .i64) RI.lasts aW gB rfl rfl) rfl ?_
 rintro v1 Φ_1 D1 ⟨fr1,h1⟩
 refine art 8 [] rfl ?_
 refine lin (σ:=Hp × (List Int) × Value × Int) (fun s=>[(2,pv2),(3,pQ b_1),(4,pQ b_2),(7,s.2.2.1),(8,iV s.2.2.2)]) (fun s=>St w0 s.1 [(b_2,.cells #[.string p1.Kind,pv1_0] 47 (0,0)),(b_1,.cells #[.string p0.Name,iV p0.Sal,pv0_0,pv0_1,pv0_2] 120 (0,0))] [ob s.2.2.1]) (fun m s=>cP N p0 p1 p2 m s.2.1 s.2.2.2=some r∧(OSl (RI .i64) 3 1 s.1 [] s.2.2.1 s.2.1)) (Φ_1,([]:List Int),v1,0) N ⟨h,h1⟩ (sx [0] [0,0]) (fun n1 ih1 s hm=>?_)
 obtain ⟨Φ_2,s1,u1,s2⟩:=s
 obtain ⟨h,k1⟩:=hm
 dsimp only at h k1 ⊢
 unfold cP at h
 refine atr 6 [2,32] rfl<|lnr ph0_0 rfl<|la rfl<|en ?_
 refine ch h rfl ?_ ?_ <;> intro h
 ·refine atr 8 [2,32] rfl ?_
  obtain ⟨x1,hx1,h⟩:=bs h
  obtain ⟨cs1,F1,-,g1,hb1,hs1,r1⟩:=ph0_0.el (a9 hx1).2.2
  obtain ⟨v2,G1,rfl,hq1,h2⟩:=r1
  obtain rfl:=hq1.symm
  refine lia ph0_0 hx1 rfl<|lf kF rfl rfl rfl<|lhx 2 0 g1 rfl<|en ?_
  refine ch h rfl ?_ ?_ <;> intro h
  ·refine sq<|wm [0,1] [] rfl<|amm 3 [0,2,1,32,2] [0,1] rfl rfl ?_
   obtain ⟨x2,hx2,h⟩:=bs h
   obtain ⟨cs2,F2,-,g2,hb2,hs2,r2⟩:=ph0_0.el (a9 hx2).2.2
   obtain ⟨v3,G2,rfl,hq2,h3⟩:=r2
   obtain rfl:=hq2.symm
   refine mq 3 rfl (by kernel_rfl) (kN [0,1]) (ac o7 rfl rfl ph0_0 hx2) rfl<|mq 4 rfl (by kernel_rfl) (kN [0,1]) (aI ve rfl (fun w1 hw=>(g2.of_eq 0 3 rfl rfl:rg _ _ _ [.string x2.Kind,v3,.bool x2.Not]).rangeAt hw.1) rfl) rfl<|amm 2 [5,2,6] [0,1] rfl rfl ?_
   obtain ⟨x3,hx3,h⟩:=bs h
   refine WM.one 7 (by kernel_rfl) (mc rfl (fun _ v Φx D w1 hq hw=>Kn.of Kf.nil (ai2 0 1 rfl rfl) hw) (bZ (js:=[]) (R:=[ob u1]) zH rfl rfl (fun w1 hw ap hl=>pM N (ba hw.fro) x2 p1 p2 (h3.y hw.up) (ph1_0.y hw.up) (ph2.y hw.up)  hx3)) rfl ?_)
   rintro v4 Φ_3 F3 ⟨ap1,fr2,v5,rfl,rfl,h4⟩
   replace k1:=k1.fr fr2 (ap1.q 0 rfl) dN
   refine amm 5 [8,9,10,11,12] [0,1] rfl rfl<|WM.nil (by kernel_rfl)<|att 9 [] rfl ?_
   refine cut (σ:=Int) (fun s=>[(2,pv2),(3,pQ b_1),(4,pQ b_2),(7,u1),(8,iV s2),(11,iV s)]) (fun s=>St w0 Φ_3 [(b_2,.cells #[.string p1.Kind,pv1_0] 47 (0,0)),(b_1,.cells #[.string p0.Name,iV p0.Sal,pv0_0,pv0_1,pv0_2] 120 (0,0))] [ob u1]) (fun s=>fY N s1 s2 (cP N p0 p1 p2 n1) s=some r) (fun s hm=>?_) (fun K=>?_)
   ·clear h
    revert hm; revert s; intro s3 hm
    have h:fY N s1 s2 (cP N p0 p1 p2 n1) s3=some r:=hm
    show WT _ _ [(2,pv2),(3,pQ b_1),(4,pQ b_2),(7,u1),(8,iV s2),(11,iV s3)] (St w0 Φ_3 [(b_2,.cells #[.string p1.Kind,pv1_0] 47 (0,0)),(b_1,.cells #[.string p0.Name,iV p0.Sal,pv0_0,pv0_1,pv0_2] 120 (0,0))] [ob u1])
    unfold fY at h
    refine atr 3 [] rfl ?_
    have rc2:RC (RI .i64) 1 Φ_3 ([[]]:List (List Nat)) [iV s3] ([s3]:List Int):=RC.cons (c:=[iV s3]) (cells:=[]) ⟨rfl,rfl⟩ rfl (RC.nil _ _ _)
    refine le' (aY (vs:=[(0,iV s3)]) (C:=#[iV s3]) RI.lasts aW gB rfl rfl rfl rfl (ag iy (a7 (C':=[iV s3]) rfl rfl rfl rfl rfl (aa))) rfl rc2 rfl (by simpa using Kw.nil)) rfl ?_
    rintro v6 Φ_4 D2 ⟨fr3,h5⟩
    replace h5:OSl (RI .i64) 3 1 Φ_4 [] v6 ([s3]:List Int):=by simpa using h5
    replace k1:=k1.f0 fr3
    obtain ⟨x4,hx4,h⟩:=bs h
    refine le' (bB RI.lasts RI.one RI.flat aW jw rfl rfl rfl rfl rfl (js:=[1]) (Rr:=[ob v6]) rfl k1 h5.rsl hx4) rfl ?_
    rintro v7 Φ_5 D3 ⟨⟨ap2,fr4⟩,h6⟩
    refine art 8 [] rfl ?_
    exact lb [0] [0,0] (ih1 (_,_,_,_) ⟨h,h6⟩)
   refine ch h rfl ?_ ?_ <;> intro h
   ·refine att 3 [] rfl ?_
    exact wo [1] [0,0] (K _ h)
   refine WT.skip ?_
   exact wo [1] [0,0] (K _ h)
  refine att 7 [] rfl ?_
  exact lb [0] [0,0] (ih1 (_,_,_,_) ⟨h,k1⟩)
 refine att 6 [] rfl ?_
 exact rtg [0] hF (az.one rfl) rfl (by cases h; exact fun w1 hw=>⟨u1,rfl,rfl,k1⟩)
theorem pP (w0:aw Ψ Φ [ob pv2,pD2].flatten) (p0:an) (p1:ah) (p2:(List af)) (p3:aA) (p4:Int) (ph0_0:RSl bW 3 Ψ pG0_0 pv0_0 p0.Pats) (ph0_1:RSl bL 11 Ψ pG0_1 pv0_1 p0.Conds) (ph0_2:RSl fS 5 Ψ pG0_2 pv0_2 p0.Acts) (ph1_0:RSl bh 3 Ψ pG1_0 pv1_0 p1.Items) (ph2:OSl aq 103 2 Φ pD2 pv2 p2) (ph3_0:RSl aH 3 Ψ pG3_0 pv3_0 p3.Fields) {r:(List af)} (h:jy N p0 p1 p2 p3 p4=some r) :
  Calls prog 71 [.agg [.string p0.Name,iV p0.Sal,pv0_0,pv0_1,pv0_2].toArray,.agg [pv1_0,iV p1.Next].toArray,pv2,.agg [.string p3.Kind,pv3_0].toArray,iV p4].toArray w0.w (bg Φ w0.w [ob pv2,pD2].flatten (fun Φ' Fs v=>∃ (Do_0_0:List Nat),v = .tuple #[]∧Fs=[ob pv2,Do_0_0]∧OSl aq 103 2 Φ' Do_0_0 pv2 r)):=by
 refine eL func71 rfl ntmps71 rfl (L:=[ob pv2,pD2]) w0 (fun hF=>?_)
 unfold jy at h
 refine sr<|lbx rfl fun b_1=>lbx rfl fun b_2=>lbx rfl fun b_3=>art 6 [] rfl ?_
 refine lin (σ:=Hp × (List af) × List Nat × Int) (fun s=>[(2,pv2),(4,iV p4),(5,pQ b_1),(6,pQ b_2),(8,pQ b_3),(10,iV s.2.2.2)]) (fun s=>St w0 s.1 [(b_3,.cells #[.string p3.Kind,pv3_0] 47 (0,0)),(b_2,.cells #[pv1_0,iV p1.Next] 37 (0,0)),(b_1,.cells #[.string p0.Name,iV p0.Sal,pv0_0,pv0_1,pv0_2] 120 (0,0))] [ob pv2,s.2.2.1]) (fun m s=>bY N p0 p1 p3 p4 m s.2.1 s.2.2.2=some r∧(OSl aq 103 2 s.1 s.2.2.1 pv2 s.2.1)) (Φ,p2,pD2,0) N ⟨h,ph2⟩ (sx [0,0] [0,0,0]) (fun n1 ih1 s hm=>?_)
 obtain ⟨Φ_1,s1,D1,s2⟩:=s
 obtain ⟨h,k1⟩:=hm
 dsimp only at h k1 ⊢
 unfold bY at h
 refine atr 5 [] rfl<|lno k1 rfl<|la rfl<|en ?_
 refine ch h rfl ?_ ?_ <;> intro h
 ·refine att 4 [] rfl<|WT.mix (Kn w0 Φ_1 (ob pv2) [(b_3,.cells #[.string p3.Kind,pv3_0] 47 (0,0)),(b_2,.cells #[pv1_0,iV p1.Next] 37 (0,0)),(b_1,.cells #[.string p0.Name,iV p0.Sal,pv0_0,pv0_1,pv0_2] 120 (0,0))]) (fun _=>true) cc (fun _ h=>h.drew)<|mq 0 rfl (by kernel_rfl) (kn Kf.id (ai3 0 1 2 rfl rfl rfl)) (aI mF rfl (fun w1 hw=>hw.rgO (i:=2) rfl 0 5 [.string p0.Name,iV p0.Sal,pv0_0,pv0_1,pv0_2] rfl) rfl) rfl ?_
  refine mq 1 rfl (by kernel_rfl) (kn Kf.id (ai3 0 1 2 rfl rfl rfl)) (aI pV rfl (fun w1 hw=>hw.rgO (i:=1) rfl 0 2 [pv1_0,iV p1.Next] rfl) rfl) rfl<|ma 2 rfl (by kernel_rfl) (kn Kf.id (ai3 0 1 2 rfl rfl rfl)) rfl<|ma 3 rfl (by kernel_rfl) (kn Kf.id (ai3 0 1 2 rfl rfl rfl)) rfl ?_
  obtain ⟨x1,hx1,h⟩:=bs h
  obtain ⟨cs1,F1,-,g1,hb1,hs1,r1⟩:=k1.elS (a9 hx1).2.2
  obtain ⟨v1,v2,rfl,rfl,h1,h2⟩:=r1
  have h3:=h1.rsl
  have h4:=h2.rsl
  refine mq 4 rfl (by kernel_rfl) (kn Kf.id (ai3 0 1 2 rfl rfl rfl)) (ac cM rfl rfl k1.rsl hx1) rfl<|mq 5 rfl (by kernel_rfl) (kn Kf.id (ai3 0 1 2 rfl rfl rfl)) (ab oW rfl) rfl<|mq 6 rfl (by kernel_rfl) (kn Kf.id (ai3 0 1 2 rfl rfl rfl)) (au iz rfl (fun w1 hw=>hw.rg hb1 (g1.of_eq 0 1 rfl rfl:rg _ _ _ [v1]))) rfl ?_
  obtain ⟨x2,hx2,h⟩:=bs h
  refine WM.one 7 (by kernel_rfl) (mc rfl (fun _ v Φx D w1 hq hw=>Kn.of (Kf.id.st hq.2.1 (hq.1.r (i:=0) rfl)) (ai3 0 1 2 rfl rfl rfl) hw) (bZ (js:=[]) (R:=[ob pv2,D1]) Df rfl rfl (fun w1 hw ap hl=>m6 N (ba hw.fro) p0 p1 x1.Ids (ph0_0.y hw.up) (ph0_1.y hw.up) (ph0_2.y hw.up) (ph1_0.y hw.up) h3  hx2)) rfl ?_)
  rintro v3 Φ_2 F2 ⟨ap1,fr1,v4,rfl,rfl,h5⟩
  replace k1:=k1.fr fr1 (ap1.q 0 rfl) (ap1.q 1 rfl)
  have kf1:=(Kf.id (F:=(ob pv2)):Kf Φ_1 _ _).st fr1 (ap1.q 0 rfl)
  refine ma 8 rfl (by kernel_rfl) (kn kf1 (ai3 0 1 2 rfl rfl rfl)) rfl<|ma 9 rfl (by kernel_rfl) (kn kf1 (ai3 0 1 2 rfl rfl rfl)) rfl<|ma 10 rfl (by kernel_rfl) (kn kf1 (ai3 0 1 2 rfl rfl rfl)) rfl<|ma 11 rfl (by kernel_rfl) (kn kf1 (ai3 0 1 2 rfl rfl rfl)) rfl<|ma 12 rfl (by kernel_rfl) (kn kf1 (ai3 0 1 2 rfl rfl rfl)) rfl<|WM.nil (by kernel_rfl)<|atr 5 [69,2] rfl<|kab h rfl rfl rfl (fun b z q=>rd N b p0 p3 x2.1 (ph0_0.y z) (ph0_1.y z) (ph0_2.y z) (ph3_0.y z) h5.rsl q) ?_
  rintro x3 h v5 Φ_3 F3 ⟨ap2,fr2,v6,rfl,rfl,h6⟩
  replace k1:=k1.fr fr2 (ap2.q 1 rfl) (ap2.q 2 rfl)
  refine art 7 [] rfl ?_
  refine lin (σ:=Hp × (List af) × List Nat × Int) (fun s=>[(2,pv2),(4,iV p4),(5,pQ b_1),(6,pQ b_2),(8,pQ b_3),(10,iV s2),(12,.bool x2.2),(13,v5),(14,iV s.2.2.2)]) (fun s=>St w0 s.1 [(b_3,.cells #[.string p3.Kind,pv3_0] 47 (0,0)),(b_2,.cells #[pv1_0,iV p1.Next] 37 (0,0)),(b_1,.cells #[.string p0.Name,iV p0.Sal,pv0_0,pv0_1,pv0_2] 120 (0,0))] [ob v5,ob pv2,s.2.2.1]) (fun m s=>cL N p4 s2 (bY N p0 p1 p3 p4 n1) x2 x3 m s.2.1 s.2.2.2=some r∧(OSl aq 103 2 s.1 s.2.2.1 pv2 s.2.1)∧(OSl (RI .i64) 3 1 s.1 [] v5 x3)) (Φ_3,s1,D1,0) N ⟨h,k1,h6⟩ (sx [0,1,1] [0,0,0]) (fun n2 ih2 s hm=>?_)
  obtain ⟨Φ_4,s3,D2,s4⟩:=s
  obtain ⟨h,k2,h6⟩:=hm
  dsimp only at h k2 h6 ⊢
  unfold cL at h
  refine atr 5 [] rfl<|lno h6 rfl<|arr 2 [] rfl ?_
  obtain ⟨b1,hb_1,h⟩:=bs h
  refine WL.cutN 2 [(42,.bool b1),(2,pv2),(4,iV p4),(5,pQ b_1),(6,pQ b_2),(8,pQ b_3),(10,iV s2),(12,.bool x2.2),(13,v5),(14,iV s4)] ?_ (fun K=>?_)
  rotate_left
  ·refine sp 40 hb_1 rfl (fun hb_1=>?_) fun hb_1=>?_
   ·refine arr 2 [] rfl ?_
    cases hb_1
    exact ku K
   ·refine arr 2 [] rfl ?_
    cases hb_1
    exact ku K
  refine en ?_
  refine ch h rfl ?_ ?_ <;> intro h
  ·refine att 3 [] rfl ?_
   obtain ⟨x4,hx4,h⟩:=bs h
   obtain ⟨cs2,F4,D3,h7,r2,kf1,sp1⟩:=k2.focus hx4
   obtain ⟨v7,v8,rfl,rfl,h8,h9⟩:=r2
   refine wtL [ob v7,ob v8,D3,ob v5,ob pv2] (sre [2] [ob v7,ob v8,D3] rfl (by simpa [List.append_assoc] using sp1))<|WT.mix (Kn w0 Φ_4 (ob pv2++(ob v8++ob v5)) [(b_3,.cells #[.string p3.Kind,pv3_0] 47 (0,0)),(b_2,.cells #[pv1_0,iV p1.Next] 37 (0,0)),(b_1,.cells #[.string p0.Name,iV p0.Sal,pv0_0,pv0_1,pv0_2] 120 (0,0))]) (fun i=>match i with | 22=>false | _=>true) cc (fun _ h=>h.drew)<|ma 0 rfl (by kernel_rfl) (kn Kf.id (ai3 0 1 2 rfl rfl rfl)) rfl<|ma 1 rfl (by kernel_rfl) (kn Kf.id (ai3 0 1 2 rfl rfl rfl)) rfl ?_
   refine mq 2 rfl (by kernel_rfl) (kn Kf.id (ai3 0 1 2 rfl rfl rfl)) (aZ cM rfl rfl h7 hx4) rfl<|mq 3 rfl (by kernel_rfl) (kn Kf.id (ai3 0 1 2 rfl rfl rfl)) (ab oK rfl) rfl<|mq 4 rfl (by kernel_rfl) (kn Kf.id (ai3 0 1 2 rfl rfl rfl)) (au iz rfl (fun w1 hw=>hw.rg (List.mem_append.2 (.inl h7.hb)) (h7.rg.of_eq 1 1 rfl rfl:rg _ _ _ [v8]))) rfl<|ma 5 rfl (by kernel_rfl) (kn Kf.id (ai3 0 1 2 rfl rfl rfl)) rfl<|ma 6 rfl (by kernel_rfl) (kn Kf.id (ai3 0 1 2 rfl rfl rfl)) rfl<|ma 7 rfl (by kernel_rfl) (kn Kf.id (ai3 0 1 2 rfl rfl rfl)) rfl ?_
   refine mq 8 rfl (by kernel_rfl) (kn Kf.id (ai3 0 1 2 rfl rfl rfl)) (aZ cM rfl rfl h7 hx4) rfl<|mq 9 rfl (by kernel_rfl) (kn Kf.id (ai3 0 1 2 rfl rfl rfl)) (ab oK rfl) rfl<|mq 10 rfl (by kernel_rfl) (kn Kf.id (ai3 0 1 2 rfl rfl rfl)) (au iz rfl (fun w1 hw=>hw.rg (List.mem_append.2 (.inl h7.hb)) (h7.rg.of_eq 1 1 rfl rfl:rg _ _ _ [v8]))) rfl<|ma 11 rfl (by kernel_rfl) (kn Kf.id (ai3 0 1 2 rfl rfl rfl)) rfl ?_
   obtain ⟨x5,hx5,h⟩:=bs h
   obtain ⟨cs3,F5,-,g2,hb3,hs2,r3⟩:=h9.elS (a9 hx5).2.2
   obtain ⟨rfl,-⟩:=r3
   refine mq 12 rfl (by kernel_rfl) (kn Kf.id (ai3 0 1 2 rfl rfl rfl)) (ac aW rfl rfl h9.rsl hx5) rfl<|mq 13 rfl (by kernel_rfl) (kn Kf.id (ai3 0 1 2 rfl rfl rfl)) (au pt rfl (fun w1 hw=>hw.rg (List.mem_append.2 (.inr (List.mem_append.2 (.inl hb3)))) (g2.of_eq 0 1 rfl rfl:rg _ _ _ [iV x5]))) rfl<|ma 14 rfl (by kernel_rfl) (kn Kf.id (ai3 0 1 2 rfl rfl rfl)) rfl<|ma 15 rfl (by kernel_rfl) (kn Kf.id (ai3 0 1 2 rfl rfl rfl)) rfl<|ma 16 rfl (by kernel_rfl) (kn Kf.id (ai3 0 1 2 rfl rfl rfl)) rfl ?_
   obtain ⟨x6,hx6,h⟩:=bs h
   obtain ⟨cs4,F6,-,g3,hb4,hs3,r4⟩:=h6.elS (a9 hx6).2.2
   obtain ⟨rfl,-⟩:=r4
   refine mq 17 rfl (by kernel_rfl) (kn Kf.id (ai3 0 1 2 rfl rfl rfl)) (ac aW rfl rfl h6.rsl hx6) rfl<|mq 18 rfl (by kernel_rfl) (kn Kf.id (ai3 0 1 2 rfl rfl rfl)) (au pt rfl (fun w1 hw=>hw.rg (List.mem_append.2 (.inr (List.mem_append.2 (.inr hb4)))) (g3.of_eq 0 1 rfl rfl:rg _ _ _ [iV x6]))) rfl<|ma 19 rfl (by kernel_rfl) (kn Kf.id (ai3 0 1 2 rfl rfl rfl)) rfl<|ma 20 rfl (by kernel_rfl) (kn Kf.id (ai3 0 1 2 rfl rfl rfl)) rfl ?_
   obtain ⟨x7,hx7,h⟩:=bs h
   obtain ⟨cs5,F7,-,g4,hb5,hs4,r5⟩:=h9.elS (a9 hx7).2.2
   obtain ⟨rfl,-⟩:=r5
   refine mq 21 rfl (by kernel_rfl) (kn Kf.id (ai3 0 1 2 rfl rfl rfl)) (ac aW rfl rfl h9.rsl hx7) rfl ?_
   refine WM.one 22 (by kernel_rfl) (mu rfl (fun hc=>by cases hc) (yR (js:=[1]) (Rr:=[ob v7,D3,ob v5,ob pv2]) (vs:=[iV (wz (x5+(wz (p4*x6))))]) (x':=wz (x5+(wz (p4*x6)))) RI.lasts RI.flat wQ rfl rfl rfl rfl ⟨rfl,trivial⟩ rfl h9 (rA hx7) ⟨rfl,rfl⟩) rfl ?_)
   rintro Φ_5 D4 ⟨⟨ap3,fr3⟩,h10⟩
   replace h7:=h7.fr fr3 (ap3.q 3 rfl) (ap3.q 1 rfl)
   replace h6:=h6.fr fr3 (ap3.q 2 rfl) dN
   replace h8:=h8.fr fr3 (ap3.q 0 rfl) dN
   refine WM.nil (by kernel_rfl)<|att 6 [] rfl ?_
   have r6:aq Φ_5 _ [v7,v8] (⟨x4.Ids,(x4.Hits.set s4.toNat (wz (x5+(wz (p4*x6)))))⟩:af):=⟨v7,v8,rfl,rfl,h8,h10⟩
   obtain ⟨D5,h11,sp2⟩:=h7.unfocus r6 (aq.knows _ _ _ _ r6)
   refine wtL [D5,ob v5,ob pv2] (smg [1,0,0] rfl (by simpa [List.append_assoc,bv] using sp2)) ?_
   exact lb [1,1,0] [0,0,0] (ih2 (_,_,_,_) ⟨h,h11,h6⟩)
  refine att 7 [] rfl ?_
  exact lb [1,1] [0,0,0] (ih1 (_,_,_,_) ⟨h,k2⟩)
 refine xt rfl ?_
 refine WT.fin hF az.none (fun w1 hw=>?_)
 cases h
 refine bc (js:=[0,0]) hw rfl ⟨D1,rfl,rfl,k1⟩
theorem np (w0:aw Ψ Φ [ob pv0,pD0].flatten) (p0:(List af)) (p1:an) (p2:ah) (p3:(List Int)) (p4:Int) (ph0:OSl aq 103 2 Φ pD0 pv0 p0) (ph1_0:RSl bW 3 Ψ pG1_0 pv1_0 p1.Pats) (ph1_1:RSl bL 11 Ψ pG1_1 pv1_1 p1.Conds) (ph1_2:RSl fS 5 Ψ pG1_2 pv1_2 p1.Acts) (ph2_0:RSl bh 3 Ψ pG2_0 pv2_0 p2.Items) (ph3:RSl (RI .i64) 1 Ψ pG3 pv3 p3) {r:(List af)} (h:iE N p0 p1 p2 p3 p4=some r) :
  Calls prog 85 [pv0,.agg [.string p1.Name,iV p1.Sal,pv1_0,pv1_1,pv1_2].toArray,.agg [pv2_0,iV p2.Next].toArray,pv3,iV p4].toArray w0.w (bg Φ w0.w [ob pv0,pD0].flatten (fun Φ' Fs v=>∃ (sr_0_0:Value) (Dr_0_0:List Nat),v=sr_0_0∧Fs=[ob sr_0_0,Dr_0_0]∧OSl aq 103 2 Φ' Dr_0_0 sr_0_0 r)):=by
 refine eL func85 rfl ntmps85 rfl (L:=[ob pv0,pD0]) w0 (fun hF=>?_)
 unfold iE at h
 refine sr<|lbx rfl fun b_1=>lbx rfl fun b_2=>arr 4 [] rfl<|le' (dI (R:=RI .i64) RI.lasts aW gB rfl rfl) rfl ?_
 rintro v1 Φ_1 D1 ⟨fr1,h1⟩
 replace ph0:=ph0.f0 fr1
 refine la rfl<|lu0 ph3 fun h2=>?_
 obtain ⟨x1,hx1,h⟩:=bs h
 refine le' (bB RI.lasts RI.one RI.flat aW jw rfl rfl rfl rfl rfl (js:=[0]) (Rr:=[ob pv0,pD0]) rfl h1 h2 hx1) rfl ?_
 rintro v2 Φ_2 D2 ⟨⟨ap1,fr2⟩,h3⟩
 replace ph0:=ph0.fr fr2 (ap1.q 0 rfl) (ap1.q 1 rfl)
 refine la rfl ?_
 have rc2:RC (RI .i64) 1 Φ_2 ([[]]:List (List Nat)) [iV p4] ([p4]:List Int):=RC.cons (c:=[iV p4]) (cells:=[]) ⟨rfl,rfl⟩ rfl (RC.nil _ _ _)
 refine le' (aY (vs:=[(0,iV p4)]) (C:=#[iV p4]) RI.lasts aW gB rfl rfl rfl rfl (ag iy (a7 (C':=[iV p4]) rfl rfl rfl rfl rfl (aa))) rfl rc2 rfl (by simpa using Kw.nil)) rfl ?_
 rintro v3 Φ_3 D3 ⟨fr3,h4⟩
 replace h4:OSl (RI .i64) 3 1 Φ_3 [] v3 ([p4]:List Int):=by simpa using h4
 replace ph0:=ph0.f0 fr3
 replace h3:=h3.f0 fr3
 obtain ⟨x2,hx2,h⟩:=bs h
 refine le' (bB RI.lasts RI.one RI.flat aW jw rfl rfl rfl rfl rfl (js:=[1]) (Rr:=[ob v3,ob pv0,pD0]) rfl h3 h4.rsl hx2) rfl ?_
 rintro v4 Φ_4 D4 ⟨⟨ap2,fr4⟩,h5⟩
 replace ph0:=ph0.fr fr4 (ap2.q 1 rfl) (ap2.q 2 rfl)
 refine arr 7 [37,2] rfl<|kab h rfl rfl rfl (fun b z q=>m6 N b p1 p2 x2 (ph1_0.y z) (ph1_1.y z) (ph1_2.y z) (ph2_0.y z) h5.rsl q) ?_
 rintro x3 h v5 Φ_5 F1 ⟨ap3,fr5,v6,rfl,rfl,h6⟩
 replace ph0:=ph0.fr fr5 (ap3.q 2 rfl) (ap3.q 3 rfl)
 replace h5:=h5.fr fr5 (ap3.q 0 rfl) dN
 refine art 12 [] rfl ?_
 refine ch h rfl ?_ ?_ <;> intro h
 ·refine att 5 [] rfl ?_
  exact rtg [3,3] hF (az.one rfl) rfl (by cases h; exact fun w1 hw=>⟨pv0,pD0,rfl,rfl,ph0⟩)
 refine atr 5 [] rfl<|le' (dI (R:=RI .i64) RI.lasts aW gB rfl rfl) rfl ?_
 rintro v7 Φ_6 D5 ⟨fr6,h7⟩
 replace ph0:=ph0.f0 fr6
 replace h5:=h5.f0 fr6
 refine lq (aQ (vs:=[(0,v4),(1,v7)]) (C:=#[v4,v7]) rH dJ rfl (a7 (C':=[v4,.slice none 0 0]) rfl (bt h5.one) rfl rfl rfl (a7 (C':=[v4,v7]) rfl (bt h7.one) rfl rfl rfl (aa)))) rfl ?_
 have rc4:RC aq 2 Φ_6 ([(ob v4++[])++((ob v7++[]))]:List (List Nat)) [v4,v7] ([(⟨x2,([]:List Int)⟩:af)]:List af):=RC.cons (c:=[v4,v7]) (cells:=[]) ⟨v4,v7,rfl,rfl,h5,h7⟩ rfl (RC.nil _ _ _)
 refine le' (aY (vs:=[(0,.agg [v4,v7].toArray)]) (C:=#[v4,v7]) aq.lasts cM dJ rfl rfl rfl rfl (ag lT (a7 (C':=[v4,v7]) rfl rfl rfl rfl rfl (aa))) rfl rc4 rfl (RC.kn aq.knows rc4)) rfl ?_
 rintro v8 Φ_7 D6 ⟨fr7,h8⟩
 replace h8:OSl aq 103 2 Φ_7 ((ob v4++[])++((ob v7++[]))) v8 ([(⟨x2,([]:List Int)⟩:af)]:List af):=by simpa [List.append_assoc] using h8
 replace ph0:=ph0.f0 fr7
 refine wlL [((ob v4++[])++((ob v7++[]))),ob v8,ob v6,ob v3,ob pv0,pD0] (smg [3,1] rfl (SP.eq (by simp [List.append_assoc,bv]))) ?_
 obtain ⟨x4,hx4,h⟩:=bs h
 refine le' (bU aq.lasts aq.one cM km rfl rfl rfl rfl rfl (js:=[4]) (Rr:=[((ob v4++[])++((ob v7++[]))),ob v8,ob v6,ob v3,pD0]) rfl ph0 h8 (fun ap=>ap.q 4 rfl) (fun ap=>ap.q 0 rfl) hx4) rfl ?_
 rintro v9 Φ_8 D7 ⟨⟨ap4,fr8⟩,h9⟩
 refine wlL [(pD0++((ob v4++[])++((ob v7++[])))),ob v9,ob v8,ob v6,ob v3] (smg [5,1] rfl (SP.eq (by simp)))<|la rfl<|en ?_
 exact rtg [1,0] hF (az.one rfl) rfl (by cases h; exact fun w1 hw=>⟨v9,(pD0++((ob v4++[])++((ob v7++[])))),rfl,rfl,h9⟩)
theorem m5 (w0:aw Ψ Φ []) (p0:an) (ph0_0:RSl bW 3 Ψ pG0_0 pv0_0 p0.Pats) (ph0_1:RSl bL 11 Ψ pG0_1 pv0_1 p0.Conds) (ph0_2:RSl fS 5 Ψ pG0_2 pv0_2 p0.Acts) {r:Int} (h:gX N p0=some r) :
  CB w0 prog 105 [.agg [.string p0.Name,iV p0.Sal,pv0_0,pv0_1,pv0_2].toArray] (iV r):=by
 refine eN func105 rfl ntmps105 rfl w0 fun hF=>?_
 unfold gX at h
 refine sr<|lbx rfl fun b_1=>art 12 [] rfl ?_
 refine lin (σ:=Int × Int) (fun s=>[(1,pQ b_1),(3,iV s.1),(4,iV s.2)]) (fun s=>St w0 Φ [(b_1,.cells #[.string p0.Name,iV p0.Sal,pv0_0,pv0_1,pv0_2] 120 (0,0))] []) (fun m s=>cT N p0 m s.1 s.2=some r) (0,0) N h (sx [] [0]) (fun n1 ih1 s hm=>?_)
 obtain ⟨s1,s2⟩:=s
 have h:cT N p0 (n1+1) s1 s2=some r:=hm
 show WT _ _ [(1,pQ b_1),(3,iV s1),(4,iV s2)] (St w0 Φ [(b_1,.cells #[.string p0.Name,iV p0.Sal,pv0_0,pv0_1,pv0_2] 120 (0,0))] [])
 unfold cT at h
 refine atr 6 [2,0] rfl<|lnr ph0_0 rfl<|la rfl<|en ?_
 refine ch h rfl ?_ ?_ <;> intro h
 ·refine atr 8 [2,0] rfl ?_
  obtain ⟨x1,hx1,h⟩:=bs h
  obtain ⟨cs1,F1,-,g1,hb1,hs1,r1⟩:=ph0_0.el (a9 hx1).2.2
  obtain ⟨v1,G1,rfl,hq1,h1⟩:=r1
  obtain rfl:=hq1.symm
  refine lia ph0_0 hx1 rfl<|lf kF rfl rfl rfl<|lhx 2 0 g1 rfl<|la rfl<|en ?_
  refine ch h rfl ?_ ?_ <;> intro h
  ·refine att 11 [] rfl ?_
   exact lb [] [0] (ih1 (_,_) h)
  refine att 7 [] rfl ?_
  exact lb [] [0] (ih1 (_,_) h)
 refine att 6 [] rfl ?_
 exact rt hF h
end Go.Proofs.YtinomobmcjnfjaaGreat
