/- Printed by a program of ours: each Go function computes its Lean function. -/
import Derived.Test.YtkdffjpgnhobhaaGreatProg
import Derived.Test.YtkdffjpgnhobhaaGreatWExactDropItemMod
import Derived.Test.YtkdffjpgnhobhaaGreatEP
namespace Go.Proofs.YtkdffjpgnhobhaaGreat
open Eng Tryz
open Go.RowKit (Below)
set_option linter.unusedVariables false
set_option linter.unusedSimpArgs false

set_option maxRecDepth 100000
set_option maxHeartbeats 1000000
theorem d7:prog.follows .mixedOrders=true:=by kernel_rfl
theorem Nz:T1 prog 9=true:=by kernel_rfl
theorem fw:Str prog 9=true:=by kernel_rfl
theorem bg:Sl prog 105 3 1=true:=by kernel_rfl
theorem pX:T1 prog 105=true:=by kernel_rfl
theorem EG:madeCells (Value.agg #[.slice none 0 0,.slice none 0 0]:Value).cells (0*2) = #[]:=by kernel_rfl
theorem dU:Sl prog 127 159 2=true:=by kernel_rfl
theorem iz:(prog.info? 159).map (·.zero)=some (some (.agg #[.slice none 0 0,.slice none 0 0])):=by kernel_rfl
theorem pC:Fld prog 159 0 0=true:=by kernel_rfl
theorem po:Fld prog 159 1 1=true:=by kernel_rfl
theorem sW:(prog.info? 3).map (·.zero)=some (some (iV 0)):=by kernel_rfl
theorem ui:(prog.info? 3).map (fun i=>(i.zero,i.size,i.bytes))=some (some (iV 0),1,8):=by kernel_rfl
theorem DY:Pl prog 159 #[(0,1),(1,1)]=true:=by kernel_rfl
theorem u6:madeCells (Value.agg #[.slice none 0 0,.slice none 0 0]:Value).cells (1*2) = #[.slice none 0 0,.slice none 0 0]:=by kernel_rfl
theorem zN:(prog.info? 159).map (fun i=>(i.zero,i.size,i.bytes))=some (some (.agg #[.slice none 0 0,.slice none 0 0]),2,48):=by kernel_rfl
theorem iG:(prog.info? 43).map (·.zero)=some (some (.agg #[.slice none 0 0,.slice none 0 0])):=by kernel_rfl
theorem N1:Pl prog 43 #[(0,1),(1,1)]=true:=by kernel_rfl
theorem kg:Sz prog 43 2=true:=by kernel_rfl
theorem o0:Fld prog 43 0 0=true:=by kernel_rfl
theorem JO:T1 prog 40=true:=by kernel_rfl
theorem uJ:Sl prog 40 123 1=true:=by kernel_rfl
theorem jV:Fld prog 123 0 0=true:=by kernel_rfl
theorem HW:Pl prog 123 #[(0,1)]=true:=by kernel_rfl
theorem tP:(prog.info? 123).map (·.zero)=some (some (.agg #[.slice none 0 0])):=by kernel_rfl
theorem Fo:madeCells (Value.agg #[.slice none 0 0]:Value).cells (1*1) = #[.slice none 0 0]:=by kernel_rfl
theorem Iy:(prog.info? 123).map (fun i=>(i.zero,i.size,i.bytes))=some (some (.agg #[.slice none 0 0]),1,24):=by kernel_rfl
theorem I9:Sz prog 40 1=true:=by kernel_rfl
theorem vY:Fld prog 43 1 1=true:=by kernel_rfl
theorem xd:Sl prog 41 126 1=true:=by kernel_rfl
theorem L5:Pl prog 126 #[(0,1)]=true:=by kernel_rfl
theorem rb:(prog.info? 126).map (·.zero)=some (some (.agg #[.slice none 0 0])):=by kernel_rfl
theorem wK:Sz prog 126 1=true:=by kernel_rfl
theorem gq:Fld prog 126 0 0=true:=by kernel_rfl
theorem yK:T1 prog 124=true:=by kernel_rfl
theorem lW:Sl prog 124 130 1=true:=by kernel_rfl
theorem j8:Fld prog 130 0 0=true:=by kernel_rfl
theorem CC:T1 prog 127=true:=by kernel_rfl
theorem Kb:Fun prog 61=true:=by kernel_rfl
theorem Li:Pl prog 130 #[(0,1)]=true:=by kernel_rfl
theorem sP:(prog.info? 130).map (·.zero)=some (some (.agg #[.slice none 0 0])):=by kernel_rfl
theorem Ez:madeCells (Value.agg #[.slice none 0 0]:Value).cells (1*1) = #[.slice none 0 0]:=by kernel_rfl
theorem Ig:(prog.info? 130).map (fun i=>(i.zero,i.size,i.bytes))=some (some (.agg #[.slice none 0 0]),1,24):=by kernel_rfl
theorem Fv:Sz prog 124 1=true:=by kernel_rfl
theorem wA:Tn prog 126 1=true:=by kernel_rfl
theorem Eu:madeCells (Value.agg #[.slice none 0 0]:Value).cells (1*1) = #[.slice none 0 0]:=by kernel_rfl
theorem HY:(prog.info? 126).map (fun i=>(i.zero,i.size,i.bytes))=some (some (.agg #[.slice none 0 0]),1,24):=by kernel_rfl
theorem Iv:Sz prog 41 1=true:=by kernel_rfl
theorem Cb:Tn prog 43 2=true:=by kernel_rfl
theorem kh:(prog.info? 133).map (·.zero)=some (some (.agg #[.string ⟨#[]⟩,.slice none 0 0])):=by kernel_rfl
theorem hU:Sl prog 131 225 3=true:=by kernel_rfl
theorem jk:(prog.info? 225).map (·.zero)=some (some (.agg #[iV 0,iV 0,.string ⟨#[]⟩])):=by kernel_rfl
theorem C4:Fld prog 133 1 1=true:=by kernel_rfl
theorem L4:T1 prog 131=true:=by kernel_rfl
theorem De:(prog.info? 225).map (fun i=>(i.zero,i.size,i.bytes))=some (some (.agg #[iV 0,iV 0,.string ⟨#[]⟩]),3,32):=by kernel_rfl
theorem zO:Sz prog 131 1=true:=by kernel_rfl
theorem rM:Tn prog 133 2=true:=by kernel_rfl
theorem kY:Sz prog 133 2=true:=by kernel_rfl
theorem Iw:Fld prog 57 0 0=true:=by kernel_rfl
theorem zq:Sl prog 55 155 3=true:=by kernel_rfl
theorem sJ:Fld prog 155 0 0=true:=by kernel_rfl
theorem xI:T1 prog 3=true:=by kernel_rfl
theorem wv:Fld prog 155 1 1=true:=by kernel_rfl
theorem Gh:Pl prog 133 #[(0,1),(1,1)]=true:=by kernel_rfl
theorem Ho:Ik prog 5 .u8=true:=by kernel_rfl
theorem Ix:Ik prog 3 .i64=true:=by kernel_rfl
theorem JK:Fun prog 109=true:=by kernel_rfl
theorem Hs:Fld prog 225 0 0=true:=by kernel_rfl
theorem Hv:Fld prog 225 1 1=true:=by kernel_rfl
theorem H5:Fld prog 225 2 2=true:=by kernel_rfl
theorem kT:Tn prog 225 3=true:=by kernel_rfl
theorem Jh:Fun prog 158=true:=by kernel_rfl
theorem p6:EqT prog 225 [.i .i64,.i .i64,.s]=true:=by kernel_rfl
theorem IN:Fun prog 160=true:=by kernel_rfl
theorem Fu:Tn prog 155 3=true:=by kernel_rfl
theorem vd:(prog.info? 155).map (·.zero)=some (some (.agg #[iV 0,.string ⟨#[]⟩,.slice none 0 0])):=by kernel_rfl
theorem wS:Sz prog 155 3=true:=by kernel_rfl
theorem Js:Fun prog 110=true:=by kernel_rfl
theorem Cp:Tn prog 57 2=true:=by kernel_rfl
theorem IT:Fun prog 111=true:=by kernel_rfl
theorem tX:Sl prog 286 9 1=true:=by kernel_rfl
theorem Iz:(prog.info? 9).map (·.zero)=some (some (.string ⟨#[]⟩)):=by kernel_rfl
theorem Cg:Fld prog 214 1 1=true:=by kernel_rfl
theorem wx:Sl prog 212 227 5=true:=by kernel_rfl
theorem wn:Fld prog 227 0 0=true:=by kernel_rfl
theorem wI:Fld prog 227 1 1=true:=by kernel_rfl
theorem FV:madeCells (Value.string ⟨#[]⟩:Value).cells (1*1) = #[.string ⟨#[]⟩]:=by kernel_rfl
theorem Ln:(prog.info? 9).map (fun i=>(i.zero,i.size,i.bytes))=some (some (.string ⟨#[]⟩),1,16):=by kernel_rfl
theorem ua:Fld prog 145 2 2=true:=by kernel_rfl
theorem tC:Sl prog 141 214 3=true:=by kernel_rfl
theorem uW:Tn prog 214 3=true:=by kernel_rfl
theorem lr:Fld prog 214 2 2=true:=by kernel_rfl
theorem Ht:Fld prog 227 2 2=true:=by kernel_rfl
theorem Ad:Pl prog 225 #[(0,1),(1,1),(2,1)]=true:=by kernel_rfl
theorem Eh:Tn prog 227 5=true:=by kernel_rfl
theorem GX:Fld prog 214 0 0=true:=by kernel_rfl
theorem He:Fld prog 229 0 0=true:=by kernel_rfl
theorem Ct:Fld prog 229 1 1=true:=by kernel_rfl
theorem Cy:Fld prog 229 2 6=true:=by kernel_rfl
theorem FC:Sl prog 142 229 11=true:=by kernel_rfl
theorem FR:Tn prog 229 11=true:=by kernel_rfl
theorem H6:Fld prog 280 0 0=true:=by kernel_rfl
theorem C5:Fld prog 280 1 1=true:=by kernel_rfl
theorem Cx:Fld prog 280 2 6=true:=by kernel_rfl
theorem Hy:Pl prog 227 #[(0,1),(1,1),(2,3)]=true:=by kernel_rfl
theorem oK:(prog.info? 227).map (·.zero)=some (some (.agg #[iV 0,.string ⟨#[]⟩,iV 0,iV 0,.string ⟨#[]⟩])):=by kernel_rfl
theorem Gy:EqT prog 227 [.i .i64,.s,.i .i64,.i .i64,.s]=true:=by kernel_rfl
theorem FI:Sl prog 230 280 11=true:=by kernel_rfl
theorem Fz:Tn prog 280 11=true:=by kernel_rfl
theorem H8:Fld prog 232 1 1=true:=by kernel_rfl
theorem sv:Fld prog 232 2 2=true:=by kernel_rfl
theorem Hc:Fld prog 232 4 4=true:=by kernel_rfl
theorem Cv:Fld prog 232 0 0=true:=by kernel_rfl
theorem Cc:Fld prog 232 3 3=true:=by kernel_rfl
theorem FM:Sl prog 143 232 5=true:=by kernel_rfl
theorem CM:Tn prog 232 5=true:=by kernel_rfl
theorem tS:Tn prog 145 5=true:=by kernel_rfl
theorem wP:Fld prog 145 0 0=true:=by kernel_rfl
theorem H2:Fld prog 145 1 1=true:=by kernel_rfl
theorem Jm:Fun prog 196=true:=by kernel_rfl
theorem Ce:Fld prog 145 3 3=true:=by kernel_rfl
theorem IL:Fun prog 197=true:=by kernel_rfl
theorem Ck:Fld prog 145 4 4=true:=by kernel_rfl
theorem IR:Fun prog 199=true:=by kernel_rfl
theorem Jk:Fun prog 198=true:=by kernel_rfl
theorem Ft:Fld prog 47 1 1=true:=by kernel_rfl
theorem ML:T1 prog 45=true:=by kernel_rfl
theorem C6:Sl prog 45 145 5=true:=by kernel_rfl
theorem Jg:Fun prog 161=true:=by kernel_rfl
theorem Ia:Tn prog 47 2=true:=by kernel_rfl
theorem II:Fun prog 162=true:=by kernel_rfl
theorem H9:Fld prog 148 0 0=true:=by kernel_rfl
theorem Hl:Fld prog 148 1 1=true:=by kernel_rfl
theorem ub:Fld prog 148 3 3=true:=by kernel_rfl
theorem Gx:Fun prog 164=true:=by kernel_rfl
theorem wg:Fld prog 148 2 2=true:=by kernel_rfl
theorem oe:Fld prog 52 0 0=true:=by kernel_rfl
theorem HZ:T1 prog 49=true:=by kernel_rfl
theorem uA:Sl prog 49 148 4=true:=by kernel_rfl
theorem yw:Fld prog 52 1 1=true:=by kernel_rfl
theorem tq:Sl prog 50 150 2=true:=by kernel_rfl
theorem qL:Tn prog 148 4=true:=by kernel_rfl
theorem GQ:Fun prog 163=true:=by kernel_rfl
theorem nt:Fld prog 150 0 0=true:=by kernel_rfl
theorem nq:Fld prog 150 1 1=true:=by kernel_rfl
theorem ER:madeCells (Value.agg #[.string ⟨#[]⟩,iV 0,.slice none 0 0,.slice none 0 0]:Value).cells (1*4) = #[.string ⟨#[]⟩,iV 0,.slice none 0 0,.slice none 0 0]:=by kernel_rfl
theorem kX:(prog.info? 148).map (·.zero)=some (some (.agg #[.string ⟨#[]⟩,iV 0,.slice none 0 0,.slice none 0 0])):=by kernel_rfl
theorem HE:(prog.info? 148).map (fun i=>(i.zero,i.size,i.bytes))=some (some (.agg #[.string ⟨#[]⟩,iV 0,.slice none 0 0,.slice none 0 0]),4,72):=by kernel_rfl
theorem I8:Sz prog 49 1=true:=by kernel_rfl
theorem I5:Pl prog 148 #[(0,1),(1,1),(2,1),(3,1)]=true:=by kernel_rfl
theorem rS:Sz prog 148 4=true:=by kernel_rfl
theorem Et:madeCells (Value.agg #[iV 0,iV 0,.string ⟨#[]⟩]:Value).cells (1*3) = #[iV 0,iV 0,.string ⟨#[]⟩]:=by kernel_rfl
theorem tL:madeCells (Value.int .i64 0:Value).cells (1*1) = #[iV 0]:=by kernel_rfl
theorem mf:Sz prog 105 1=true:=by kernel_rfl
theorem w5:(prog.info? 52).map (·.zero)=some (some (.agg #[.slice none 0 0,.slice none 0 0])):=by kernel_rfl
theorem Nd:Pl prog 52 #[(0,1),(1,1)]=true:=by kernel_rfl
theorem Cr:Sz prog 52 2=true:=by kernel_rfl
theorem LU:Pl prog 150 #[(0,1),(1,1)]=true:=by kernel_rfl
theorem rc:(prog.info? 150).map (·.zero)=some (some (.agg #[.slice none 0 0,.slice none 0 0])):=by kernel_rfl
theorem wk:Sz prog 150 2=true:=by kernel_rfl
theorem pP:(prog.info? 214).map (·.zero)=some (some (.agg #[.string ⟨#[]⟩,.slice none 0 0,.bool false])):=by kernel_rfl
theorem sX:Sz prog 214 3=true:=by kernel_rfl
theorem CP:Tn prog 150 2=true:=by kernel_rfl
theorem Fm:madeCells (Value.agg #[.slice none 0 0,.slice none 0 0]:Value).cells (1*2) = #[.slice none 0 0,.slice none 0 0]:=by kernel_rfl
theorem I2:(prog.info? 150).map (fun i=>(i.zero,i.size,i.bytes))=some (some (.agg #[.slice none 0 0,.slice none 0 0]),2,48):=by kernel_rfl
theorem HT:Sz prog 50 1=true:=by kernel_rfl
theorem ET:Tn prog 52 2=true:=by kernel_rfl
theorem IV:Fun prog 114=true:=by kernel_rfl
theorem HU:Fun prog 62=true:=by kernel_rfl
theorem Gl:Tn prog 159 2=true:=by kernel_rfl
theorem nm:Sl prog 195 271 4=true:=by kernel_rfl
theorem Hj:Fld prog 271 0 0=true:=by kernel_rfl
theorem Hm:Fld prog 271 1 1=true:=by kernel_rfl
theorem qb:Sz prog 225 3=true:=by kernel_rfl
theorem tb:(prog.info? 271).map (·.zero)=some (some (.agg #[.string ⟨#[]⟩,iV 0,iV 0,.string ⟨#[]⟩])):=by kernel_rfl
theorem zP:(prog.info? 271).map (fun i=>(i.zero,i.size,i.bytes))=some (some (.agg #[.string ⟨#[]⟩,iV 0,iV 0,.string ⟨#[]⟩]),4,48):=by kernel_rfl
theorem qP:Sz prog 227 5=true:=by kernel_rfl
theorem IC:Pl prog 271 #[(0,1),(1,3)]=true:=by kernel_rfl
theorem ED:madeCells (Value.agg #[.string ⟨#[]⟩,iV 0,iV 0,.string ⟨#[]⟩]:Value).cells (1*4) = #[.string ⟨#[]⟩,iV 0,iV 0,.string ⟨#[]⟩]:=by kernel_rfl
theorem GM:Fun prog 167=true:=by kernel_rfl
theorem Jn:Fun prog 117=true:=by kernel_rfl
theorem iE:Sz prog 3 1=true:=by kernel_rfl
theorem Ef:Sz prog 127 1=true:=by kernel_rfl
theorem L8:Fun prog 67=true:=by kernel_rfl
theorem mT:Sz prog 9 1=true:=by kernel_rfl
theorem K9:By prog 227 56=true:=by kernel_rfl
theorem Mb:Sz prog 212 1=true:=by kernel_rfl
theorem Mu:Sz prog 4 1=true:=by kernel_rfl
theorem KB:By prog 214 48=true:=by kernel_rfl
theorem zY:(prog.info? 229).map (·.zero)=some (some (.agg #[iV 0,iV 0,.string ⟨#[]⟩,iV 0,iV 0,.string ⟨#[]⟩,iV 0,.string ⟨#[]⟩,iV 0,iV 0,.string ⟨#[]⟩])):=by kernel_rfl
theorem CY:Sz prog 229 11=true:=by kernel_rfl
theorem LG:By prog 229 120=true:=by kernel_rfl
theorem yF:(prog.info? 280).map (·.zero)=some (some (.agg #[.string ⟨#[]⟩,iV 0,.string ⟨#[]⟩,iV 0,iV 0,.string ⟨#[]⟩,iV 0,.string ⟨#[]⟩,iV 0,iV 0,.string ⟨#[]⟩])):=by kernel_rfl
theorem DB:Sz prog 280 11=true:=by kernel_rfl
theorem LC:By prog 280 128=true:=by kernel_rfl
theorem yR:(prog.info? 232).map (·.zero)=some (some (.agg #[iV 0,.string ⟨#[]⟩,.slice none 0 0,iV 0,.string ⟨#[]⟩])):=by kernel_rfl
theorem Lb:Sz prog 230 1=true:=by kernel_rfl
theorem CI:Sz prog 232 5=true:=by kernel_rfl
theorem K8:By prog 232 72=true:=by kernel_rfl
theorem wy:(prog.info? 145).map (·.zero)=some (some (.agg #[.string ⟨#[]⟩,iV 0,.slice none 0 0,.slice none 0 0,.slice none 0 0])):=by kernel_rfl
theorem Mm:Sz prog 141 1=true:=by kernel_rfl
theorem KN:Sz prog 142 1=true:=by kernel_rfl
theorem KU:Sz prog 143 1=true:=by kernel_rfl
theorem yN:Sz prog 145 5=true:=by kernel_rfl
theorem L7:By prog 145 96=true:=by kernel_rfl
theorem HN:(prog.info? 47).map (·.zero)=some (some (.agg #[.string ⟨#[]⟩,.slice none 0 0])):=by kernel_rfl
theorem N9:Sz prog 45 1=true:=by kernel_rfl
theorem JR:Sz prog 47 2=true:=by kernel_rfl
theorem Mg:By prog 225 32=true:=by kernel_rfl
theorem NK:By prog 3 8=true:=by kernel_rfl
theorem KC:By prog 148 72=true:=by kernel_rfl
theorem Lc:By prog 150 48=true:=by kernel_rfl
theorem Ds:Tn prog 123 1=true:=by kernel_rfl
theorem Gi:Sz prog 123 1=true:=by kernel_rfl
theorem Lq:By prog 123 24=true:=by kernel_rfl
theorem vc:Sz prog 159 2=true:=by kernel_rfl
theorem LB:By prog 159 48=true:=by kernel_rfl
theorem yT:Tn prog 130 1=true:=by kernel_rfl
theorem CS:Sz prog 130 1=true:=by kernel_rfl
theorem M4:By prog 130 24=true:=by kernel_rfl
theorem KJ:By prog 126 24=true:=by kernel_rfl
theorem Mq:By prog 155 48=true:=by kernel_rfl
theorem HF:(prog.info? 57).map (·.zero)=some (some (.agg #[.slice none 0 0,iV 0])):=by kernel_rfl
theorem MC:Sz prog 55 1=true:=by kernel_rfl
theorem K7:Sz prog 57 2=true:=by kernel_rfl
theorem FJ:Fun prog 74=true:=by kernel_rfl
theorem JC:Fun prog 132=true:=by kernel_rfl
theorem GK:Fun prog 210=true:=by kernel_rfl
theorem Jo:Fun prog 233=true:=by kernel_rfl
theorem LI:Bo prog 4=true:=by kernel_rfl
theorem EC:madeCells (Value.agg #[iV 0,.string ⟨#[]⟩,iV 0,iV 0,.string ⟨#[]⟩]:Value).cells (2*5) = #[iV 0,.string ⟨#[]⟩,iV 0,iV 0,.string ⟨#[]⟩,iV 0,.string ⟨#[]⟩,iV 0,iV 0,.string ⟨#[]⟩]:=by kernel_rfl
theorem Jw:Fun prog 209=true:=by kernel_rfl
theorem Jp:Fun prog 215=true:=by kernel_rfl
theorem JL:Fun prog 129=true:=by kernel_rfl
theorem JI:Fun prog 131=true:=by kernel_rfl
theorem JG:Fun prog 133=true:=by kernel_rfl
theorem JB:Fun prog 180=true:=by kernel_rfl
theorem IX:Fun prog 136=true:=by kernel_rfl
theorem Jv:Fun prog 137=true:=by kernel_rfl
theorem HI:madeCells (Value.agg #[.string ⟨#[]⟩,.slice none 0 0,.bool false]:Value).cells (1*3) = #[.string ⟨#[]⟩,.slice none 0 0,.bool false]:=by kernel_rfl
theorem LO:(prog.info? 214).map (fun i=>(i.zero,i.size,i.bytes))=some (some (.agg #[.string ⟨#[]⟩,.slice none 0 0,.bool false]),3,48):=by kernel_rfl
theorem HS:(prog.info? 166).map (·.zero)=some (some (.agg #[.slice none 0 0,.slice none 0 0,.slice none 0 0,.slice none 0 0,.slice none 0 0,.slice none 0 0,iV 0,iV 0])):=by kernel_rfl
theorem GJ:Fun prog 139=true:=by kernel_rfl
theorem KX:Pl prog 166 #[(0,1),(1,1),(2,2),(4,1),(5,2),(7,1)]=true:=by kernel_rfl
theorem M1:Sz prog 166 8=true:=by kernel_rfl
theorem Ke:Tn prog 166 8=true:=by kernel_rfl
theorem Ku:Sz prog 271 4=true:=by kernel_rfl
theorem J4:Fun prog 141=true:=by kernel_rfl
theorem Kp:Fun prog 79=true:=by kernel_rfl
theorem Kr:Fun prog 80=true:=by kernel_rfl
theorem Mj:Fun prog 82=true:=by kernel_rfl
theorem Mp:Fun prog 81=true:=by kernel_rfl
theorem Ll:Fun prog 84=true:=by kernel_rfl
theorem Mc:Fun prog 85=true:=by kernel_rfl
theorem Lp:Fun prog 86=true:=by kernel_rfl
theorem IZ:Fun prog 239=true:=by kernel_rfl
theorem J1:Fun prog 183=true:=by kernel_rfl
theorem Lj:Fun prog 87=true:=by kernel_rfl
theorem IG:Fun prog 187=true:=by kernel_rfl
theorem JE:Fun prog 219=true:=by kernel_rfl
theorem Jx:Fun prog 184=true:=by kernel_rfl
theorem Jb:Fun prog 185=true:=by kernel_rfl
theorem JA:Fun prog 240=true:=by kernel_rfl
theorem IQ:Fun prog 186=true:=by kernel_rfl
theorem LM:Fun prog 88=true:=by kernel_rfl
theorem Kh:Fun prog 89=true:=by kernel_rfl
theorem Ky:Fun prog 90=true:=by kernel_rfl
theorem M0:Fun prog 91=true:=by kernel_rfl
theorem LZ:madeCells (Value.int .u8 0:Value).cells (1*1) = #[.int .u8 0]:=by kernel_rfl
theorem HA:Sl prog 222 5 1=true:=by kernel_rfl
theorem Nx:(prog.info? 5).map (·.zero)=some (some (.int .u8 0)):=by kernel_rfl
theorem EB:Fun prog 9=true:=by kernel_rfl
theorem ve:Fun prog 10=true:=by kernel_rfl
theorem sQ:Fun prog 11=true:=by kernel_rfl
theorem qR:Fun prog 12=true:=by kernel_rfl
theorem Cf:Fun prog 8=true:=by kernel_rfl
theorem wh:Fun prog 13=true:=by kernel_rfl
variable {Ψ Φ:Hp} {pv0 pv0_0 pv0_1 pv0_2:Value} {pG0 pG0_0 pG0_1 pG0_2:List Nat} (N:Nat)
theorem vX  (w0:ab Ψ Φ []) (p0:aE) (p1:Int)  {r:Int} (h:nc N p0 p1=some r) :
  CB w0 prog 156 [.agg [iV p0.K,iV p0.N,.string p0.S].toArray,iV p1] (iV r):=by
 refine eN func156 rfl ntmps156 rfl w0 fun hF=>?_
 unfold nc at h
 refine sr<|lbx rfl fun b_1=>arr 7 [2,0] rfl<|lq (gj fw rfl rfl) rfl<|art 9 [] rfl ?_
 refine ch h rfl ?_ ?_ <;> intro h
 ·refine att 4 [] rfl ?_
  exact rt hF h
 refine att 6 [] rfl ?_
 exact rt hF h
theorem lV  (w0:ab Ψ Φ []) (p0:aW) (p1:Int)  {r:Int} (h:iR N p0 p1=some r) :
  CB w0 prog 189 [.agg [iV p0.K,.string p0.S,iV p0.V.K,iV p0.V.N,.string p0.V.S].toArray,iV p1] (iV r):=by
 refine eN func189 rfl ntmps189 rfl w0 fun hF=>?_
 unfold iR at h
 refine sr<|lbx rfl fun b_1=>arr 7 [1,0] rfl<|lq (gj fw rfl rfl) rfl<|art 9 [] rfl ?_
 refine ch h rfl ?_ ?_ <;> intro h
 ·refine att 4 [] rfl ?_
  exact rt hF h
 refine atr 6 [2,3] rfl<|qc h (vX N · p0.V (wz (p1 - (p0.S.size:Int))) ·) rfl rfl rfl fun x1 h=>art 8 [] rfl ?_
 refine ch h rfl ?_ ?_ <;> intro h
 ·refine att 4 [] rfl ?_
  exact rt hF h
 refine att 6 [] rfl ?_
 exact rt hF h
theorem BS (w0:ab Ψ Φ []) (p0:(List aW)) (p1:Int) (ph0:RSl bO 5 Ψ pG0 pv0 p0) {r:Int} (h:qO N p0 p1=some r) :
  CB w0 prog 188 [pv0,iV p1] (iV r):=by
 refine eN func188 rfl ntmps188 rfl w0 fun hF=>?_
 unfold qO at h
 refine atr 8 [] rfl<|lnr ph0 rfl<|art 9 [] rfl ?_
 refine ch h rfl ?_ ?_ <;> intro h
 ·refine att 4 [] rfl ?_
  exact rt hF h
 refine att 7 [] rfl ?_
 refine lin (σ:=Int × Int) (fun s=>[(0,pv0),(1,iV s.1),(5,iV s.2)]) (fun s=>St w0 Φ [] []) (fun m s=>jh N p0 m s.1 s.2=some r) (wz (p1 - (p0.length:Int)),0) N h (sx [] []) (fun n1 ih1 s hm=>?_)
 obtain ⟨s1,s2⟩:=s
 have h:jh N p0 (n1+1) s1 s2=some r:=hm
 show WT _ _ [(0,pv0),(1,iV s1),(5,iV s2)] (St w0 Φ [] [])
 unfold jh at h
 refine atr 5 [] rfl<|lnr ph0 rfl<|la rfl<|en ?_
 refine ch h rfl ?_ ?_ <;> intro h
 ·refine atr 7 [] rfl ?_
  obtain ⟨x1,hx1,h⟩:=bs h
  obtain ⟨cs1,F1,-,g1,hb1,hs1,r1⟩:=ph0.el (a7 hx1).2.2
  obtain ⟨rfl,-⟩:=r1
  refine lia ph0 hx1 rfl<|lhx 0 5 g1 rfl<|la rfl<|qc h (lV N · x1 s1 ·) rfl rfl rfl fun x2 h=>art 7 [] rfl ?_
  refine ch h rfl ?_ ?_ <;> intro h
  ·refine att 4 [] rfl ?_
   exact rt hF h
  refine att 7 [] rfl ?_
  exact lb [] [] (ih1 (_,_) h)
 refine att 6 [] rfl ?_
 exact rt hF h
theorem Dn (w0:ab Ψ Φ []) (p0:ax) (p1:Int) (ph0_0:RSl bO 5 Ψ pG0_0 pv0_0 p0.Args) {r:Int} (h:pq N p0 p1=some r) :
  CB w0 prog 153 [.agg [.string p0.Kind,pv0_0,.bool p0.Not].toArray,iV p1] (iV r):=by
 refine eN func153 rfl ntmps153 rfl w0 fun hF=>?_
 unfold pq at h
 refine sr<|lbx rfl fun b_1=>arr 7 [0,0] rfl<|lq (gj fw rfl rfl) rfl<|art 9 [] rfl ?_
 refine ch h rfl ?_ ?_ <;> intro h
 ·refine att 4 [] rfl ?_
  exact rt hF h
 refine atr 6 [1,0] rfl<|qd h (BS N · p0.Args (wz (p1 - (p0.Kind.size:Int))) ph0_0 ·) rfl rfl rfl fun x1 h=>art 8 [] rfl ?_
 refine ch h rfl ?_ ?_ <;> intro h
 ·refine att 4 [] rfl ?_
  exact rt hF h
 refine att 6 [] rfl ?_
 exact rt hF h
theorem C0 (w0:ab Ψ Φ []) (p0:(List ax)) (p1:Int) (ph0:RSl bR 3 Ψ pG0 pv0 p0) {r:Int} (h:qv N p0 p1=some r) :
  CB w0 prog 101 [pv0,iV p1] (iV r):=by
 refine eN func101 rfl ntmps101 rfl w0 fun hF=>?_
 unfold qv at h
 refine atr 8 [] rfl<|lnr ph0 rfl<|art 9 [] rfl ?_
 refine ch h rfl ?_ ?_ <;> intro h
 ·refine att 4 [] rfl ?_
  exact rt hF h
 refine att 7 [] rfl ?_
 refine lin (σ:=Int × Int) (fun s=>[(0,pv0),(1,iV s.1),(5,iV s.2)]) (fun s=>St w0 Φ [] []) (fun m s=>j4 N p0 m s.1 s.2=some r) (wz (p1 - (p0.length:Int)),0) N h (sx [] []) (fun n1 ih1 s hm=>?_)
 obtain ⟨s1,s2⟩:=s
 have h:j4 N p0 (n1+1) s1 s2=some r:=hm
 show WT _ _ [(0,pv0),(1,iV s1),(5,iV s2)] (St w0 Φ [] [])
 unfold j4 at h
 refine atr 5 [] rfl<|lnr ph0 rfl<|la rfl<|en ?_
 refine ch h rfl ?_ ?_ <;> intro h
 ·refine atr 7 [] rfl ?_
  obtain ⟨x1,hx1,h⟩:=bs h
  obtain ⟨cs1,F1,-,g1,hb1,hs1,r1⟩:=ph0.el (a7 hx1).2.2
  obtain ⟨v1,G1,rfl,hq1,h1⟩:=r1
  obtain rfl:=hq1.symm
  refine lia ph0 hx1 rfl<|lhx 0 3 g1 rfl<|la rfl<|qd h (Dn N · x1 s1 h1 ·) rfl rfl rfl fun x2 h=>art 7 [] rfl ?_
  refine ch h rfl ?_ ?_ <;> intro h
  ·refine att 4 [] rfl ?_
   exact rt hF h
  refine att 7 [] rfl ?_
  exact lb [] [] (ih1 (_,_) h)
 refine att 6 [] rfl ?_
 exact rt hF h
theorem Ax  (w0:ab Ψ Φ []) (p0:bj) (p1:Int)  {r:Int} (h:mV N p0 p1=some r) :
  CB w0 prog 154 [.agg [iV p0.Op,iV p0.L.K,.string p0.L.S,iV p0.L.V.K,iV p0.L.V.N,.string p0.L.V.S,iV p0.R.K,.string p0.R.S,iV p0.R.V.K,iV p0.R.V.N,.string p0.R.V.S].toArray,iV p1] (iV r):=by
 refine eN func154 rfl ntmps154 rfl w0 fun hF=>?_
 unfold mV at h
 refine sr<|lbx rfl fun b_1=>arr 7 [1,5] rfl<|qc h (lV N · p0.L p1 ·) rfl rfl rfl fun x1 h=>art 8 [] rfl ?_
 refine ch h rfl ?_ ?_ <;> intro h
 ·refine att 4 [] rfl ?_
  exact rt hF h
 refine atr 6 [6,5] rfl<|qc h (lV N · p0.R x1 ·) rfl rfl rfl fun x2 h=>art 8 [] rfl ?_
 refine ch h rfl ?_ ?_ <;> intro h
 ·refine att 4 [] rfl ?_
  exact rt hF h
 refine att 6 [] rfl ?_
 exact rt hF h
theorem yD (w0:ab Ψ Φ []) (p0:(List bj)) (p1:Int) (ph0:RSl aZ 11 Ψ pG0 pv0 p0) {r:Int} (h:oy N p0 p1=some r) :
  CB w0 prog 102 [pv0,iV p1] (iV r):=by
 refine eN func102 rfl ntmps102 rfl w0 fun hF=>?_
 unfold oy at h
 refine atr 8 [] rfl<|lnr ph0 rfl<|art 9 [] rfl ?_
 refine ch h rfl ?_ ?_ <;> intro h
 ·refine att 4 [] rfl ?_
  exact rt hF h
 refine att 7 [] rfl ?_
 refine lin (σ:=Int × Int) (fun s=>[(0,pv0),(1,iV s.1),(5,iV s.2)]) (fun s=>St w0 Φ [] []) (fun m s=>gY N p0 m s.1 s.2=some r) (wz (p1 - (p0.length:Int)),0) N h (sx [] []) (fun n1 ih1 s hm=>?_)
 obtain ⟨s1,s2⟩:=s
 have h:gY N p0 (n1+1) s1 s2=some r:=hm
 show WT _ _ [(0,pv0),(1,iV s1),(5,iV s2)] (St w0 Φ [] [])
 unfold gY at h
 refine atr 5 [] rfl<|lnr ph0 rfl<|la rfl<|en ?_
 refine ch h rfl ?_ ?_ <;> intro h
 ·refine atr 7 [] rfl ?_
  obtain ⟨x1,hx1,h⟩:=bs h
  obtain ⟨cs1,F1,-,g1,hb1,hs1,r1⟩:=ph0.el (a7 hx1).2.2
  obtain ⟨rfl,-⟩:=r1
  refine lia ph0 hx1 rfl<|lhx 0 11 g1 rfl<|la rfl<|qc h (Ax N · x1 s1 ·) rfl rfl rfl fun x2 h=>art 7 [] rfl ?_
  refine ch h rfl ?_ ?_ <;> intro h
  ·refine att 4 [] rfl ?_
   exact rt hF h
  refine att 7 [] rfl ?_
  exact lb [] [] (ih1 (_,_) h)
 refine att 6 [] rfl ?_
 exact rt hF h
theorem AJ  (w0:ab Ψ Φ []) (p0:bh) (p1:Int)  {r:Int} (h:nw N p0 p1=some r) :
  CB w0 prog 221 [.agg [.string p0.Op,iV p0.L.K,.string p0.L.S,iV p0.L.V.K,iV p0.L.V.N,.string p0.L.V.S,iV p0.R.K,.string p0.R.S,iV p0.R.V.K,iV p0.R.V.N,.string p0.R.V.S].toArray,iV p1] (iV r):=by
 refine eN func221 rfl ntmps221 rfl w0 fun hF=>?_
 unfold nw at h
 refine sr<|lbx rfl fun b_1=>arr 7 [0,0] rfl<|lq (gj fw rfl rfl) rfl<|art 9 [] rfl ?_
 refine ch h rfl ?_ ?_ <;> intro h
 ·refine att 4 [] rfl ?_
  exact rt hF h
 refine atr 6 [1,5] rfl<|qc h (lV N · p0.L (wz (p1 - (p0.Op.size:Int))) ·) rfl rfl rfl fun x1 h=>art 8 [] rfl ?_
 refine ch h rfl ?_ ?_ <;> intro h
 ·refine att 4 [] rfl ?_
  exact rt hF h
 refine atr 6 [6,5] rfl<|qc h (lV N · p0.R x1 ·) rfl rfl rfl fun x2 h=>art 8 [] rfl ?_
 refine ch h rfl ?_ ?_ <;> intro h
 ·refine att 4 [] rfl ?_
  exact rt hF h
 refine att 6 [] rfl ?_
 exact rt hF h
theorem zH (w0:ab Ψ Φ []) (p0:(List bh)) (p1:Int) (ph0:RSl bq 11 Ψ pG0 pv0 p0) {r:Int} (h:oA N p0 p1=some r) :
  CB w0 prog 190 [pv0,iV p1] (iV r):=by
 refine eN func190 rfl ntmps190 rfl w0 fun hF=>?_
 unfold oA at h
 refine atr 8 [] rfl<|lnr ph0 rfl<|art 9 [] rfl ?_
 refine ch h rfl ?_ ?_ <;> intro h
 ·refine att 4 [] rfl ?_
  exact rt hF h
 refine att 7 [] rfl ?_
 refine lin (σ:=Int × Int) (fun s=>[(0,pv0),(1,iV s.1),(5,iV s.2)]) (fun s=>St w0 Φ [] []) (fun m s=>i7 N p0 m s.1 s.2=some r) (wz (p1 - (p0.length:Int)),0) N h (sx [] []) (fun n1 ih1 s hm=>?_)
 obtain ⟨s1,s2⟩:=s
 have h:i7 N p0 (n1+1) s1 s2=some r:=hm
 show WT _ _ [(0,pv0),(1,iV s1),(5,iV s2)] (St w0 Φ [] [])
 unfold i7 at h
 refine atr 5 [] rfl<|lnr ph0 rfl<|la rfl<|en ?_
 refine ch h rfl ?_ ?_ <;> intro h
 ·refine atr 7 [] rfl ?_
  obtain ⟨x1,hx1,h⟩:=bs h
  obtain ⟨cs1,F1,-,g1,hb1,hs1,r1⟩:=ph0.el (a7 hx1).2.2
  obtain ⟨rfl,-⟩:=r1
  refine lia ph0 hx1 rfl<|lhx 0 11 g1 rfl<|la rfl<|qc h (AJ N · x1 s1 ·) rfl rfl rfl fun x2 h=>art 7 [] rfl ?_
  refine ch h rfl ?_ ?_ <;> intro h
  ·refine att 4 [] rfl ?_
   exact rt hF h
  refine att 7 [] rfl ?_
  exact lb [] [] (ih1 (_,_) h)
 refine att 6 [] rfl ?_
 exact rt hF h
theorem CU (w0:ab Ψ Φ []) (p0:bH) (p1:Int) (ph0_0:RSl bq 11 Ψ pG0_0 pv0_0 p0.Args) {r:Int} (h:pJ N p0 p1=some r) :
  CB w0 prog 155 [.agg [iV p0.Kind,.string p0.Name,pv0_0,iV p0.N,.string p0.Undo].toArray,iV p1] (iV r):=by
 refine eN func155 rfl ntmps155 rfl w0 fun hF=>?_
 unfold pJ at h
 refine sr<|lbx rfl fun b_1=>arr 7 [1,0] rfl<|lq (gj fw rfl rfl) rfl<|art 9 [] rfl ?_
 refine ch h rfl ?_ ?_ <;> intro h
 ·refine att 4 [] rfl ?_
  exact rt hF h
 refine atr 6 [2,0] rfl<|qd h (zH N · p0.Args (wz (p1 - (p0.Name.size:Int))) ph0_0 ·) rfl rfl rfl fun x1 h=>art 8 [] rfl ?_
 refine ch h rfl ?_ ?_ <;> intro h
 ·refine att 4 [] rfl ?_
  exact rt hF h
 refine atr 6 [4,0] rfl<|lq (gj fw rfl rfl) rfl<|art 9 [] rfl ?_
 refine ch h rfl ?_ ?_ <;> intro h
 ·refine att 4 [] rfl ?_
  exact rt hF h
 refine att 6 [] rfl ?_
 exact rt hF h
theorem BR (w0:ab Ψ Φ []) (p0:(List bH)) (p1:Int) (ph0:RSl dZ 5 Ψ pG0 pv0 p0) {r:Int} (h:rh N p0 p1=some r) :
  CB w0 prog 103 [pv0,iV p1] (iV r):=by
 refine eN func103 rfl ntmps103 rfl w0 fun hF=>?_
 unfold rh at h
 refine atr 8 [] rfl<|lnr ph0 rfl<|art 9 [] rfl ?_
 refine ch h rfl ?_ ?_ <;> intro h
 ·refine att 4 [] rfl ?_
  exact rt hF h
 refine att 7 [] rfl ?_
 refine lin (σ:=Int × Int) (fun s=>[(0,pv0),(1,iV s.1),(5,iV s.2)]) (fun s=>St w0 Φ [] []) (fun m s=>iY N p0 m s.1 s.2=some r) (wz (p1 - (p0.length:Int)),0) N h (sx [] []) (fun n1 ih1 s hm=>?_)
 obtain ⟨s1,s2⟩:=s
 have h:iY N p0 (n1+1) s1 s2=some r:=hm
 show WT _ _ [(0,pv0),(1,iV s1),(5,iV s2)] (St w0 Φ [] [])
 unfold iY at h
 refine atr 5 [] rfl<|lnr ph0 rfl<|la rfl<|en ?_
 refine ch h rfl ?_ ?_ <;> intro h
 ·refine atr 7 [] rfl ?_
  obtain ⟨x1,hx1,h⟩:=bs h
  obtain ⟨cs1,F1,-,g1,hb1,hs1,r1⟩:=ph0.el (a7 hx1).2.2
  obtain ⟨v1,G1,rfl,hq1,h1⟩:=r1
  obtain rfl:=hq1.symm
  refine lia ph0 hx1 rfl<|lhx 0 5 g1 rfl<|la rfl<|qd h (CU N · x1 s1 h1 ·) rfl rfl rfl fun x2 h=>art 7 [] rfl ?_
  refine ch h rfl ?_ ?_ <;> intro h
  ·refine att 4 [] rfl ?_
   exact rt hF h
  refine att 7 [] rfl ?_
  exact lb [] [] (ih1 (_,_) h)
 refine att 6 [] rfl ?_
 exact rt hF h
theorem B8 (w0:ab Ψ Φ []) (p0:af) (p1:Int) (ph0_0:RSl bR 3 Ψ pG0_0 pv0_0 p0.Pats) (ph0_1:RSl aZ 11 Ψ pG0_1 pv0_1 p0.Conds) (ph0_2:RSl dZ 5 Ψ pG0_2 pv0_2 p0.Acts) {r:Int} (h:nf N p0 p1=some r) :
  CB w0 prog 55 [.agg [.string p0.Name,iV p0.Sal,pv0_0,pv0_1,pv0_2].toArray,iV p1] (iV r):=by
 refine eN func55 rfl ntmps55 rfl w0 fun hF=>?_
 unfold nf at h
 refine sr<|lbx rfl fun b_1=>arr 7 [0,0] rfl<|lq (gj fw rfl rfl) rfl<|art 9 [] rfl ?_
 refine ch h rfl ?_ ?_ <;> intro h
 ·refine att 4 [] rfl ?_
  exact rt hF h
 refine atr 6 [2,0] rfl<|qd h (C0 N · p0.Pats (wz (p1 - (p0.Name.size:Int))) ph0_0 ·) rfl rfl rfl fun x1 h=>art 8 [] rfl ?_
 refine ch h rfl ?_ ?_ <;> intro h
 ·refine att 4 [] rfl ?_
  exact rt hF h
 refine atr 6 [3,0] rfl<|qd h (yD N · p0.Conds x1 ph0_1 ·) rfl rfl rfl fun x2 h=>art 8 [] rfl ?_
 refine ch h rfl ?_ ?_ <;> intro h
 ·refine att 4 [] rfl ?_
  exact rt hF h
 refine atr 6 [4,0] rfl<|qd h (BR N · p0.Acts x2 ph0_2 ·) rfl rfl rfl fun x3 h=>art 8 [] rfl ?_
 refine ch h rfl ?_ ?_ <;> intro h
 ·refine att 4 [] rfl ?_
  exact rt hF h
 refine att 6 [] rfl ?_
 exact rt hF h
theorem yI (w0:ab Ψ Φ []) (p0:(List af)) (p1:Int) (ph0:RSl bU 5 Ψ pG0 pv0 p0) {r:Int} (h:om N p0 p1=some r) :
  CB w0 prog 23 [pv0,iV p1] (iV r):=by
 refine eN func23 rfl ntmps23 rfl w0 fun hF=>?_
 unfold om at h
 refine atr 8 [] rfl<|lnr ph0 rfl<|art 9 [] rfl ?_
 refine ch h rfl ?_ ?_ <;> intro h
 ·refine att 4 [] rfl ?_
  exact rt hF h
 refine att 7 [] rfl ?_
 refine lin (σ:=Int × Int) (fun s=>[(0,pv0),(1,iV s.1),(5,iV s.2)]) (fun s=>St w0 Φ [] []) (fun m s=>ia N p0 m s.1 s.2=some r) (wz (p1 - (p0.length:Int)),0) N h (sx [] []) (fun n1 ih1 s hm=>?_)
 obtain ⟨s1,s2⟩:=s
 have h:ia N p0 (n1+1) s1 s2=some r:=hm
 show WT _ _ [(0,pv0),(1,iV s1),(5,iV s2)] (St w0 Φ [] [])
 unfold ia at h
 refine atr 5 [] rfl<|lnr ph0 rfl<|la rfl<|en ?_
 refine ch h rfl ?_ ?_ <;> intro h
 ·refine atr 7 [] rfl ?_
  obtain ⟨x1,hx1,h⟩:=bs h
  obtain ⟨cs1,F1,-,g1,hb1,hs1,r1⟩:=ph0.el (a7 hx1).2.2
  obtain ⟨v1,G1,v2,G2,v3,G3,rfl,rfl,h1,h2,h3⟩:=r1
  refine lia ph0 hx1 rfl<|lhx 0 5 g1 rfl<|la rfl<|qd h (B8 N · x1 s1 h1 h2 h3 ·) rfl rfl rfl fun x2 h=>art 7 [] rfl ?_
  refine ch h rfl ?_ ?_ <;> intro h
  ·refine att 4 [] rfl ?_
   exact rt hF h
  refine att 7 [] rfl ?_
  exact lb [] [] (ih1 (_,_) h)
 refine att 6 [] rfl ?_
 exact rt hF h
theorem DX (w0:ab Ψ Φ []) (p0:bl) (p1:Int) (ph0_0:RSl bU 5 Ψ pG0_0 pv0_0 p0.Rules) {r:Int} (h:sD N p0 p1=some r) :
  CB w0 prog 4 [.agg [.string p0.Name,pv0_0].toArray,iV p1] (iV r):=by
 refine eN func4 rfl ntmps4 rfl w0 fun hF=>?_
 unfold sD at h
 refine sr<|lbx rfl fun b_1=>arr 7 [0,0] rfl<|lq (gj fw rfl rfl) rfl<|art 9 [] rfl ?_
 refine ch h rfl ?_ ?_ <;> intro h
 ·refine att 4 [] rfl ?_
  exact rt hF h
 refine atr 6 [1,0] rfl<|qd h (yI N · p0.Rules (wz (p1 - (p0.Name.size:Int))) ph0_0 ·) rfl rfl rfl fun x1 h=>art 8 [] rfl ?_
 refine ch h rfl ?_ ?_ <;> intro h
 ·refine att 4 [] rfl ?_
  exact rt hF h
 refine att 6 [] rfl ?_
 exact rt hF h
theorem uB (w0:ab Ψ Φ []) (p0:(List aE)) (p1:Int) (ph0:RSl av 3 Ψ pG0 pv0 p0) {r:Int} (h:n6 N p0 p1=some r) :
  CB w0 prog 104 [pv0,iV p1] (iV r):=by
 refine eN func104 rfl ntmps104 rfl w0 fun hF=>?_
 unfold n6 at h
 refine atr 8 [] rfl<|lnr ph0 rfl<|art 9 [] rfl ?_
 refine ch h rfl ?_ ?_ <;> intro h
 ·refine att 4 [] rfl ?_
  exact rt hF h
 refine att 7 [] rfl ?_
 refine lin (σ:=Int × Int) (fun s=>[(0,pv0),(1,iV s.1),(5,iV s.2)]) (fun s=>St w0 Φ [] []) (fun m s=>jb N p0 m s.1 s.2=some r) (wz (p1 - (p0.length:Int)),0) N h (sx [] []) (fun n1 ih1 s hm=>?_)
 obtain ⟨s1,s2⟩:=s
 have h:jb N p0 (n1+1) s1 s2=some r:=hm
 show WT _ _ [(0,pv0),(1,iV s1),(5,iV s2)] (St w0 Φ [] [])
 unfold jb at h
 refine atr 5 [] rfl<|lnr ph0 rfl<|la rfl<|en ?_
 refine ch h rfl ?_ ?_ <;> intro h
 ·refine atr 7 [] rfl ?_
  obtain ⟨x1,hx1,h⟩:=bs h
  obtain ⟨cs1,F1,-,g1,hb1,hs1,r1⟩:=ph0.el (a7 hx1).2.2
  obtain ⟨rfl,-⟩:=r1
  refine lia ph0 hx1 rfl<|lhx 0 3 g1 rfl<|la rfl<|qc h (vX N · x1 s1 ·) rfl rfl rfl fun x2 h=>art 7 [] rfl ?_
  refine ch h rfl ?_ ?_ <;> intro h
  ·refine att 4 [] rfl ?_
   exact rt hF h
  refine att 7 [] rfl ?_
  exact lb [] [] (ih1 (_,_) h)
 refine att 6 [] rfl ?_
 exact rt hF h
theorem iS (w0:ab Ψ Φ []) (p0:(List Int)) (p1:Int) (ph0:RSl (RI .i64) 1 Ψ pG0 pv0 p0) {r:Int} (h:gK N p0 p1=some r) :
  CB w0 prog 105 [pv0,iV p1] (iV r):=by
 refine eN func105 rfl ntmps105 rfl w0 fun hF=>?_
 unfold gK at h
 refine atr 8 [] rfl<|lnr ph0 rfl<|art 9 [] rfl ?_
 refine ch h rfl ?_ ?_ <;> intro h
 ·refine att 4 [] rfl ?_
  exact rt hF h
 refine att 6 [] rfl ?_
 exact rt hF h
theorem yU (w0:ab Ψ Φ []) (p0:a8) (p1:Int) (ph0_0:RSl av 3 Ψ pG0_0 pv0_0 p0.Consts) (ph0_1:RSl (RI .i64) 1 Ψ pG0_1 pv0_1 p0.At) {r:Int} (h:lG N p0 p1=some r) :
  CB w0 prog 56 [.agg [.string p0.Kind,iV p0.N,pv0_0,pv0_1].toArray,iV p1] (iV r):=by
 refine eN func56 rfl ntmps56 rfl w0 fun hF=>?_
 unfold lG at h
 refine sr<|lbx rfl fun b_1=>arr 7 [0,0] rfl<|lq (gj fw rfl rfl) rfl<|art 9 [] rfl ?_
 refine ch h rfl ?_ ?_ <;> intro h
 ·refine att 4 [] rfl ?_
  exact rt hF h
 refine atr 6 [2,0] rfl<|qd h (uB N · p0.Consts (wz (p1 - (p0.Kind.size:Int))) ph0_0 ·) rfl rfl rfl fun x1 h=>art 8 [] rfl ?_
 refine ch h rfl ?_ ?_ <;> intro h
 ·refine att 4 [] rfl ?_
  exact rt hF h
 refine atr 6 [3,0] rfl<|qd h (iS N · p0.At x1 ph0_1 ·) rfl rfl rfl fun x2 h=>art 8 [] rfl ?_
 refine ch h rfl ?_ ?_ <;> intro h
 ·refine att 4 [] rfl ?_
  exact rt hF h
 refine att 6 [] rfl ?_
 exact rt hF h
theorem xp (w0:ab Ψ Φ []) (p0:(List a8)) (p1:Int) (ph0:RSl be 4 Ψ pG0 pv0 p0) {r:Int} (h:mh N p0 p1=some r) :
  CB w0 prog 24 [pv0,iV p1] (iV r):=by
 refine eN func24 rfl ntmps24 rfl w0 fun hF=>?_
 unfold mh at h
 refine atr 8 [] rfl<|lnr ph0 rfl<|art 9 [] rfl ?_
 refine ch h rfl ?_ ?_ <;> intro h
 ·refine att 4 [] rfl ?_
  exact rt hF h
 refine att 7 [] rfl ?_
 refine lin (σ:=Int × Int) (fun s=>[(0,pv0),(1,iV s.1),(5,iV s.2)]) (fun s=>St w0 Φ [] []) (fun m s=>gp N p0 m s.1 s.2=some r) (wz (p1 - (p0.length:Int)),0) N h (sx [] []) (fun n1 ih1 s hm=>?_)
 obtain ⟨s1,s2⟩:=s
 have h:gp N p0 (n1+1) s1 s2=some r:=hm
 show WT _ _ [(0,pv0),(1,iV s1),(5,iV s2)] (St w0 Φ [] [])
 unfold gp at h
 refine atr 5 [] rfl<|lnr ph0 rfl<|la rfl<|en ?_
 refine ch h rfl ?_ ?_ <;> intro h
 ·refine atr 7 [] rfl ?_
  obtain ⟨x1,hx1,h⟩:=bs h
  obtain ⟨cs1,F1,-,g1,hb1,hs1,r1⟩:=ph0.el (a7 hx1).2.2
  obtain ⟨v1,G1,v2,G2,rfl,rfl,h1,h2⟩:=r1
  refine lia ph0 hx1 rfl<|lhx 0 4 g1 rfl<|la rfl<|qd h (yU N · x1 s1 h1 h2 ·) rfl rfl rfl fun x2 h=>art 7 [] rfl ?_
  refine ch h rfl ?_ ?_ <;> intro h
  ·refine att 4 [] rfl ?_
   exact rt hF h
  refine att 7 [] rfl ?_
  exact lb [] [] (ih1 (_,_) h)
 refine att 6 [] rfl ?_
 exact rt hF h
theorem Ab (w0:ab Ψ Φ []) (p0:ac) (p1:Int) (ph0_0:RSl (RI .i64) 1 Ψ pG0_0 pv0_0 p0.Pos) (ph0_1:RSl (RI .i64) 1 Ψ pG0_1 pv0_1 p0.Neg) {r:Int} (h:lD N p0 p1=some r) :
  CB w0 prog 57 [.agg [pv0_0,pv0_1].toArray,iV p1] (iV r):=by
 refine eN func57 rfl ntmps57 rfl w0 fun hF=>?_
 unfold lD at h
 refine sr<|lbx rfl fun b_1=>arr 7 [0,0] rfl<|qd h (iS N · p0.Pos p1 ph0_0 ·) rfl rfl rfl fun x1 h=>art 8 [] rfl ?_
 refine ch h rfl ?_ ?_ <;> intro h
 ·refine att 4 [] rfl ?_
  exact rt hF h
 refine atr 6 [1,0] rfl<|qd h (iS N · p0.Neg x1 ph0_1 ·) rfl rfl rfl fun x2 h=>art 8 [] rfl ?_
 refine ch h rfl ?_ ?_ <;> intro h
 ·refine att 4 [] rfl ?_
  exact rt hF h
 refine att 6 [] rfl ?_
 exact rt hF h
theorem xJ (w0:ab Ψ Φ []) (p0:(List ac)) (p1:Int) (ph0:RSl bv 2 Ψ pG0 pv0 p0) {r:Int} (h:mw N p0 p1=some r) :
  CB w0 prog 25 [pv0,iV p1] (iV r):=by
 refine eN func25 rfl ntmps25 rfl w0 fun hF=>?_
 unfold mw at h
 refine atr 8 [] rfl<|lnr ph0 rfl<|art 9 [] rfl ?_
 refine ch h rfl ?_ ?_ <;> intro h
 ·refine att 4 [] rfl ?_
  exact rt hF h
 refine att 7 [] rfl ?_
 refine lin (σ:=Int × Int) (fun s=>[(0,pv0),(1,iV s.1),(5,iV s.2)]) (fun s=>St w0 Φ [] []) (fun m s=>gv N p0 m s.1 s.2=some r) (wz (p1 - (p0.length:Int)),0) N h (sx [] []) (fun n1 ih1 s hm=>?_)
 obtain ⟨s1,s2⟩:=s
 have h:gv N p0 (n1+1) s1 s2=some r:=hm
 show WT _ _ [(0,pv0),(1,iV s1),(5,iV s2)] (St w0 Φ [] [])
 unfold gv at h
 refine atr 5 [] rfl<|lnr ph0 rfl<|la rfl<|en ?_
 refine ch h rfl ?_ ?_ <;> intro h
 ·refine atr 7 [] rfl ?_
  obtain ⟨x1,hx1,h⟩:=bs h
  obtain ⟨cs1,F1,-,g1,hb1,hs1,r1⟩:=ph0.el (a7 hx1).2.2
  obtain ⟨v1,G1,v2,G2,rfl,rfl,h1,h2⟩:=r1
  refine lia ph0 hx1 rfl<|lhx 0 2 g1 rfl<|la rfl<|qd h (Ab N · x1 s1 h1 h2 ·) rfl rfl rfl fun x2 h=>art 7 [] rfl ?_
  refine ch h rfl ?_ ?_ <;> intro h
  ·refine att 4 [] rfl ?_
   exact rt hF h
  refine att 7 [] rfl ?_
  exact lb [] [] (ih1 (_,_) h)
 refine att 6 [] rfl ?_
 exact rt hF h
theorem DT (w0:ab Ψ Φ []) (p0:bd) (p1:Int) (ph0_0:RSl be 4 Ψ pG0_0 pv0_0 p0.Alphas) (ph0_1:RSl bv 2 Ψ pG0_1 pv0_1 p0.Chains) {r:Int} (h:rT N p0 p1=some r) :
  CB w0 prog 5 [.agg [pv0_0,pv0_1].toArray,iV p1] (iV r):=by
 refine eN func5 rfl ntmps5 rfl w0 fun hF=>?_
 unfold rT at h
 refine sr<|lbx rfl fun b_1=>arr 7 [0,0] rfl<|qd h (xp N · p0.Alphas p1 ph0_0 ·) rfl rfl rfl fun x1 h=>art 8 [] rfl ?_
 refine ch h rfl ?_ ?_ <;> intro h
 ·refine att 4 [] rfl ?_
  exact rt hF h
 refine atr 6 [1,0] rfl<|qd h (xJ N · p0.Chains x1 ph0_1 ·) rfl rfl rfl fun x2 h=>art 8 [] rfl ?_
 refine ch h rfl ?_ ?_ <;> intro h
 ·refine att 4 [] rfl ?_
  exact rt hF h
 refine att 6 [] rfl ?_
 exact rt hF h
theorem CL (w0:ab Ψ Φ []) (p0:aP) (p1:Int) (ph0_0:RSl (RI .i64) 1 Ψ pG0_0 pv0_0 p0.L) {r:Int} (h:pD N p0 p1=some r) :
  CB w0 prog 58 [.agg [pv0_0].toArray,iV p1] (iV r):=by
 refine eN func58 rfl ntmps58 rfl w0 fun hF=>?_
 unfold pD at h
 refine sr ?_
 refine ln (qY (C:=#[pv0_0]) rfl rfl) rfl (fun b_1=>?_)
 refine arr 7 [0,0] rfl<|qd h (iS N · p0.L p1 ph0_0 ·) rfl rfl rfl fun x1 h=>art 8 [] rfl ?_
 refine ch h rfl ?_ ?_ <;> intro h
 ·refine att 4 [] rfl ?_
  exact rt hF h
 refine att 6 [] rfl ?_
 exact rt hF h
theorem AE (w0:ab Ψ Φ []) (p0:(List aP)) (p1:Int) (ph0:RSl dP 1 Ψ pG0 pv0 p0) {r:Int} (h:ra N p0 p1=some r) :
  CB w0 prog 26 [pv0,iV p1] (iV r):=by
 refine eN func26 rfl ntmps26 rfl w0 fun hF=>?_
 unfold ra at h
 refine atr 8 [] rfl<|lnr ph0 rfl<|art 9 [] rfl ?_
 refine ch h rfl ?_ ?_ <;> intro h
 ·refine att 4 [] rfl ?_
  exact rt hF h
 refine att 7 [] rfl ?_
 refine lin (σ:=Int × Int) (fun s=>[(0,pv0),(1,iV s.1),(5,iV s.2)]) (fun s=>St w0 Φ [] []) (fun m s=>j0 N p0 m s.1 s.2=some r) (wz (p1 - (p0.length:Int)),0) N h (sx [] []) (fun n1 ih1 s hm=>?_)
 obtain ⟨s1,s2⟩:=s
 have h:j0 N p0 (n1+1) s1 s2=some r:=hm
 show WT _ _ [(0,pv0),(1,iV s1),(5,iV s2)] (St w0 Φ [] [])
 unfold j0 at h
 refine atr 5 [] rfl<|lnr ph0 rfl<|la rfl<|en ?_
 refine ch h rfl ?_ ?_ <;> intro h
 ·refine atr 7 [] rfl ?_
  obtain ⟨x1,hx1,h⟩:=bs h
  obtain ⟨cs1,F1,-,g1,hb1,hs1,r1⟩:=ph0.el (a7 hx1).2.2
  obtain ⟨v1,G1,rfl,hq1,h1⟩:=r1
  obtain rfl:=hq1.symm
  refine lia ph0 hx1 rfl<|lhx 0 1 g1 rfl<|la rfl<|qd h (CL N · x1 s1 h1 ·) rfl rfl rfl fun x2 h=>art 7 [] rfl ?_
  refine ch h rfl ?_ ?_ <;> intro h
  ·refine att 4 [] rfl ?_
   exact rt hF h
  refine att 7 [] rfl ?_
  exact lb [] [] (ih1 (_,_) h)
 refine att 6 [] rfl ?_
 exact rt hF h
theorem DJ (w0:ab Ψ Φ []) (p0:ak) (p1:Int) (ph0_0:RSl (RI .i64) 1 Ψ pG0_0 pv0_0 p0.Ids) (ph0_1:RSl (RI .i64) 1 Ψ pG0_1 pv0_1 p0.Hits) {r:Int} (h:pr N p0 p1=some r) :
  CB w0 prog 222 [.agg [pv0_0,pv0_1].toArray,iV p1] (iV r):=by
 refine eN func222 rfl ntmps222 rfl w0 fun hF=>?_
 unfold pr at h
 refine sr<|lbx rfl fun b_1=>arr 7 [0,0] rfl<|qd h (iS N · p0.Ids p1 ph0_0 ·) rfl rfl rfl fun x1 h=>art 8 [] rfl ?_
 refine ch h rfl ?_ ?_ <;> intro h
 ·refine att 4 [] rfl ?_
  exact rt hF h
 refine atr 6 [1,0] rfl<|qd h (iS N · p0.Hits x1 ph0_1 ·) rfl rfl rfl fun x2 h=>art 8 [] rfl ?_
 refine ch h rfl ?_ ?_ <;> intro h
 ·refine att 4 [] rfl ?_
  exact rt hF h
 refine att 6 [] rfl ?_
 exact rt hF h
theorem Bm (w0:ab Ψ Φ []) (p0:(List ak)) (p1:Int) (ph0:RSl ic 2 Ψ pG0 pv0 p0) {r:Int} (h:qt N p0 p1=some r) :
  CB w0 prog 191 [pv0,iV p1] (iV r):=by
 refine eN func191 rfl ntmps191 rfl w0 fun hF=>?_
 unfold qt at h
 refine atr 8 [] rfl<|lnr ph0 rfl<|art 9 [] rfl ?_
 refine ch h rfl ?_ ?_ <;> intro h
 ·refine att 4 [] rfl ?_
  exact rt hF h
 refine att 7 [] rfl ?_
 refine lin (σ:=Int × Int) (fun s=>[(0,pv0),(1,iV s.1),(5,iV s.2)]) (fun s=>St w0 Φ [] []) (fun m s=>iO N p0 m s.1 s.2=some r) (wz (p1 - (p0.length:Int)),0) N h (sx [] []) (fun n1 ih1 s hm=>?_)
 obtain ⟨s1,s2⟩:=s
 have h:iO N p0 (n1+1) s1 s2=some r:=hm
 show WT _ _ [(0,pv0),(1,iV s1),(5,iV s2)] (St w0 Φ [] [])
 unfold iO at h
 refine atr 5 [] rfl<|lnr ph0 rfl<|la rfl<|en ?_
 refine ch h rfl ?_ ?_ <;> intro h
 ·refine atr 7 [] rfl ?_
  obtain ⟨x1,hx1,h⟩:=bs h
  obtain ⟨cs1,F1,-,g1,hb1,hs1,r1⟩:=ph0.el (a7 hx1).2.2
  obtain ⟨v1,G1,v2,G2,rfl,rfl,h1,h2⟩:=r1
  refine lia ph0 hx1 rfl<|lhx 0 2 g1 rfl<|la rfl<|qd h (DJ N · x1 s1 h1 h2 ·) rfl rfl rfl fun x2 h=>art 7 [] rfl ?_
  refine ch h rfl ?_ ?_ <;> intro h
  ·refine att 4 [] rfl ?_
   exact rt hF h
  refine att 7 [] rfl ?_
  exact lb [] [] (ih1 (_,_) h)
 refine att 6 [] rfl ?_
 exact rt hF h
theorem zj (w0:ab Ψ Φ []) (p0:ae) (p1:Int) (ph0_0:RSl ic 2 Ψ pG0_0 pv0_0 p0.Toks) {r:Int} (h:l7 N p0 p1=some r) :
  CB w0 prog 157 [.agg [pv0_0].toArray,iV p1] (iV r):=by
 refine eN func157 rfl ntmps157 rfl w0 fun hF=>?_
 unfold l7 at h
 refine sr ?_
 refine ln (qY (C:=#[pv0_0]) rfl rfl) rfl (fun b_1=>?_)
 refine arr 7 [0,0] rfl<|qd h (Bm N · p0.Toks p1 ph0_0 ·) rfl rfl rfl fun x1 h=>art 8 [] rfl ?_
 refine ch h rfl ?_ ?_ <;> intro h
 ·refine att 4 [] rfl ?_
  exact rt hF h
 refine att 6 [] rfl ?_
 exact rt hF h
theorem xH (w0:ab Ψ Φ []) (p0:(List ae)) (p1:Int) (ph0:RSl dI 1 Ψ pG0 pv0 p0) {r:Int} (h:ml N p0 p1=some r) :
  CB w0 prog 106 [pv0,iV p1] (iV r):=by
 refine eN func106 rfl ntmps106 rfl w0 fun hF=>?_
 unfold ml at h
 refine atr 8 [] rfl<|lnr ph0 rfl<|art 9 [] rfl ?_
 refine ch h rfl ?_ ?_ <;> intro h
 ·refine att 4 [] rfl ?_
  exact rt hF h
 refine att 7 [] rfl ?_
 refine lin (σ:=Int × Int) (fun s=>[(0,pv0),(1,iV s.1),(5,iV s.2)]) (fun s=>St w0 Φ [] []) (fun m s=>gn N p0 m s.1 s.2=some r) (wz (p1 - (p0.length:Int)),0) N h (sx [] []) (fun n1 ih1 s hm=>?_)
 obtain ⟨s1,s2⟩:=s
 have h:gn N p0 (n1+1) s1 s2=some r:=hm
 show WT _ _ [(0,pv0),(1,iV s1),(5,iV s2)] (St w0 Φ [] [])
 unfold gn at h
 refine atr 5 [] rfl<|lnr ph0 rfl<|la rfl<|en ?_
 refine ch h rfl ?_ ?_ <;> intro h
 ·refine atr 7 [] rfl ?_
  obtain ⟨x1,hx1,h⟩:=bs h
  obtain ⟨cs1,F1,-,g1,hb1,hs1,r1⟩:=ph0.el (a7 hx1).2.2
  obtain ⟨v1,G1,rfl,hq1,h1⟩:=r1
  obtain rfl:=hq1.symm
  refine lia ph0 hx1 rfl<|lhx 0 1 g1 rfl<|la rfl<|qd h (zj N · x1 s1 h1 ·) rfl rfl rfl fun x2 h=>art 7 [] rfl ?_
  refine ch h rfl ?_ ?_ <;> intro h
  ·refine att 4 [] rfl ?_
   exact rt hF h
  refine att 7 [] rfl ?_
  exact lb [] [] (ih1 (_,_) h)
 refine att 6 [] rfl ?_
 exact rt hF h
theorem En (w0:ab Ψ Φ []) (p0:aC) (p1:Int) (ph0_0:RSl dI 1 Ψ pG0_0 pv0_0 p0.Levels) {r:Int} (h:pL N p0 p1=some r) :
  CB w0 prog 59 [.agg [pv0_0].toArray,iV p1] (iV r):=by
 refine eN func59 rfl ntmps59 rfl w0 fun hF=>?_
 unfold pL at h
 refine sr ?_
 refine ln (qY (C:=#[pv0_0]) rfl rfl) rfl (fun b_1=>?_)
 refine arr 7 [0,0] rfl<|qd h (xH N · p0.Levels p1 ph0_0 ·) rfl rfl rfl fun x1 h=>art 8 [] rfl ?_
 refine ch h rfl ?_ ?_ <;> intro h
 ·refine att 4 [] rfl ?_
  exact rt hF h
 refine att 6 [] rfl ?_
 exact rt hF h
theorem Bt (w0:ab Ψ Φ []) (p0:(List aC)) (p1:Int) (ph0:RSl fx 1 Ψ pG0 pv0 p0) {r:Int} (h:qh N p0 p1=some r) :
  CB w0 prog 27 [pv0,iV p1] (iV r):=by
 refine eN func27 rfl ntmps27 rfl w0 fun hF=>?_
 unfold qh at h
 refine atr 8 [] rfl<|lnr ph0 rfl<|art 9 [] rfl ?_
 refine ch h rfl ?_ ?_ <;> intro h
 ·refine att 4 [] rfl ?_
  exact rt hF h
 refine att 7 [] rfl ?_
 refine lin (σ:=Int × Int) (fun s=>[(0,pv0),(1,iV s.1),(5,iV s.2)]) (fun s=>St w0 Φ [] []) (fun m s=>jd N p0 m s.1 s.2=some r) (wz (p1 - (p0.length:Int)),0) N h (sx [] []) (fun n1 ih1 s hm=>?_)
 obtain ⟨s1,s2⟩:=s
 have h:jd N p0 (n1+1) s1 s2=some r:=hm
 show WT _ _ [(0,pv0),(1,iV s1),(5,iV s2)] (St w0 Φ [] [])
 unfold jd at h
 refine atr 5 [] rfl<|lnr ph0 rfl<|la rfl<|en ?_
 refine ch h rfl ?_ ?_ <;> intro h
 ·refine atr 7 [] rfl ?_
  obtain ⟨x1,hx1,h⟩:=bs h
  obtain ⟨cs1,F1,-,g1,hb1,hs1,r1⟩:=ph0.el (a7 hx1).2.2
  obtain ⟨v1,G1,rfl,hq1,h1⟩:=r1
  obtain rfl:=hq1.symm
  refine lia ph0 hx1 rfl<|lhx 0 1 g1 rfl<|la rfl<|qd h (En N · x1 s1 h1 ·) rfl rfl rfl fun x2 h=>art 7 [] rfl ?_
  refine ch h rfl ?_ ?_ <;> intro h
  ·refine att 4 [] rfl ?_
   exact rt hF h
  refine att 7 [] rfl ?_
  exact lb [] [] (ih1 (_,_) h)
 refine att 6 [] rfl ?_
 exact rt hF h
theorem E4 (w0:ab Ψ Φ []) (p0:aG) (p1:Int) (ph0_0:RSl dP 1 Ψ pG0_0 pv0_0 p0.Alphas) (ph0_1:RSl fx 1 Ψ pG0_1 pv0_1 p0.Rules) {r:Int} (h:sw N p0 p1=some r) :
  CB w0 prog 6 [.agg [pv0_0,pv0_1].toArray,iV p1] (iV r):=by
 refine eN func6 rfl ntmps6 rfl w0 fun hF=>?_
 unfold sw at h
 refine sr<|lbx rfl fun b_1=>arr 7 [0,0] rfl<|qd h (AE N · p0.Alphas p1 ph0_0 ·) rfl rfl rfl fun x1 h=>art 8 [] rfl ?_
 refine ch h rfl ?_ ?_ <;> intro h
 ·refine att 4 [] rfl ?_
  exact rt hF h
 refine atr 6 [1,0] rfl<|qd h (Bt N · p0.Rules x1 ph0_1 ·) rfl rfl rfl fun x2 h=>art 8 [] rfl ?_
 refine ch h rfl ?_ ?_ <;> intro h
 ·refine att 4 [] rfl ?_
  exact rt hF h
 refine att 6 [] rfl ?_
 exact rt hF h
theorem Aq (w0:ab Ψ Φ []) (p0:aA) (p1:Int) (ph0_0:RSl av 3 Ψ pG0_0 pv0_0 p0.Fields) {r:Int} (h:q9 N p0 p1=some r) :
  CB w0 prog 107 [.agg [.string p0.Kind,pv0_0].toArray,iV p1] (iV r):=by
 refine eN func107 rfl ntmps107 rfl w0 fun hF=>?_
 unfold q9 at h
 refine sr<|lbx rfl fun b_1=>arr 7 [0,0] rfl<|lq (gj fw rfl rfl) rfl<|art 9 [] rfl ?_
 refine ch h rfl ?_ ?_ <;> intro h
 ·refine att 4 [] rfl ?_
  exact rt hF h
 refine atr 6 [1,0] rfl<|qd h (uB N · p0.Fields (wz (p1 - (p0.Kind.size:Int))) ph0_0 ·) rfl rfl rfl fun x1 h=>art 8 [] rfl ?_
 refine ch h rfl ?_ ?_ <;> intro h
 ·refine att 4 [] rfl ?_
  exact rt hF h
 refine att 6 [] rfl ?_
 exact rt hF h
theorem AK (w0:ab Ψ Φ []) (p0:aY) (p1:Int) (ph0_0:RSl av 3 Ψ pG0_0 pv0_0 p0.F.Fields) {r:Int} (h:n9 N p0 p1=some r) :
  CB w0 prog 60 [.agg [iV p0.Id,.string p0.F.Kind,pv0_0].toArray,iV p1] (iV r):=by
 refine eN func60 rfl ntmps60 rfl w0 fun hF=>?_
 unfold n9 at h
 refine sr<|lbx rfl fun b_1=>arr 7 [1,2] rfl<|qd h (Aq N · p0.F p1 ph0_0 ·) rfl rfl rfl fun x1 h=>art 8 [] rfl ?_
 refine ch h rfl ?_ ?_ <;> intro h
 ·refine att 4 [] rfl ?_
  exact rt hF h
 refine att 6 [] rfl ?_
 exact rt hF h
theorem Ai (w0:ab Ψ Φ []) (p0:(List aY)) (p1:Int) (ph0:RSl bN 3 Ψ pG0 pv0 p0) {r:Int} (h:o5 N p0 p1=some r) :
  CB w0 prog 28 [pv0,iV p1] (iV r):=by
 refine eN func28 rfl ntmps28 rfl w0 fun hF=>?_
 unfold o5 at h
 refine atr 8 [] rfl<|lnr ph0 rfl<|art 9 [] rfl ?_
 refine ch h rfl ?_ ?_ <;> intro h
 ·refine att 4 [] rfl ?_
  exact rt hF h
 refine att 7 [] rfl ?_
 refine lin (σ:=Int × Int) (fun s=>[(0,pv0),(1,iV s.1),(5,iV s.2)]) (fun s=>St w0 Φ [] []) (fun m s=>gW N p0 m s.1 s.2=some r) (wz (p1 - (p0.length:Int)),0) N h (sx [] []) (fun n1 ih1 s hm=>?_)
 obtain ⟨s1,s2⟩:=s
 have h:gW N p0 (n1+1) s1 s2=some r:=hm
 show WT _ _ [(0,pv0),(1,iV s1),(5,iV s2)] (St w0 Φ [] [])
 unfold gW at h
 refine atr 5 [] rfl<|lnr ph0 rfl<|la rfl<|en ?_
 refine ch h rfl ?_ ?_ <;> intro h
 ·refine atr 7 [] rfl ?_
  obtain ⟨x1,hx1,h⟩:=bs h
  obtain ⟨cs1,F1,-,g1,hb1,hs1,r1⟩:=ph0.el (a7 hx1).2.2
  obtain ⟨v1,G1,rfl,hq1,h1⟩:=r1
  obtain rfl:=hq1.symm
  refine lia ph0 hx1 rfl<|lhx 0 3 g1 rfl<|la rfl<|qd h (AK N · x1 s1 h1 ·) rfl rfl rfl fun x2 h=>art 7 [] rfl ?_
  refine ch h rfl ?_ ?_ <;> intro h
  ·refine att 4 [] rfl ?_
   exact rt hF h
  refine att 7 [] rfl ?_
  exact lb [] [] (ih1 (_,_) h)
 refine att 6 [] rfl ?_
 exact rt hF h
theorem zA (w0:ab Ψ Φ []) (p0:ah) (p1:Int) (ph0_0:RSl bN 3 Ψ pG0_0 pv0_0 p0.Items) {r:Int} (h:ow N p0 p1=some r) :
  CB w0 prog 7 [.agg [pv0_0,iV p0.Next].toArray,iV p1] (iV r):=by
 refine eN func7 rfl ntmps7 rfl w0 fun hF=>?_
 unfold ow at h
 refine sr<|lbx rfl fun b_1=>arr 7 [0,0] rfl<|qd h (Ai N · p0.Items p1 ph0_0 ·) rfl rfl rfl fun x1 h=>art 8 [] rfl ?_
 refine ch h rfl ?_ ?_ <;> intro h
 ·refine att 4 [] rfl ?_
  exact rt hF h
 refine att 6 [] rfl ?_
 exact rt hF h
theorem uM (w0:ab Ψ Φ []) (p0:(List ak)) (ph0:RSl ic 2 Ψ pG0 pv0 p0) {r:(List ak)} (h:iD N p0=some r) :
  Calls prog 61 [pv0].toArray w0.w (aL Φ w0.w [] (fun Φ' Fs v=>∃ (sr_0_0:Value) (Dr_0_0:List Nat),v=sr_0_0∧Fs=[ob sr_0_0,Dr_0_0]∧OSl aO 159 2 Φ' Dr_0_0 sr_0_0 r)):=by
 refine eN func61 rfl ntmps61 rfl w0 fun hF=>?_
 unfold iD at h
 refine atr 6 [] rfl ?_
 have rc1:RC aO 2 Φ ([]:List (List Nat)) [] ([]:List ak):=RC.nil _ _ _
 refine le' (ed (vs:=[]) (C:=#[]) aO.lasts dU iz rfl rfl rfl rfl (aV EG (aq)) rfl rc1 rfl (by simpa using Kw.nil)) rfl ?_
 rintro v1 Φ_1 D1 ⟨fr1,h1⟩
 replace h1:OSl aO 159 2 Φ_1 [] v1 ([]:List ak):=by simpa [List.append_assoc] using h1
 refine WL.conv (S':=St w0 Φ_1 [] [[],ob v1]) (fun w1 hw=>hw.addNil)<|art 8 [] rfl ?_
 refine lin (σ:=Hp × (List ak) × Value × List Nat × Int) (fun s=>[(0,pv0),(3,s.2.2.1),(4,iV s.2.2.2.2)]) (fun s=>St w0 s.1 [] [s.2.2.2.1,ob s.2.2.1]) (fun m s=>cr N p0 m s.2.1 s.2.2.2.2=some r∧(OSl aO 159 2 s.1 s.2.2.2.1 s.2.2.1 s.2.1)) (Φ_1,([]:List ak),v1,[],0) N ⟨h,h1⟩ (sx [0,0] []) (fun n1 ih1 s hm=>?_)
 obtain ⟨Φ_2,s1,u1,D2,s2⟩:=s
 obtain ⟨h,k1⟩:=hm
 dsimp only at h k1 ⊢
 unfold cr at h
 refine atr 5 [] rfl<|lnr ph0 rfl<|la rfl<|en ?_
 refine ch h rfl ?_ ?_ <;> intro h
 ·refine att 3 [] rfl ?_
  refine cut (σ:=Hp × (List ak) × Value × List Nat) (fun s=>[(0,pv0),(3,s.2.2.1),(4,iV s2)]) (fun s=>St w0 s.1 [] [s.2.2.2,ob s.2.2.1]) (fun s=>ir N s2 (cr N p0 n1) s.2.1=some r∧(OSl aO 159 2 s.1 s.2.2.2 s.2.2.1 s.2.1)) (fun s hm=>?_) (fun K=>?_)
  ·clear h
   obtain ⟨Φ_9,s3,u2,D9⟩:=s
   obtain ⟨h,k2⟩:=hm
   dsimp only at h k2 ⊢
   unfold ir at h
   refine att 6 [] rfl ?_
   exact lb [0,0] [] (ih1 (_,_,_,_,_) ⟨h,k2⟩)
  refine wm [] [] rfl<|amm 3 [0,2,3] [] rfl rfl ?_
  obtain ⟨x6,hx6,h⟩:=bs h
  obtain ⟨cs3,F3,-,g3,hb3,hs3,r3⟩:=ph0.el (a7 hx6).2.2
  obtain ⟨v12,G5,v13,G6,rfl,rfl,h14,h15⟩:=r3
  refine mq 4 rfl (by kernel_rfl) (kN []) (aa dU rfl rfl ph0 hx6) rfl<|amm 1 [5,0] [] rfl rfl<|mq 6 rfl (by kernel_rfl) (kN []) (bk pX rfl (fun w1 hw=>(g3.of_eq 0 1 rfl rfl:rg _ _ _ [v12]).rangeAt hw.1)) rfl<|amm 2 [9,10] [] rfl rfl ?_
  obtain ⟨x7,hx7,h⟩:=bs h
  obtain ⟨cs4,F4,-,g4,hb4,hs4,r4⟩:=ph0.el (a7 hx7).2.2
  obtain ⟨v14,G7,v15,G8,rfl,rfl,h16,h17⟩:=r4
  refine mq 11 rfl (by kernel_rfl) (kN []) (aa dU rfl rfl ph0 hx7) rfl<|amm 1 [12,1] [] rfl rfl<|mq 13 rfl (by kernel_rfl) (kN []) (bk pX rfl (fun w1 hw=>(g4.of_eq 1 1 rfl rfl:rg _ _ _ [v15]).rangeAt hw.1)) rfl ?_
  refine WM.two 1 8 (by kernel_rfl) ?_ ?_
  ·refine me rfl (fun _ v Φx D w1 hq hw=>Kn.of Kf.nil aN hw) (ju (R:=RI .i64) RI.lasts bg sW rfl rfl) rfl ?_
   rintro v16 Φ_10 D10 ⟨fr8,h18⟩
   replace k1:=k1.f0 fr8
   refine WM.two 7 8 (by kernel_rfl) ?_ ?_
   ·first | refine mu0 h14 fun h19=>?_ | refine iu0 h14 fun h19=>?_
    obtain ⟨x8,hx8,h⟩:=bs h
    refine me rfl (fun _ v Φx D w1 hq hw=>Kn.of Kf.nil aN hw) (dV RI.lasts RI.one RI.flat bg ui rfl rfl rfl rfl rfl (js:=[0]) (Rr:=[D2,ob u1]) rfl h18 h19 hx8) rfl ?_
    rintro v17 Φ_11 D11 ⟨⟨ap4,fr9⟩,h20⟩
    replace k1:=k1.fr fr9 (ap4.q 1 rfl) (ap4.q 0 rfl)
    refine WM.one 8 (by kernel_rfl) (me rfl (fun _ v Φx D w1 hq hw=>Kn.of Kf.nil aN hw) (ju (R:=RI .i64) RI.lasts bg sW rfl rfl) rfl ?_)
    rintro v18 Φ_12 D12 ⟨fr10,h21⟩
    replace k1:=k1.f0 fr10
    replace h20:=h20.f0 fr10
    first | refine mu0 h17 fun h22=>?_ | refine iu0 h17 fun h22=>?_
    obtain ⟨x9,hx9,h⟩:=bs h
    refine WM.one 14 (by kernel_rfl) (me rfl (fun _ v Φx D w1 hq hw=>Kn.of Kf.nil aN hw) (dV RI.lasts RI.one RI.flat bg ui rfl rfl rfl rfl rfl (js:=[0]) (Rr:=[ob v17,D2,ob u1]) rfl h21 h22 hx9) rfl ?_)
    rintro v19 Φ_13 D13 ⟨⟨ap5,fr11⟩,h23⟩
    replace k1:=k1.fr fr11 (ap5.q 2 rfl) (ap5.q 1 rfl)
    replace h20:=h20.fr fr11 (ap5.q 0 rfl) dN
    refine mq 15 rfl (by kernel_rfl) (kN []) (cG (vs:=[(0,v17),(1,v19)]) (C:=#[v17,v19]) DY iz rfl (ag (C':=[v17,.slice none 0 0]) rfl (cJ h20.one) rfl rfl rfl (ag (C':=[v17,v19]) rfl (cJ h23.one) rfl rfl rfl (aq)))) rfl ?_
    have rc7:RC aO 2 Φ_13 ([(ob v17++[])++((ob v19++[]))]:List (List Nat)) [v17,v19] ([(⟨x8,x9⟩:ak)]:List ak):=RC.cons (c:=[v17,v19]) (cells:=[]) ⟨v17,v19,rfl,rfl,h20,h23⟩ rfl (RC.nil _ _ _)
    refine WM.one 16 (by kernel_rfl) (me rfl (fun _ v Φx D w1 hq hw=>Kn.of Kf.nil aN hw) (ed (vs:=[(0,.agg [v17,v19].toArray)]) (C:=#[v17,v19]) aO.lasts dU iz rfl rfl rfl rfl (aV u6 (ag (C':=[v17,v19]) rfl rfl rfl rfl rfl (aq))) rfl rc7 rfl (RC.kn aO.knows rc7)) rfl ?_)
    rintro v20 Φ_14 D14 ⟨fr12,h24⟩
    replace h24:OSl aO 159 2 Φ_14 ((ob v17++[])++((ob v19++[]))) v20 ([(⟨x8,x9⟩:ak)]:List ak):=by simpa [List.append_assoc] using h24
    replace k1:=k1.f0 fr12
    refine WM.conv (S':=St w0 Φ_14 [] [((ob v17++[])++((ob v19++[]))),ob v20,D2,ob u1]) (fun w1 hw=>hw.merge (js:=[2,1]) rfl (SP.eq (by simp [List.append_assoc,bm]))) ?_
    obtain ⟨x10,hx10,h⟩:=bs h
    refine WM.one 17 (by kernel_rfl) (me rfl (fun _ v Φx D w1 hq hw=>Kn.of Kf.nil aN hw) (kj aO.lasts aO.one dU zN rfl rfl rfl rfl rfl (js:=[3]) (Rr:=[((ob v17++[])++((ob v19++[]))),ob v20,D2]) rfl k1 h24 (fun ap=>ap.q 2 rfl) (fun ap=>ap.q 0 rfl) hx10) rfl ?_)
    rintro v21 Φ_15 D15 ⟨⟨ap6,fr13⟩,h25⟩
    refine WM.conv (S':=St w0 Φ_15 [] [(D2++((ob v17++[])++((ob v19++[])))),ob v21,ob v20]) (fun w1 hw=>hw.merge (js:=[3,1]) rfl (SP.eq (by simp)))<|amm 1 [18] [] rfl rfl<|WM.nil (by kernel_rfl) ?_
    exact wo [0,0] [] (K (_,_,_,_) ⟨h,h25⟩)
   refine me rfl (fun _ v Φx D w1 hq hw=>Kn.of Kf.nil aN hw) (ju (R:=RI .i64) RI.lasts bg sW rfl rfl) rfl ?_
   rintro v22 Φ_16 D16 ⟨fr14,h26⟩
   replace k1:=k1.f0 fr14
   replace h18:=h18.f0 fr14
   first | refine mu0 h14 fun h27=>?_ | refine iu0 h14 fun h27=>?_
   obtain ⟨x11,hx11,h⟩:=bs h
   refine WM.one 7 (by kernel_rfl) (me rfl (fun _ v Φx D w1 hq hw=>Kn.of Kf.nil aN hw) (dV RI.lasts RI.one RI.flat bg ui rfl rfl rfl rfl rfl (js:=[1]) (Rr:=[ob v22,D2,ob u1]) rfl h18 h27 hx11) rfl ?_)
   rintro v23 Φ_17 D17 ⟨⟨ap7,fr15⟩,h28⟩
   replace k1:=k1.fr fr15 (ap7.q 2 rfl) (ap7.q 1 rfl)
   replace h26:=h26.fr fr15 (ap7.q 0 rfl) dN
   first | refine mu0 h17 fun h29=>?_ | refine iu0 h17 fun h29=>?_
   obtain ⟨x12,hx12,h⟩:=bs h
   refine WM.one 14 (by kernel_rfl) (me rfl (fun _ v Φx D w1 hq hw=>Kn.of Kf.nil aN hw) (dV RI.lasts RI.one RI.flat bg ui rfl rfl rfl rfl rfl (js:=[1]) (Rr:=[ob v23,D2,ob u1]) rfl h26 h29 hx12) rfl ?_)
   rintro v24 Φ_18 D18 ⟨⟨ap8,fr16⟩,h30⟩
   replace k1:=k1.fr fr16 (ap8.q 2 rfl) (ap8.q 1 rfl)
   replace h28:=h28.fr fr16 (ap8.q 0 rfl) dN
   refine mq 15 rfl (by kernel_rfl) (kN []) (cG (vs:=[(0,v23),(1,v24)]) (C:=#[v23,v24]) DY iz rfl (ag (C':=[v23,.slice none 0 0]) rfl (cJ h28.one) rfl rfl rfl (ag (C':=[v23,v24]) rfl (cJ h30.one) rfl rfl rfl (aq)))) rfl ?_
   have rc9:RC aO 2 Φ_18 ([(ob v23++[])++((ob v24++[]))]:List (List Nat)) [v23,v24] ([(⟨x11,x12⟩:ak)]:List ak):=RC.cons (c:=[v23,v24]) (cells:=[]) ⟨v23,v24,rfl,rfl,h28,h30⟩ rfl (RC.nil _ _ _)
   refine WM.one 16 (by kernel_rfl) (me rfl (fun _ v Φx D w1 hq hw=>Kn.of Kf.nil aN hw) (ed (vs:=[(0,.agg [v23,v24].toArray)]) (C:=#[v23,v24]) aO.lasts dU iz rfl rfl rfl rfl (aV u6 (ag (C':=[v23,v24]) rfl rfl rfl rfl rfl (aq))) rfl rc9 rfl (RC.kn aO.knows rc9)) rfl ?_)
   rintro v25 Φ_19 D19 ⟨fr17,h31⟩
   replace h31:OSl aO 159 2 Φ_19 ((ob v23++[])++((ob v24++[]))) v25 ([(⟨x11,x12⟩:ak)]:List ak):=by simpa [List.append_assoc] using h31
   replace k1:=k1.f0 fr17
   refine WM.conv (S':=St w0 Φ_19 [] [((ob v23++[])++((ob v24++[]))),ob v25,D2,ob u1]) (fun w1 hw=>hw.merge (js:=[2,1]) rfl (SP.eq (by simp [List.append_assoc,bm]))) ?_
   obtain ⟨x13,hx13,h⟩:=bs h
   refine WM.one 17 (by kernel_rfl) (me rfl (fun _ v Φx D w1 hq hw=>Kn.of Kf.nil aN hw) (kj aO.lasts aO.one dU zN rfl rfl rfl rfl rfl (js:=[3]) (Rr:=[((ob v23++[])++((ob v24++[]))),ob v25,D2]) rfl k1 h31 (fun ap=>ap.q 2 rfl) (fun ap=>ap.q 0 rfl) hx13) rfl ?_)
   rintro v26 Φ_20 D20 ⟨⟨ap9,fr18⟩,h32⟩
   refine WM.conv (S':=St w0 Φ_20 [] [(D2++((ob v23++[])++((ob v24++[])))),ob v26,ob v25]) (fun w1 hw=>hw.merge (js:=[3,1]) rfl (SP.eq (by simp)))<|amm 1 [18] [] rfl rfl<|WM.nil (by kernel_rfl) ?_
   exact wo [0,0] [] (K (_,_,_,_) ⟨h,h32⟩)
  refine me rfl (fun _ v Φx D w1 hq hw=>Kn.of Kf.nil aN hw) (ju (R:=RI .i64) RI.lasts bg sW rfl rfl) rfl ?_
  rintro v27 Φ_21 D21 ⟨fr19,h33⟩
  replace k1:=k1.f0 fr19
  refine WM.one 1 (by kernel_rfl) (me rfl (fun _ v Φx D w1 hq hw=>Kn.of Kf.nil aN hw) (ju (R:=RI .i64) RI.lasts bg sW rfl rfl) rfl ?_)
  rintro v28 Φ_22 D22 ⟨fr20,h34⟩
  replace k1:=k1.f0 fr20
  replace h33:=h33.f0 fr20
  first | refine mu0 h14 fun h35=>?_ | refine iu0 h14 fun h35=>?_
  obtain ⟨x14,hx14,h⟩:=bs h
  refine WM.one 7 (by kernel_rfl) (me rfl (fun _ v Φx D w1 hq hw=>Kn.of Kf.nil aN hw) (dV RI.lasts RI.one RI.flat bg ui rfl rfl rfl rfl rfl (js:=[0]) (Rr:=[ob v27,D2,ob u1]) rfl h34 h35 hx14) rfl ?_)
  rintro v29 Φ_23 D23 ⟨⟨ap10,fr21⟩,h36⟩
  replace k1:=k1.fr fr21 (ap10.q 2 rfl) (ap10.q 1 rfl)
  replace h33:=h33.fr fr21 (ap10.q 0 rfl) dN
  first | refine mu0 h17 fun h37=>?_ | refine iu0 h17 fun h37=>?_
  obtain ⟨x15,hx15,h⟩:=bs h
  refine WM.one 14 (by kernel_rfl) (me rfl (fun _ v Φx D w1 hq hw=>Kn.of Kf.nil aN hw) (dV RI.lasts RI.one RI.flat bg ui rfl rfl rfl rfl rfl (js:=[1]) (Rr:=[ob v29,D2,ob u1]) rfl h33 h37 hx15) rfl ?_)
  rintro v30 Φ_24 D24 ⟨⟨ap11,fr22⟩,h38⟩
  replace k1:=k1.fr fr22 (ap11.q 2 rfl) (ap11.q 1 rfl)
  replace h36:=h36.fr fr22 (ap11.q 0 rfl) dN
  refine mq 15 rfl (by kernel_rfl) (kN []) (cG (vs:=[(0,v29),(1,v30)]) (C:=#[v29,v30]) DY iz rfl (ag (C':=[v29,.slice none 0 0]) rfl (cJ h36.one) rfl rfl rfl (ag (C':=[v29,v30]) rfl (cJ h38.one) rfl rfl rfl (aq)))) rfl ?_
  have rc12:RC aO 2 Φ_24 ([(ob v29++[])++((ob v30++[]))]:List (List Nat)) [v29,v30] ([(⟨x14,x15⟩:ak)]:List ak):=RC.cons (c:=[v29,v30]) (cells:=[]) ⟨v29,v30,rfl,rfl,h36,h38⟩ rfl (RC.nil _ _ _)
  refine WM.one 16 (by kernel_rfl) (me rfl (fun _ v Φx D w1 hq hw=>Kn.of Kf.nil aN hw) (ed (vs:=[(0,.agg [v29,v30].toArray)]) (C:=#[v29,v30]) aO.lasts dU iz rfl rfl rfl rfl (aV u6 (ag (C':=[v29,v30]) rfl rfl rfl rfl rfl (aq))) rfl rc12 rfl (RC.kn aO.knows rc12)) rfl ?_)
  rintro v31 Φ_25 D25 ⟨fr23,h39⟩
  replace h39:OSl aO 159 2 Φ_25 ((ob v29++[])++((ob v30++[]))) v31 ([(⟨x14,x15⟩:ak)]:List ak):=by simpa [List.append_assoc] using h39
  replace k1:=k1.f0 fr23
  refine WM.conv (S':=St w0 Φ_25 [] [((ob v29++[])++((ob v30++[]))),ob v31,D2,ob u1]) (fun w1 hw=>hw.merge (js:=[2,1]) rfl (SP.eq (by simp [List.append_assoc,bm]))) ?_
  obtain ⟨x16,hx16,h⟩:=bs h
  refine WM.one 17 (by kernel_rfl) (me rfl (fun _ v Φx D w1 hq hw=>Kn.of Kf.nil aN hw) (kj aO.lasts aO.one dU zN rfl rfl rfl rfl rfl (js:=[3]) (Rr:=[((ob v29++[])++((ob v30++[]))),ob v31,D2]) rfl k1 h39 (fun ap=>ap.q 2 rfl) (fun ap=>ap.q 0 rfl) hx16) rfl ?_)
  rintro v32 Φ_26 D26 ⟨⟨ap12,fr24⟩,h40⟩
  refine WM.conv (S':=St w0 Φ_26 [] [(D2++((ob v29++[])++((ob v30++[])))),ob v32,ob v31]) (fun w1 hw=>hw.merge (js:=[3,1]) rfl (SP.eq (by simp)))<|amm 1 [18] [] rfl rfl<|WM.nil (by kernel_rfl) ?_
  exact wo [0,0] [] (K (_,_,_,_) ⟨h,h40⟩)
 refine att 6 [] rfl ?_
 exact rtg [1,0] hF (ao.one rfl) rfl (by cases h; exact fun w1 hw=>⟨u1,D2,rfl,rfl,k1⟩)
theorem yW (w0:ab Ψ Φ []) (p0:aG) (ph0_0:RSl dP 1 Ψ pG0_0 pv0_0 p0.Alphas) (ph0_1:RSl fx 1 Ψ pG0_1 pv0_1 p0.Rules) {r:aG} (h:nY N p0=some r) :
  Calls prog 29 [.agg [pv0_0,pv0_1].toArray].toArray w0.w (aL Φ w0.w [] (fun Φ' Fs v=>∃ (sr_0_0:Value) (Dr_0_0:List Nat) (sr_0_1:Value) (Dr_0_1:List Nat),v = .agg [sr_0_0,sr_0_1].toArray∧Fs=[ob sr_0_0,Dr_0_0,ob sr_0_1,Dr_0_1]∧OSl aF 123 1 Φ' Dr_0_0 sr_0_0 r.Alphas∧OSl aM 126 1 Φ' Dr_0_1 sr_0_1 r.Rules)):=by
 refine eN func29 rfl ntmps29 rfl w0 fun hF=>?_
 unfold nY at h
 refine sr<|lbx rfl fun b_1=>lnz iG rfl fun b_2=>en<|sr<|lq (cG (vs:=[]) (C:=#[.slice none 0 0,.slice none 0 0]) N1 iG rfl (aq)) rfl<|lnz iG rfl fun b_3=>soN 0 kg rfl ⟨rfl,rfl,trivial⟩ rfl ?_
 refine art 7 [] rfl<|wtS<|wt0 ?_
 have k1:=OSl.nil aF 123 1 Φ
 refine lin (σ:=Hp × (List aP) × Value × List Nat × Int) (fun s=>[(1,pQ b_1),(2,pQ b_2),(3,pQ b_3),(4,iV s.2.2.2.2)]) (fun s=>St w0 s.1 [(b_3,.cells #[s.2.2.1,.slice none 0 0] 43 (0,0)),(b_2,.cells #[.slice none 0 0,.slice none 0 0] 43 (0,0)),(b_1,.cells #[pv0_0,pv0_1] 43 (0,0))] [s.2.2.2.1,ob s.2.2.1]) (fun m s=>ga N p0 m s.2.1 s.2.2.2.2=some r∧(OSl aF 123 1 s.1 s.2.2.2.1 s.2.2.1 s.2.1)) (Φ,([]:List aP),(.slice none 0 0),[],0) N ⟨h,k1⟩ (sx [0,0] [0,0,0]) (fun n1 ih1 s hm=>?_)
 obtain ⟨Φ_1,s1,u1,D1,s2⟩:=s
 obtain ⟨h,k2⟩:=hm
 dsimp only at h k2 ⊢
 unfold ga at h
 refine atr 6 [0,64] rfl<|lnr ph0_0 rfl<|la rfl<|en ?_
 refine ch h rfl ?_ ?_ <;> intro h
 ·refine att 3 [] rfl<|wm [0,1,2] [14] rfl<|amm 5 [0,0,1,0,3,0,4,64,5] [0,1,2] rfl rfl ?_
  obtain ⟨x1,hx1,h⟩:=bs h
  obtain ⟨cs1,F1,-,g1,hb1,hs1,r1⟩:=ph0_0.el (a7 hx1).2.2
  obtain ⟨v1,G1,rfl,hq1,h1⟩:=r1
  obtain rfl:=hq1.symm
  refine mq 6 rfl (by kernel_rfl) (kN [0,1,2]) (aa uJ rfl rfl ph0_0 hx1) rfl<|amm 1 [7,0] [0,1,2] rfl rfl<|mq 8 rfl (by kernel_rfl) (kN [0,1,2]) (bk pX rfl (fun w1 hw=>(g1.of_eq 0 1 rfl rfl:rg _ _ _ [v1]).rangeAt hw.1)) rfl ?_
  refine WM.one 2 (by kernel_rfl) (me rfl (fun _ v Φx D w1 hq hw=>Kn.of Kf.nil (ai3 0 1 2 rfl rfl rfl) hw) (ju (R:=RI .i64) RI.lasts bg sW rfl rfl) rfl ?_)
  rintro v2 Φ_2 D2 ⟨fr1,h2⟩
  replace k2:=k2.f0 fr1
  first | refine mu0 h1 fun h3=>?_ | refine iu0 h1 fun h3=>?_
  obtain ⟨x2,hx2,h⟩:=bs h
  refine WM.one 9 (by kernel_rfl) (me rfl (fun _ v Φx D w1 hq hw=>Kn.of Kf.nil (ai3 0 1 2 rfl rfl rfl) hw) (dV RI.lasts RI.one RI.flat bg ui rfl rfl rfl rfl rfl (js:=[0]) (Rr:=[D1,ob u1]) rfl h2 h3 hx2) rfl ?_)
  rintro v3 Φ_3 D3 ⟨⟨ap1,fr2⟩,h4⟩
  replace k2:=k2.fr fr2 (ap1.q 1 rfl) (ap1.q 0 rfl)
  refine mq 10 rfl (by kernel_rfl) (kN [0,1,2]) (cG (vs:=[(0,v3)]) (C:=#[v3]) HW tP rfl (ag (C':=[v3]) rfl (cJ h4.one) rfl rfl rfl (aq))) rfl ?_
  have rc2:RC aF 1 Φ_3 ([(ob v3++[])]:List (List Nat)) [v3] ([(⟨x2⟩:aP)]:List aP):=RC.cons (c:=[v3]) (cells:=[]) ⟨v3,rfl,rfl,h4⟩ rfl (RC.nil _ _ _)
  refine WM.one 11 (by kernel_rfl) (me rfl (fun _ v Φx D w1 hq hw=>Kn.of Kf.nil (ai3 0 1 2 rfl rfl rfl) hw) (ed (vs:=[(0,.agg [v3].toArray)]) (C:=#[v3]) aF.lasts uJ tP rfl rfl rfl rfl (aV Fo (ag (C':=[v3]) rfl rfl rfl rfl rfl (aq))) rfl rc2 rfl (RC.kn aF.knows rc2)) rfl ?_)
  rintro v4 Φ_4 D4 ⟨fr3,h5⟩
  replace h5:OSl aF 123 1 Φ_4 ((ob v3++[])) v4 ([(⟨x2⟩:aP)]:List aP):=by simpa [List.append_assoc] using h5
  replace k2:=k2.f0 fr3
  refine WM.conv (S':=St w0 Φ_4 [(b_3,.cells #[u1,.slice none 0 0] 43 (0,0)),(b_2,.cells #[.slice none 0 0,.slice none 0 0] 43 (0,0)),(b_1,.cells #[pv0_0,pv0_1] 43 (0,0))] [((ob v3++[])),ob v4,D1,ob u1]) (fun w1 hw=>hw.merge (js:=[1]) rfl (SP.eq (by simp [List.append_assoc,bm]))) ?_
  obtain ⟨x3,hx3,h⟩:=bs h
  refine WM.one 12 (by kernel_rfl) (me rfl (fun _ v Φx D w1 hq hw=>Kn.of Kf.nil (ai3 0 1 2 rfl rfl rfl) hw) (kj aF.lasts aF.one uJ Iy rfl rfl rfl rfl rfl (js:=[3]) (Rr:=[((ob v3++[])),ob v4,D1]) rfl k2 h5 (fun ap=>ap.q 2 rfl) (fun ap=>ap.q 0 rfl) hx3) rfl ?_)
  rintro v5 Φ_5 D5 ⟨⟨ap2,fr4⟩,h6⟩
  refine WM.conv (S':=St w0 Φ_5 [(b_3,.cells #[u1,.slice none 0 0] 43 (0,0)),(b_2,.cells #[.slice none 0 0,.slice none 0 0] 43 (0,0)),(b_1,.cells #[pv0_0,pv0_1] 43 (0,0))] [(D1++((ob v3++[]))),ob v5,ob v4]) (fun w1 hw=>hw.merge (js:=[3,1]) rfl (SP.eq (by simp)))<|amm 1 [13,0] [0,1,2] rfl rfl ?_
  refine on1 14 (ms1 0 rfl nk I9 rfl h6.one ?_)
  refine WM.nil (by kernel_rfl)<|att 6 [] rfl ?_
  exact lb [0,0] [0,0,0] (ih1 (_,_,_,_,_) ⟨h,h6⟩)
 refine att 7 [] rfl<|wtS<|wt0 ?_
 have k3:=OSl.nil aM 126 1 Φ_1
 refine lin (σ:=Hp × (List aC) × Value × List Nat × Int) (fun s=>[(1,pQ b_1),(2,pQ b_2),(3,pQ b_3),(5,iV s.2.2.2.2)]) (fun s=>St w0 s.1 [(b_3,.cells #[u1,s.2.2.1] 43 (0,0)),(b_2,.cells #[.slice none 0 0,.slice none 0 0] 43 (0,0)),(b_1,.cells #[pv0_0,pv0_1] 43 (0,0))] [s.2.2.2.1,ob s.2.2.1,D1,ob u1]) (fun m s=>dv N p0 s1 m s.2.1 s.2.2.2.2=some r∧(OSl aF 123 1 s.1 D1 u1 s1)∧(OSl aM 126 1 s.1 s.2.2.2.1 s.2.2.1 s.2.1)) (Φ_1,([]:List aC),(.slice none 0 0),[],0) N ⟨h,k2,k3⟩ (sx [0,0,0,0] [0,0,0]) (fun n2 ih2 s hm=>?_)
 obtain ⟨Φ_6,s3,u2,D6,s4⟩:=s
 obtain ⟨h,k2,k4⟩:=hm
 dsimp only at h k2 k4 ⊢
 unfold dv at h
 refine atr 6 [1,64] rfl<|lnr ph0_1 rfl<|la rfl<|en ?_
 refine ch h rfl ?_ ?_ <;> intro h
 ·refine atr 5 [] rfl<|lq (cG (vs:=[]) (C:=#[.slice none 0 0]) L5 rb rfl (aq)) rfl ?_
  refine ln (gT (C:=#[.slice none 0 0]) rb rfl) rfl (fun b_4=>?_)
  refine soN 0 wK rfl ⟨rfl,trivial⟩ rfl ?_
  refine art 7 [] rfl<|wtS<|wt0 ?_
  have k5:=OSl.nil aJ 130 1 Φ_6
  refine lin (σ:=Hp × (List ae) × Value × List Nat × Int) (fun s=>[(1,pQ b_1),(2,pQ b_2),(3,pQ b_3),(5,iV s4),(6,pQ b_4),(7,iV s.2.2.2.2)]) (fun s=>St w0 s.1 [(b_4,.cells #[s.2.2.1] 126 (0,0)),(b_3,.cells #[u1,u2] 43 (0,0)),(b_2,.cells #[.slice none 0 0,.slice none 0 0] 43 (0,0)),(b_1,.cells #[pv0_0,pv0_1] 43 (0,0))] [s.2.2.2.1,ob s.2.2.1,D6,ob u2,D1,ob u1]) (fun m s=>eO N p0 s3 s4 (dv N p0 s1 n2) m s.2.1 s.2.2.2.2=some r∧(OSl aF 123 1 s.1 D1 u1 s1)∧(OSl aM 126 1 s.1 D6 u2 s3)∧(OSl aJ 130 1 s.1 s.2.2.2.1 s.2.2.1 s.2.1)) (Φ_6,([]:List ae),(.slice none 0 0),[],0) N ⟨h,k2,k4,k5⟩ (sx [0,0,0,0,0,0] [0,0,0,0]) (fun n3 ih3 s hm=>?_)
  obtain ⟨Φ_7,s5,u3,D7,s6⟩:=s
  obtain ⟨h,k2,k4,k6⟩:=hm
  dsimp only at h k2 k4 k6 ⊢
  unfold eO at h
  refine atr 7 [1,96] rfl ?_
  obtain ⟨x4,hx4,h⟩:=bs h
  obtain ⟨cs2,F2,-,g2,hb2,hs2,r2⟩:=ph0_1.el (a7 hx4).2.2
  obtain ⟨v6,G2,rfl,hq2,h7⟩:=r2
  obtain rfl:=hq2.symm
  refine lia ph0_1 hx4 rfl<|lf gq rfl rfl rfl<|lhx 0 0 g2 rfl<|lnr h7 rfl<|la rfl<|en ?_
  refine ch h rfl ?_ ?_ <;> intro h
  ·refine att 3 [] rfl<|wm [0,1,2,3] [17] rfl<|amm 5 [0,0,1,0,2,1,3,96,4] [0,1,2,3] rfl rfl ?_
   obtain ⟨x5,hx5,h⟩:=bs h
   obtain ⟨cs3,F3,-,g3,hb3,hs3,r3⟩:=ph0_1.el (a7 hx5).2.2
   obtain ⟨v7,G3,rfl,hq3,h8⟩:=r3
   obtain rfl:=hq3.symm
   refine mq 5 rfl (by kernel_rfl) (kN [0,1,2,3]) (aa xd rfl rfl ph0_1 hx5) rfl<|amm 1 [6,0] [0,1,2,3] rfl rfl<|mq 7 rfl (by kernel_rfl) (kN [0,1,2,3]) (bk yK rfl (fun w1 hw=>(g3.of_eq 0 1 rfl rfl:rg _ _ _ [v7]).rangeAt hw.1)) rfl<|amm 1 [8] [0,1,2,3] rfl rfl ?_
   obtain ⟨x6,hx6,h⟩:=bs h
   obtain ⟨cs4,F4,-,g4,hb4,hs4,r4⟩:=h8.el (a7 hx6).2.2
   obtain ⟨v8,G4,rfl,hq4,h9⟩:=r4
   obtain rfl:=hq4.symm
   refine mq 9 rfl (by kernel_rfl) (kN [0,1,2,3]) (aa lW rfl rfl h8 hx6) rfl<|amm 1 [10,0] [0,1,2,3] rfl rfl<|mq 11 rfl (by kernel_rfl) (kN [0,1,2,3]) (bk CC rfl (fun w1 hw=>(g4.of_eq 0 1 rfl rfl:rg _ _ _ [v8]).rangeAt hw.1)) rfl ?_
   obtain ⟨x7,hx7,h⟩:=bs h
   refine WM.one 12 (by kernel_rfl) (mc rfl (fun _ v Φx D w1 hq hw=>Kn.of Kf.nil (am [0,1,2,3] rfl) hw) (aU (js:=[]) (R:=[D7,ob u3,D6,ob u2,D1,ob u1]) Kb rfl rfl (fun w1 hw ap hl=>uM N (ba hw.fro) x6.Toks (h9.y hw.up)  hx7)) rfl ?_)
   rintro v9 Φ_8 F5 ⟨ap3,fr5,v10,D8,rfl,rfl,h10⟩
   replace k2:=k2.fr fr5 (ap3.q 5 rfl) (ap3.q 4 rfl)
   replace k4:=k4.fr fr5 (ap3.q 3 rfl) (ap3.q 2 rfl)
   replace k6:=k6.fr fr5 (ap3.q 1 rfl) (ap3.q 0 rfl)
   refine mq 13 rfl (by kernel_rfl) (kN [0,1,2,3]) (cG (vs:=[(0,v9)]) (C:=#[v9]) Li sP rfl (ag (C':=[v9]) rfl (cJ h10.one) rfl rfl rfl (aq))) rfl ?_
   have rc3:RC aJ 1 Φ_8 ([(ob v9++D8)]:List (List Nat)) [v9] ([(⟨x7⟩:ae)]:List ae):=RC.cons (c:=[v9]) (cells:=[]) ⟨v9,D8,rfl,rfl,h10⟩ rfl (RC.nil _ _ _)
   refine WM.one 14 (by kernel_rfl) (me rfl (fun _ v Φx D w1 hq hw=>Kn.of Kf.nil (am [0,1,2,3] rfl) hw) (ed (vs:=[(0,.agg [v9].toArray)]) (C:=#[v9]) aJ.lasts lW sP rfl rfl rfl rfl (aV Ez (ag (C':=[v9]) rfl rfl rfl rfl rfl (aq))) rfl rc3 rfl (RC.kn aJ.knows rc3)) rfl ?_)
   rintro v11 Φ_9 D9 ⟨fr6,h11⟩
   replace h11:OSl aJ 130 1 Φ_9 ((ob v9++D8)) v11 ([(⟨x7⟩:ae)]:List ae):=by simpa [List.append_assoc] using h11
   replace k2:=k2.f0 fr6
   replace k4:=k4.f0 fr6
   replace k6:=k6.f0 fr6
   refine WM.conv (S':=St w0 Φ_9 [(b_4,.cells #[u3] 126 (0,0)),(b_3,.cells #[u1,u2] 43 (0,0)),(b_2,.cells #[.slice none 0 0,.slice none 0 0] 43 (0,0)),(b_1,.cells #[pv0_0,pv0_1] 43 (0,0))] [((ob v9++D8)),ob v11,D7,ob u3,D6,ob u2,D1,ob u1]) (fun w1 hw=>hw.merge (js:=[1,1]) rfl (SP.eq (by simp [List.append_assoc,bm]))) ?_
   obtain ⟨x8,hx8,h⟩:=bs h
   refine WM.one 15 (by kernel_rfl) (me rfl (fun _ v Φx D w1 hq hw=>Kn.of Kf.nil (am [0,1,2,3] rfl) hw) (kj aJ.lasts aJ.one lW Ig rfl rfl rfl rfl rfl (js:=[3]) (Rr:=[((ob v9++D8)),ob v11,D7,D6,ob u2,D1,ob u1]) rfl k6 h11 (fun ap=>ap.q 2 rfl) (fun ap=>ap.q 0 rfl) hx8) rfl ?_)
   rintro v12 Φ_10 D10 ⟨⟨ap4,fr7⟩,h12⟩
   replace k2:=k2.fr fr7 (ap4.q 6 rfl) (ap4.q 5 rfl)
   replace k4:=k4.fr fr7 (ap4.q 4 rfl) (ap4.q 3 rfl)
   refine WM.conv (S':=St w0 Φ_10 [(b_4,.cells #[u3] 126 (0,0)),(b_3,.cells #[u1,u2] 43 (0,0)),(b_2,.cells #[.slice none 0 0,.slice none 0 0] 43 (0,0)),(b_1,.cells #[pv0_0,pv0_1] 43 (0,0))] [(D7++((ob v9++D8))),ob v12,ob v11,D6,ob u2,D1,ob u1]) (fun w1 hw=>hw.merge (js:=[3,1]) rfl (SP.eq (by simp)))<|amm 1 [16,0] [0,1,2,3] rfl rfl ?_
   refine on1 17 (ms1 0 rfl nk Fv rfl h12.one ?_)
   refine WM.nil (by kernel_rfl)<|att 6 [] rfl ?_
   exact lb [0,0,1,1,1,1] [0,0,0,0] (ih3 (_,_,_,_,_) ⟨h,k2,k4,h12⟩)
  refine atr 4 [1,32] rfl<|lq (aw wA rfl (fun w1 hw=>hw.rgO (i:=0) rfl 0 1 [u3] rfl) rfl) rfl ?_
  have rc4:RC aM 1 Φ_7 ([(ob u3++D7)]:List (List Nat)) [u3] ([(⟨s5⟩:aC)]:List aC):=RC.cons (c:=[u3]) (cells:=[]) ⟨u3,D7,rfl,rfl,k6⟩ rfl (RC.nil _ _ _)
  refine le' (ed (vs:=[(0,.agg [u3].toArray)]) (C:=#[u3]) aM.lasts xd rb rfl rfl rfl rfl (aV Eu (ag (C':=[u3]) rfl rfl rfl rfl rfl (aq))) rfl rc4 rfl (RC.kn aM.knows rc4)) rfl ?_
  rintro v13 Φ_11 D11 ⟨fr8,h13⟩
  replace h13:OSl aM 126 1 Φ_11 ((ob u3++D7)) v13 ([(⟨s5⟩:aC)]:List aC):=by simpa [List.append_assoc] using h13
  replace k2:=k2.f0 fr8
  replace k4:=k4.f0 fr8
  refine wlL [((ob u3++D7)),ob v13,D6,ob u2,D1,ob u1] (smg [2,1] rfl (SP.eq (by simp [List.append_assoc,bm]))) ?_
  obtain ⟨x9,hx9,h⟩:=bs h
  refine le' (kj aM.lasts aM.one xd HY rfl rfl rfl rfl rfl (js:=[3]) (Rr:=[((ob u3++D7)),ob v13,D6,D1,ob u1]) rfl k4 h13 (fun ap=>ap.q 2 rfl) (fun ap=>ap.q 0 rfl) hx9) rfl ?_
  rintro v14 Φ_12 D12 ⟨⟨ap5,fr9⟩,h14⟩
  replace k2:=k2.fr fr9 (ap5.q 4 rfl) (ap5.q 3 rfl)
  refine wlL [(D6++((ob u3++D7))),ob v14,ob v13,D1,ob u1] (smg [3,1] rfl (SP.eq (by simp)))<|lf vY rfl rfl rfl<|so1 1 Iv rfl h14.one ?_
  refine art 7 [] rfl ?_
  exact lb [0,0,1,1] [1,1,1] (ih2 (_,_,_,_,_) ⟨h,k2,h14⟩)
 refine atr 4 [2] rfl<|soN 1 kg rfl ⟨k2.one,k4.one,trivial⟩ rfl ?_
 refine en ?_
 exact rtg [3,2,1,0] hF (ao.one (bB Cb rfl (fun w1 hw=>hw.rgO (i:=1) rfl 0 2 [u1,u2] rfl) rfl)) rfl (by cases h; exact fun w1 hw=>⟨u1,D1,u2,D6,rfl,rfl,k2,k4⟩)
theorem BO (w0:ab Ψ Φ []) (p0:aA) (ph0_0:RSl av 3 Ψ pG0_0 pv0_0 p0.Fields) {r:aA} (h:pT N p0=some r) :
  Calls prog 108 [.agg [.string p0.Kind,pv0_0].toArray].toArray w0.w (aL Φ w0.w [] (fun Φ' Fs v=>∃ (sr_0_0:Value),v = .agg [.string r.Kind,sr_0_0].toArray∧Fs=[ob sr_0_0]∧OSl av 225 3 Φ' [] sr_0_0 r.Fields)):=by
 refine eN func108 rfl ntmps108 rfl w0 fun hF=>?_
 unfold pT at h
 refine sr<|lbx rfl fun b_1=>lnz kh rfl fun b_2=>en<|sr<|le' (ju av.lasts hU jk rfl rfl) rfl ?_
 rintro v1 Φ_1 D1 ⟨fr1,h1⟩
 refine arr 2 [1,32] rfl<|lu0 ph0_0 fun h2=>?_
 obtain ⟨x1,hx1,h⟩:=bs h
 refine le' (dV av.lasts av.one av.flat hU De rfl rfl rfl rfl rfl (js:=[0]) (Rr:=[]) rfl h1 h2 hx1) rfl ?_
 rintro v2 Φ_2 D2 ⟨⟨ap1,fr2⟩,h3⟩
 refine lf C4 rfl rfl rfl<|so1 1 zO rfl h3.one ?_
 refine arr 4 [34] rfl<|soN 0 kY rfl ⟨rfl,h3.one,trivial⟩ rfl ?_
 refine en ?_
 exact rtg [0] hF (ao.one (bB rM rfl (fun w1 hw=>hw.rgO (i:=0) rfl 0 2 [.string p0.Kind,v2] rfl) rfl)) rfl (by cases h; exact fun w1 hw=>⟨v2,rfl,rfl,h3⟩)
theorem nT (w0:ab Ψ Φ []) (p0:ah) (p1:Int) (ph0_0:RSl bN 3 Ψ pG0_0 pv0_0 p0.Items) {r:aA × Bool} (h:kW N p0 p1=some r) :
  Calls prog 62 [.agg [pv0_0,iV p0.Next].toArray,iV p1].toArray w0.w (aL Φ w0.w [] (fun Φ' Fs v=>∃ (sr_0_0:Value),v = .tuple #[.agg [.string r.1.Kind,sr_0_0].toArray,.bool r.2]∧Fs=[ob sr_0_0]∧OSl av 225 3 Φ' [] sr_0_0 r.1.Fields)):=by
 refine eN func62 rfl ntmps62 rfl w0 fun hF=>?_
 unfold kW at h
 refine sr<|lbx rfl fun b_1=>lnz kh rfl fun b_2=>art 8 [] rfl ?_
 refine lin (σ:=Int) (fun s=>[(1,iV p1),(2,pQ b_1),(4,pQ b_2),(6,iV s)]) (fun s=>St w0 Φ [(b_2,.cells #[.string (⟨#[]⟩:ByteArray),.slice none 0 0] 133 (0,0)),(b_1,.cells #[pv0_0,iV p0.Next] 57 (0,0))] []) (fun m s=>fQ N p0 p1 m s=some r) (0) N h (sx [] [0,0]) (fun n1 ih1 s hm=>?_)
 revert hm; revert s; intro s1 hm
 have h:fQ N p0 p1 (n1+1) s1=some r:=hm
 show WT _ _ [(1,iV p1),(2,pQ b_1),(4,pQ b_2),(6,iV s1)] (St w0 Φ [(b_2,.cells #[.string (⟨#[]⟩:ByteArray),.slice none 0 0] 133 (0,0)),(b_1,.cells #[pv0_0,iV p0.Next] 57 (0,0))] [])
 unfold fQ at h
 refine atr 6 [0,32] rfl<|lnr ph0_0 rfl<|la rfl<|en ?_
 refine ch h rfl ?_ ?_ <;> intro h
 ·refine atr 8 [0,32] rfl ?_
  obtain ⟨x1,hx1,h⟩:=bs h
  obtain ⟨cs1,F1,-,g1,hb1,hs1,r1⟩:=ph0_0.el (a7 hx1).2.2
  obtain ⟨v1,G1,rfl,hq1,h1⟩:=r1
  obtain rfl:=hq1.symm
  refine lia ph0_0 hx1 rfl<|lf sJ rfl rfl rfl<|lhx 0 0 g1 rfl<|art 3 [] rfl ?_
  refine ch h rfl ?_ ?_ <;> intro h
  ·refine atr 5 [0,32] rfl ?_
   obtain ⟨x2,hx2,h⟩:=bs h
   obtain ⟨cs2,F2,-,g2,hb2,hs2,r2⟩:=ph0_0.el (a7 hx2).2.2
   obtain ⟨v2,G2,rfl,hq2,h2⟩:=r2
   obtain rfl:=hq2.symm
   refine lia ph0_0 hx2 rfl<|lf wv rfl rfl rfl<|lhx 1 2 g2 rfl<|kab h rfl rfl rfl (fun b z q=>BO N b x2.F (h2.y z) q) ?_
   rintro x3 h v3 Φ_1 F3 ⟨ap1,fr1,v4,rfl,rfl,h3⟩
   refine soN 0 kY rfl ⟨rfl,h3.one,trivial⟩ rfl ?_
   refine la rfl<|en ?_
   exact rtg [0] hF (ao.two (bB rM rfl (fun w1 hw=>hw.rgO (i:=0) rfl 0 2 [.string x3.Kind,v4] rfl) rfl) rfl) rfl (by cases h; exact fun w1 hw=>⟨v4,rfl,rfl,h3⟩)
  refine att 7 [] rfl ?_
  exact lb [] [0,0] (ih1 _ h)
 refine xt rfl<|sr<|lq (cG (vs:=[]) (C:=#[.string (⟨#[]⟩:ByteArray),.slice none 0 0]) Gh kh rfl (aq)) rfl<|soN 0 kY rfl ⟨rfl,rfl,trivial⟩ rfl ?_
 refine la rfl<|en ?_
 refine WT.ret hF (ao.two (bB rM rfl (fun w1 hw=>hw.rgO (i:=0) rfl 0 2 [.string (⟨#[]⟩:ByteArray),.slice none 0 0] rfl) rfl) rfl) (fun w1 hw=>?_)
 cases h
 replace hw:=hw.addNil
 refine ce (js:=[0]) hw rfl ⟨.slice none 0 0,rfl,rfl,OSl.nil _ _ _ _⟩
theorem cj  (w0:ab Ψ Φ []) (p0:Int) (p1:Int) (p2:Int)  {r:Bool} (h:du N p0 p1 p2=some r) :
  CB w0 prog 109 [iV p0,iV p1,iV p2] (.bool r):=by
 refine eN func109 rfl ntmps109 rfl w0 fun hF=>?_
 unfold du at h
 refine atr 10 [] rfl ?_
 obtain ⟨b1,hb_1,h⟩:=bs h
 refine WL.cutN 4 [(14,.bool b1),(6,.bool false)] ?_ (fun K=>?_)
 rotate_left
 ·refine sp 10 hb_1 rfl (fun hb_1=>?_) fun hb_1=>?_
  ·refine arr 4 [] rfl ?_
   cases hb_1
   exact ku K
  ·refine arr 4 [] rfl ?_
   cases hb_1
   exact ku K
 refine la rfl<|en ?_
 exact rt hF h
theorem oN  (w0:ab Ψ Φ []) (p0:Int)  {r:Bool} (h:il N p0=some r) :
  CB w0 prog 192 [.int .u8 p0] (.bool r):=by
 refine eN func192 rfl ntmps192 rfl w0 fun hF=>?_
 unfold il at h
 refine atr 7 [] rfl<|lq (vv Ho Ix rfl) rfl<|qc h (cj N · (wz p0) 97 122 ·) rfl rfl rfl fun x1 h=>la rfl ?_
 obtain ⟨b1,hb_1,h⟩:=bs h
 refine WL.cutN 4 [(10,.bool b1),(0,.int .u8 p0),(2,.bool false)] ?_ (fun K=>?_)
 rotate_left
 ·refine sp 6 hb_1 rfl (fun hb_1=>?_) fun hb_1=>?_
  ·refine arr 4 [] rfl ?_
   cases hb_1
   exact ku K
  ·refine ly rfl rfl<|la rfl<|ly rfl rfl<|lq (vv Ho Ix rfl) rfl<|ly rfl rfl<|qc hb_1 (cj N · (wz p0) 48 57 ·) rfl rfl rfl fun x2 hb_1=>la rfl ?_
   cases hb_1
   exact ku K
 refine la rfl ?_
 obtain ⟨b2,hb_2,h⟩:=bs h
 refine WL.cutN 3 [(14,.bool b2),(2,.bool false)] ?_ (fun K=>?_)
 rotate_left
 ·refine sp 11 hb_2 rfl (fun hb_2=>?_) fun hb_2=>?_
  ·refine arr 3 [] rfl ?_
   cases hb_2
   exact ku K
  ·refine arr 3 [] rfl ?_
   cases hb_2
   exact ku K
 refine la rfl<|en ?_
 exact rt hF h
theorem fO  (w0:ab Ψ Φ []) (p0:ByteArray)  {r:Bool} (h:eg N p0=some r) :
  CB w0 prog 158 [.string p0] (.bool r):=by
 refine eN func158 rfl ntmps158 rfl w0 fun hF=>?_
 unfold eg at h
 refine att 10 [] rfl ?_
 refine lin (σ:=Int) (fun s=>[(0,.string p0),(3,iV s)]) (fun s=>St w0 Φ [] []) (fun m s=>eu N p0 m s=some r) (0) N h (sx [] []) (fun n1 ih1 s hm=>?_)
 revert hm; revert s; intro s1 hm
 have h:eu N p0 (n1+1) s1=some r:=hm
 show WT _ _ [(0,.string p0),(3,iV s1)] (St w0 Φ [] [])
 unfold eu at h
 refine atr 5 [] rfl<|lq (gj fw rfl rfl) rfl<|la rfl<|en ?_
 refine ch h rfl ?_ ?_ <;> intro h
 ·refine atr 7 [] rfl ?_
  obtain ⟨y1,hy1,h⟩:=bs h
  refine lq (kx fw rfl rfl hy1) rfl<|qc h (oN N · (y1.toNat:Int) ·) rfl rfl rfl fun x1 h=>arr 2 [] rfl ?_
  obtain ⟨b1,hb_1,h⟩:=bs h
  refine WL.cutN 11 [(26,.bool b1),(0,.string p0),(3,iV s1)] ?_ (fun K=>?_)
  rotate_left
  ·refine sp 15 hb_1 rfl (fun hb_1=>?_) fun hb_1=>?_
   ·refine arr 11 [] rfl ?_
    cases hb_1
    exact ku K
   ·refine arr 3 [] rfl ?_
    obtain ⟨b2,hb_2,hb_1⟩:=bs hb_1
    refine WL.cutN 7 [(25,.bool b2),(0,.string p0),(3,iV s1),(15,.bool false)] ?_ (fun K=>?_)
    rotate_left
    ·refine sp 18 hb_2 rfl (fun hb_2=>?_) fun hb_2=>?_
     ·refine arr 2 [] rfl<|ly rfl rfl ?_
      obtain ⟨y2,hy2,hb_2⟩:=bs hb_2
      refine lq (kx fw rfl rfl hy2) rfl<|ly rfl rfl<|lq (vv Ho Ix rfl) rfl<|ly rfl rfl<|qc hb_2 (cj N · (wz (y2.toNat:Int)) 97 122 ·) rfl rfl rfl fun x2 hb_2=>arr 2 [] rfl ?_
      cases hb_2
      exact ku K
     ·refine arr 7 [] rfl ?_
      cases hb_2
      exact ku K
    refine la rfl ?_
    cases hb_1
    exact ku K
  refine en ?_
  refine ch h rfl ?_ ?_ <;> intro h
  ·refine att 4 [] rfl ?_
   exact rt hF h
  refine att 7 [] rfl ?_
  exact lb [] [] (ih1 _ h)
 refine atr 4 [] rfl<|lq (gj fw rfl rfl) rfl<|qc h (cj N · (p0.size:Int) 1 12 ·) rfl rfl rfl fun x3 h=>la rfl<|en ?_
 exact rt hF h
theorem yG  (w0:ab Ψ Φ []) (p0:ByteArray)  {r:Bool} (h:ox N p0=some r) :
  CB w0 prog 223 [.string p0] (.bool r):=by
 refine eN func223 rfl ntmps223 rfl w0 fun hF=>?_
 unfold ox at h
 refine att 10 [] rfl ?_
 refine lin (σ:=Int) (fun s=>[(0,.string p0),(3,iV s)]) (fun s=>St w0 Φ [] []) (fun m s=>eP N p0 m s=some r) (0) N h (sx [] []) (fun n1 ih1 s hm=>?_)
 revert hm; revert s; intro s1 hm
 have h:eP N p0 (n1+1) s1=some r:=hm
 show WT _ _ [(0,.string p0),(3,iV s1)] (St w0 Φ [] [])
 unfold eP at h
 refine atr 5 [] rfl<|lq (gj fw rfl rfl) rfl<|la rfl<|en ?_
 refine ch h rfl ?_ ?_ <;> intro h
 ·refine atr 7 [] rfl ?_
  obtain ⟨y1,hy1,h⟩:=bs h
  refine lq (kx fw rfl rfl hy1) rfl<|qc h (oN N · (y1.toNat:Int) ·) rfl rfl rfl fun x1 h=>la rfl<|en ?_
  refine ch h rfl ?_ ?_ <;> intro h
  ·refine att 4 [] rfl ?_
   exact rt hF h
  refine att 7 [] rfl ?_
  exact lb [] [] (ih1 _ h)
 refine atr 4 [] rfl<|lq (gj fw rfl rfl) rfl<|art 3 [] rfl ?_
 exact rt hF h
end Go.Proofs.YtkdffjpgnhobhaaGreat
