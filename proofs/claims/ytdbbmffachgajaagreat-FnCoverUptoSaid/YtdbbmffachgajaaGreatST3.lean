/- Part of a proof: the functions that the law reaches, walked by the abstract logic of the texts Ab. -/
import Derived.Test.YtdbbmffachgajaaGreatST
set_option maxRecDepth 100000
set_option linter.unusedVariables false
set_option linter.unusedSimpArgs false
set_option linter.defProp false
namespace Go.Proofs.Ab
open Go.Ab
def FL3:List Nat:=[3,4,8,9,13,14,17,20,22,24,27,28,29,31,32,38,39,40,41,43,48,53,55,57,58,60,61,62,63,64,65,66,67,68,69,71,72,76,80,81,82,83,85,87,88,90,92,94,99,100,101,102,103,104,105,106,107,108,109,110,111,113,114,117,118,120,122,123,128,130,131,134,135,136,137,138,139,140,141,142,146,148,149,150,151,152,153,157,158,159,160,161,162,163,165,166,167,168,169,173,174,175,176,177,180,182,184,186]
def FR3:List (Nat×Bool×Nat×Nat):=[(79,false,3,1),(47,false,27,4),(49,true,28,1)]
abbrev G3.dI:eK:=⟨4,[tH,tz],[ur],6,.aZ [gP,x8,.row 1 (.x 5)],[agv,.row false 32 8 (.x 5)],[]⟩
abbrev G3.gl:eK:=⟨5,[tH,tz,x8],[ur],4,gP,[agv],[]⟩
def SG3:List (Nat×List eK):=[(11,[G3.dI]),(12,[G.fI]),(24,[G.aH]),(25,[G.bx]),(26,[G3.gl]),(52,[G.eQ]),(57,[G.cZ]),(58,[G.cY]),(60,[G.eC]),(74,[G.bR]),(75,[G.bA]),(78,[G.aT,G.bf]),(94,[G.cn]),(95,[G.eS]),(96,[G.eR]),(97,[G.de]),(98,[G.pf]),(116,[G.dJ]),(119,[G.aL,G.aX]),(127,[G.cW]),(128,[G.cX]),(129,[G.dK]),(130,[G.bo]),(131,[G.dW]),(132,[G.dt]),(133,[G.du]),(154,[G.gM]),(155,[G.sK]),(156,[G.eB]),(170,[G.cQ]),(171,[G.sJ]),(172,[G.fG]),(173,[G.eP]),(178,[G.bh]),(179,[G.pe]),(180,[G.kH]),(181,[G.fF]),(182,[G.bM]),(183,[G.eT]),(185,[G.ck]),(186,[G.bJ])]
abbrev CF3:Cfg:=⟨FL3,FR3,SG3,false⟩
def T3.iJ:T:= .op (.aY F.fI G.fI iW) (.op (.call F.mb [.x 0,adx] false) (.op (.aY F.dI G3.dI [.ext 1 0,.ext 1 1,.ext 1 2,.x 2]) (.op (.val (.ext 3 4)) (.aq aik (.ret [ug,.agg awK,.sl (.ext 3 5)])))))
theorem T3.xk:aS Tryz.prog CF3 Tryz.f5=some (1,T3.iJ):=by kernel_rfl
def T3.uI:= @aF _ _ _ _ _ _ Tryz.func5 T3.xk
def T3.dI:T:= .op (.call F.j9 [] false) (.op aJq (.op (.call F.je [.x 5] false) (.aq avM (.aq avP (.op (.val ahQ) (.aq arx (.op (.val ahO) (.aq (.cells (.x 8) 2) (.aq arx (.op (.call F.jd [.x 7] false) (.aq avN (.aq avS (.op (.val w9) (.aq (.cells bU 2) (.op aJv (.op (.bin .add kD arv) (.aq (.one df) (.aq amh (.aq al3 (.aq amh (.op aJX (.aq adD (.aq (.one avp) (.aq avu (.aq adD (.aq (.one aE2) (.aq al3 (.aq arH (.aq amh (.op aLv (.aq ah5 (.aq aq8 (.aq al3 (.aq arH (.op aLh (.aq adD (.aq (.one avp) (.aq (.one eA) (.aq al3 (.aq (.cells (.agg [o9,bI,avp,eA]) 4) (.aq arH (.op aLy (.aq ah5 (.aq (.one fu) (.aq amh (.op aJX (.aq (.one adx) (.aq (.one gF) (.aq amh (.aq arH (.aq (.cells (.agg [o9,bI,avp,eZ]) 4) (.aq (.cells (.agg [o9,bI,aE2,gz]) 4) (.aq (.cells (.agg [tY,bI,jH,ec]) 4) (.aq (.cells (.agg [tY,bI,jH,fu]) 4) (.aq (.cells (.agg [adx,bI,jH,gF]) 4) (.op aPD (.op aJ2 (.op (.elem 4 iS avA) (.aq xa (.aq xa (.op asR (.bind 4 aPA (.op aJ5 (.op (.bin .eql alV bI) (.ite uh (.op (.aY F.gl G3.gl [ahV,ahW,ahX,zq8,kD]) (.op (.val aJE) (.aq (.cells tx 4) (.aq (.cells tx 4) (.aq (.cells tx 4) (.ret [pN,aJk,aJl,aJm,.agg [.cell 29 0,.cell 29 1,.cell 29 2,.cell 29 3],l0])))))) (.op (.bin .eql alV kD) (.ite wo (.op asR (.aq xa (.aq xa (.ret [pN,ahV,ahW,ahX,ary,tx])))) (.op (.bin .eql alV zq8) (.ite tx (.loop [ahV,ahW,ahX,l0] (.op (.ch (.sl (.x 33))) (.op aJ1 (.op (.bin .add arC (.ext 35 0)) (.op (.bin .lss (.x 34) (.x 36)) (.ite (.x 37) aKG (.cM (.aq xa (.aq xa (.ret [pN,.ext 35 1,.ext 35 2,.ext 35 3,ary,.x 33])))))))))) (.op (.bin .eql alV pQ) (.ite ahP (.op aJ3 (.aq xa (.aq (.one aq3) (.aq xa (.aq (.idx l0 bI) (.aq (.cells aE3 8) (.op (.set l0 bI 0 8 aE3) (.aq xa (.aq xa (.ret [pN,aqR,aqS,aqT,ary,.x 32])))))))))) (.aq xa (.aq xa (.ret [pN,ahV,ahW,ahX,ary,l0]))))))))))))))))))))))))))))))))))))))))))))))))))))))))))))))))))))))))))
theorem T3.agC:ea Tryz.prog CF3 G3.dI Tryz.f11=some T3.dI:=by kernel_rfl
def T3.z8:= @gr _ _ _ _ _ _ Tryz.func11 T3.agC
end Go.Proofs.Ab
