/- Part of a proof: the functions that the law reaches, walked by the abstract logic of the texts Ab. -/
import Derived.Test.YtdbbmffachgajaaGreatST
import Derived.Test.YtdbbmffachgajaaGreatSTP
import Derived.Test.YtdbbmffachgajaaGreatAbM5
set_option maxRecDepth 100000
set_option linter.unusedVariables false
set_option linter.unusedSimpArgs false
namespace Go.Proofs.Ab
open Go.Ab
def TC.je:T:= .op (.call F.uH iW false) (.aq (.aZ (.x 1) 0) (.aq (.aZ (.x 1) 1) (.op (.val (.ext 1 1)) (.aq aJn (.op (.bin .neq wA bI) (.ite (.x 3) dU (.aq (.one (.ext 1 0)) (.aq (.one aDV) (.aq (.cells (.agg aEZ) 7) (.op aIW (.op (.val (.ext 4 0)) (.aq qG (.op (.bin .neq (.ext 4 6) bI) (.ite (.x 6) dU aJy))))))))))))))
theorem TC.ajW:m6 (.two .off (.two .off .all)) (aS Tryz.prog CF Tryz.f21)=some (1,TC.je):=by kernel_rfl
def TC.jd:T:= .aq uf (.op aFe (.aq uf (.op (.call F.og iW false) (.op aia (.ite (.x 3) dU (.aq uf (.op (.call F.oa iW false) (.aq aJo (.op (.bin .neq aq9 bI) (.ite (.x 5) dU (.op aFe (.op (.iE (.v (.string ⟨#[]⟩)) 0 []) (.bind 2 (.loop [.x 6,.x 7,bI] (.op alT (.op (.bin .lss bU cz) (.ite df (.bind 10 (.op (.elem 4 fO bU) (.aq arh (.aq arh (.bind 0 (.loop fN (.op (.ch tA) (.op (.bin .lss ec eA) (.ite fu (.op (.elem 1 tA ec) (.aq (.lt gF 0) (.op aJs (.op (.bin .lss iS ec) (.ite gK dU (.op (.bin .add ec kD) avV)))))) mr)))) (.op (.ch tA) (.aq (.one uj) (.aq aq8 (.aq (.cells (.agg [uj,ec,gz]) 3) (.bind 2 (.loop [.x 9,al2,bI] (.op (.ch yd) (.op (.bin .lss gF iS) (.ite gK (.bind 17 (.op (.elem 7 yd gF) (.aq aDu (.aq aDu (.op aJg (.op (.bin .geq js bI) (.ite l4 dU (.aq (.one uq) (.op aJC (.op (.app 1 16 eA (.sl mC)) (.aq (.one uq) (.aq (.one ym) (.aq aIY (.bind 4 (.ite ym (.aq uf (.aq arh (.op aKj (.aq (.aZ l0 0) (.aq (.aZ l0 1) (.op (.val (.ext 25 0)) (.aq avt (.op (.val (.ext 25 1)) (.aq aI9 (.op (.bin .neq (.cell 27 0) bI) (.ite wo dU aKP))))))))))) (.jump [bI,bI,jH,gz])) aPy))))))))))))) aJI) (.cM avW))))) aPo))))))))) (.op aD7 (.jump [eZ,ec,mC]))) (.cM al5))))) (.aq adA (.ret [adt,alD])))))))))))))))
theorem TC.ajV:m6 (.two .off (.two .off (.two (.two (.two (.two (.two (.two .off .all) .all) (.two (.two (.two (.two .off (.two (.two (.two .off .all) .all) .all)) .all) .all) .all)) .all) .all) .all))) (aS Tryz.prog CF Tryz.f23)=some (1,TC.jd):=by kernel_rfl
def TC.fb:T:= .bind 1 awD um
theorem TC.uE:m6 (.all) (aS Tryz.prog CF Tryz.f40)=some (3,TC.fb):=by kernel_rfl
def TC.uH:T:= .op pP (.op (.bin .gtr (.x 1) aD2) (.ite (.x 2) dU (.op aLx (.bind 1 (.op (.call F.ma [.x 0,bI] false) (.loop [.x 3,.x 4] (.op pP (.op amc (.ite (.x 8) (.bind 7 (.op (.call F.mF [.x 0,.x 6] false) (.aq avN (.aq avS (.aq (.aZ (.x 9) 2) (.op aqO (.aq abb (.bind 1 (.bind 1 (.op (.bin .eql qI bI) (.ite cz aKe dU)) (.ite cz dU (.jump [qI]))) (.op (.bin .neq cz bI) (.ite df dU aLs))))))))) aJZ) aqI))))) aPp))))
theorem TC.ao2:m6 (.two .off (.two (.two (.two (.two (.two (.two .all .off) (.two .off .all)) (.two .off .all)) .all) .all) .all)) (aS Tryz.prog CF Tryz.f51)=some (1,TC.uH):=by kernel_rfl
def TC.eQ:T:= .aq aIU (.bind 8 aJd (.op aIZ (.op (.val alQ) (.aq (.cells fu 7) (.bind 7 (.bind 8 (.op (.bin .eql al0 bI) (.ite gF aLt dU)) (.ite nY dU aJD)) aPt)))))
theorem TC.agR:qx (.two .all (.two (.two (.two .all .off) (.two .off .all)) .all)) (ea Tryz.prog CF G.eQ Tryz.f52)=some TC.eQ:=by kernel_rfl
def TC.og:T:= .aq uf (.bind 0 (.loop fN (.op alT (.op awH (.ite (.x 3) (.bind 4 (.op arF (.aq aik (.aq aik (.bind 0 (.bind 1 (.op (.call F.gB [aq9] false) (.op aqP (.ite (.x 6) dU (.op (.bin .lss (.cell 4 3) bI) (.ite (.x 7) dU (.op (.ch ahS) aJ7)))))) (.ite (.x 5) dU iG)) (.bind 0 (.loop fN (.op (.ch avz) (.op adJ (.ite (.x 7) (.op (.elem 1 avz (.x 5)) (.aq (.lt (.x 8) 0) (.op (.call F.dL [zS,vz] false) (.op avX (.ite bU dU (.op abZ rS)))))) mr)))) (.loop fN (.op (.ch ahS) (.op adJ (.ite (.x 7) (.bind 7 (.op (.elem 7 ahS (.x 5)) (.aq awp (.aq awp (.bind 1 (.op (.call F.dL [zS,zq4] false) (.op avX (.ite bU dU (.op (.bin .lss alF bI) (.ite cz dU (.ite zW (.op (.call F.jI [aE6] false) (.op avU (.ite eZ dU (.op (.un .not zW) (.ite ec dU dv))))) (.op (.un .not zW) (.ite df (.op aKk aJF) dU)))))))) (.ite (.x 9) dU aJP))))) (.op abZ avO)) (.cM (.jump awK))))))))))) aDq) mr)))) (.op aKE nX))
theorem TC.ag8:m6 (.two (.two (.two (.two (.two (.two .off (.two .off .all)) (.two .off .all)) (.two (.two (.two .off .all) .all) (.two (.two (.two (.two .off (.two .off (.two (.two .off (.two .off .all)) (.two .all .off)))) (.two .off .all)) .all) .all))) .all) .all) .all) (aS Tryz.prog CF Tryz.f53)=some (1,TC.og):=by kernel_rfl
def TC.oa:T:= .aq uf (.bind 0 (.loop fN (.op alT (.op awH (.ite (.x 3) (.op (.bin .eql (.x 1) amj) (.ite (.x 4) dU (.op arF (.aq (.lt (.x 5) 2) (.op (.ch alJ) (.op (.bin .gtr (.x 6) aKD) (.ite (.x 7) dU aDq))))))) mr)))) (.bind 0 (.loop fN (.op alT (.op awH (.ite (.x 3) (.bind 0 (.bind 1 (.op arF (.aq (.lt (.x 4) 0) (.op (.call F.kG [aq9] true) (.op (.bin .gtr (.x 5) bI) (.ite (.x 6) dU aKI))))) (.ite (.x 4) dU iG)) aDx) mr)))) (.aq adA (.ret [alD]))))
theorem TC.agH:m6 (.two (.two (.two .off (.two .off .all)) .all) (.two (.two (.two (.two (.two .off .all) (.two .off .all)) .all) .all) .all)) (aS Tryz.prog CF Tryz.f54)=some (1,TC.oa):=by kernel_rfl
def TC.ka:T:= .bind 0 aJ6 abd
theorem TC.agI:m6 (.all) (aS Tryz.prog CF Tryz.f55)=some (2,TC.ka):=by kernel_rfl
def TC.l8:T:= .aq uf (.aq iC (.aq tD (.aq alP (.bind 2 (.op av0 (.ite (.x 3) (.op (.call F.kG [adC] false) (.aq uf (.op (.call F.l9 [.x 0,adC] false) (.bind 0 aLu (.bind 0 (.bind 1 (.op awi (.ite (.x 6) dU (.op aDK (.ite (.x 7) dU aKO)))) (.ite (.x 6) dU iG)) aKi))))) (.op av2 (.ite (.x 4) (.op aJa (.op aDK (.ite (.x 6) dU aKS))) (.op av4 (.ite (.x 5) dU (.op (.bin .eql wA rr) (.ite (.x 6) (.aq ah5 (.jump [tY,jH])) dU)))))))) (.bind 1 (.loop pO (.op aqN (.op amc (.ite (.x 8) (.aq uf (.aq iC (.op (.elem 4 alX (.x 6)) (.aq w7 (.op aIX (.aq (.aZ bU 0) (.aq (.aZ bU 1) (.op arj (.aq al4 (.op (.val abg) (.aq (.cells df 2) (.op (.bin .neq rL bI) (.ite eZ dU aLb))))))))))))) aqI)))) aKy)))))
theorem TC.agG:m6 (.two (.two (.two .all (.two (.two (.two .off (.two .off .all)) (.two .off .all)) .all)) (.two (.two .off .all) (.two .off (.two .all .off)))) (.two (.two (.two .off .all) .all) .all)) (aS Tryz.prog CF Tryz.f56)=some (3,TC.l8):=by kernel_rfl
def TC.ma:T:= .bind 1 (.loop lZ (.op pP (.op rV (.ite (.x 4) (.bind 1 (.op yn (.op aI0 (.ite (.x 6) fw (.op yn (.op aI5 (.ite (.x 8) dU aJj)))))) (.ite (.x 5) (.op wC rQ) (.op yn (.op aI8 (.ite (.x 7) dU (.cM (.cM uk))))))) ui)))) uk
theorem TC.agZ:m6 (.two (.two (.two (.two .all (.two .off .all)) (.two .all (.two .off .all))) .all) .all) (aS Tryz.prog CF Tryz.f92)=some (2,TC.ma):=by kernel_rfl
def TC.mF:T:= .op awA (.op (.conv .i64 (.x 2)) (.bind 0 (.op (.call F.fH [.x 3] false) (.ite (.x 4) aLg (.bind 1 (.op (.call F.dw [.x 3] false) (.ite (.x 5) fw (.op (.call F.dj [.x 3] false) (.ite (.x 6) fw (.op aI1 (.ite (.x 7) (.op ami (.op pP (.op aJw (.ite bU aKz dU)))) dv)))))) (.ite (.x 5) aK9 (.op aJf (.ite (.x 6) dU iG)))))) (.op (.call F.mG [] false) (.bind 0 (.loop fN (.op (.ch (.x 4)) (.op adJ (.ite (.x 7) (.bind 0 (.op avL (.aq (.lt (.x 8) 0) (.op (.oz zS) (.bind 1 (.op awg (.op pP (.op (.bin .leq bU cz) (.ite df (.op awg aK2) dU)))) aLi)))) (.op abZ vU)) dU)))) dU))))
theorem TC.aee:m6 (.two (.two .all (.two (.two .all (.two .all (.two (.two .all .off) .all))) (.two .all (.two .off .all)))) (.two (.two (.two (.two (.two .all .off) .all) .all) .off) .off)) (aS Tryz.prog CF Tryz.f93)=some (2,TC.mF):=by kernel_rfl
def TC.cn:T:= .op ab2 (.op ah4 (.aq w7 (.bind 1 (.op aD0 (.ite bU aK6 dU)) aFg)))
theorem TC.amx:qx (.two (.two .all .off) .all) (ea Tryz.prog CF G.cn Tryz.f94)=some TC.cn:=by kernel_rfl
def TC.eS:T:= .op ab2 (.op awe (.aq are (.aq (.cells (.agg [jH,gz,gz,.x 8]) 4) (.op aKB (.bind 8 (.loop [pN,w9,qI,adn,abn,abo,abl,al2] (.bind 7 (.bind 8 (.op (.bin .eql eA bI) (.ite iS aLn dU)) aK1) aLw)) aPI)))))
theorem TC.agU:qx (.two (.two (.two (.two .all .off) .all) .all) .all) (ea Tryz.prog CF G.eS Tryz.f95)=some TC.eS:=by kernel_rfl
def TC.eR:T:= .aq (.cells aKm 7) (.bind 14 (.op aE4 (.ite abk aLr dU)) aLl)
theorem TC.agT:qx (.two (.two .all .off) .all) (ea Tryz.prog CF G.eR Tryz.f96)=some TC.eR:=by kernel_rfl
def TC.de:T:= .op (.elem 4 (.x 0) (.x 1)) aJQ
theorem TC.ajL:qx (.all) (ea Tryz.prog CF G.de Tryz.f97)=some TC.de:=by kernel_rfl
def TC.gB:T:= .bind 1 (.op (.call F.dL [.x 0,vz] false) (.ite (.x 1) aDS dU)) nX
theorem TC.sM:m6 (.two (.two .all .off) .all) (aS Tryz.prog CF Tryz.f99)=some (1,TC.gB):=by kernel_rfl
def TC.dL:T:= .bind 0 (.bind 1 (.op pP (.op aDr (.op ahU (.ite (.x 4) dU (.op aqK (.op aqL (.op (.call F.dj [.x 6] false) (.op (.beq true (.x 1) (.x 7)) (.ite (.x 8) dU aEW))))))))) (.ite (.x 2) dU iG)) (.bind 0 (.loop fN (.op pP (.op rV (.ite (.x 4) (.op yn (.op aqL (.op (.call F.cR [.x 6] false) (.op ail (.ite (.x 8) dU (.op wC ue)))))) mr)))) rM)
theorem TC.rA:m6 (.two (.two (.two .off (.two .off .all)) (.two .off .all)) (.two (.two (.two .off .all) .all) .all)) (aS Tryz.prog CF Tryz.f100)=some (2,TC.dL):=by kernel_rfl
def TC.jI:T:= .aq dE (.op nZ (.op aEc (.bind 1 (.op amd (.ite (.x 3) (.ite (.x 2) (.op aLj zU) dU) (.op arz (.ite (.x 4) (.ite (.x 2) (.op (.call F.dL [mB,vz] false) (.ite (.x 5) aI2 dU)) dU) (.op awx (.ite (.x 5) dU (.op awz (.ite (.x 6) (.ite (.x 2) (.op awI (.ite (.x 7) (.op aEq vU) dU)) dU) dU)))))))) aLk)))
theorem TC.acg:m6 (.two (.two (.two .all .off) (.two (.two (.two .all .off) .off) (.two .off (.two (.two (.two .all .off) .off) .off)))) .all) (aS Tryz.prog CF Tryz.f101)=some (1,TC.jI):=by kernel_rfl
def TC.lv:T:= .aq dE (.bind 1 (.op (.bin .eql fO bI) (.ite (.x 1) (.op awI (.ite (.x 2) (.op aJJ (.ite (.x 3) aEf dU)) dU)) dU)) nX)
theorem TC.ach:m6 (.two (.two (.two (.two .all .off) .off) .off) .all) (aS Tryz.prog CF Tryz.f102)=some (1,TC.lv):=by kernel_rfl
def TC.pZ:T:= .aq avn (.aq avn (.op (.call F.od iW false) (.op alO (.ite (.x 2) dU (.bind 0 (.loop fN (.op aD4 (.op wB (.ite (.x 5) dU mr)))) (.bind 0 (.loop fN (.op aFd (.op wB (.ite (.x 5) dU mr)))) rM))))))
theorem TC.ajX:m6 (.two .off (.two (.two .off .all) (.two (.two .off .all) .all))) (aS Tryz.prog CF Tryz.f103)=some (1,TC.pZ):=by kernel_rfl
def TC.kG:T:= .aq aJt aPB
theorem TC.ad9:m6 (.all) (aS Tryz.prog CF Tryz.f104)=some (1,TC.kG):=by kernel_rfl
def TC.l9:T:= .aq uf aKC
theorem TC.agJ:m6 (.all) (aS Tryz.prog CF Tryz.f105)=some (2,TC.l9):=by kernel_rfl
def TC.fH:T:= .op aEp nX
theorem TC.sL:m6 (.all) (aS Tryz.prog CF Tryz.f120)=some (1,TC.fH):=by kernel_rfl
def TC.lx:T:= .bind 3 (.loop [.x 1,bI,vz] (.bind 0 aLd (.op yn (.op (.bin .sub (.x 5) aww) (.op aEE (.bind 2 (.op aJN (.op (.bin .quo (.x 8) x9) (.op (.bin .gtr (.x 3) (.x 9)) (.ite bU dU aKh)))) (.op wC (.jump [bU,.x 8,.x 9])))))))) (.bind 0 (.bind 1 (.ite (.x 4) dU (.op awA (.op (.bin .eql (.x 5) aww) (.ite (.x 6) dU dv)))) (.ite (.x 5) dU iG)) aKM)
theorem TC.acm:m6 (.two (.two .all (.two (.two .off .all) .all)) (.two (.two (.two .off (.two .off .all)) (.two .off .all)) .all)) (aS Tryz.prog CF Tryz.f121)=some (2,TC.lx):=by kernel_rfl
def TC.dw:T:= .op aEz nX
theorem TC.pY:m6 (.all) (aS Tryz.prog CF Tryz.f122)=some (1,TC.dw):=by kernel_rfl
def TC.dj:T:= .op aEt nX
theorem TC.pX:m6 (.all) (aS Tryz.prog CF Tryz.f123)=some (1,TC.dj):=by kernel_rfl
def TC.oe:T:= .bind 1 aKw (.bind 1 (.loop [.x 2] (.bind 0 (.bind 1 (.op pP (.op wB (.ite (.x 5) aKr dU))) aEl) (.op zT zU))) (.op aI3 (.aq awr (.aq alH (.aq aq2 (.aq (.cells (.agg [pQ,.x 4,bI,.x 1]) 4) (.bind 1 (.op (.bin .sub (.x 3) (.x 2)) (.op (.bin .gtr (.x 5) amj) (.ite (.x 6) dU aLp))) aJ0)))))))
theorem TC.agY:m6 (.two .all (.two (.two (.two (.two .all .off) .all) .all) (.two (.two .off .all) .all))) (aS Tryz.prog CF Tryz.f124)=some (2,TC.oe):=by kernel_rfl
def TC.mG:T:= .aq (.one aFa) aPG
theorem TC.aef:m6 (.all) (aS Tryz.prog CF Tryz.f126)=some (0,TC.mG):=by kernel_rfl
def TC.cW:T:= .op (.aY F.bo G.bo aEM) (.op (.un .not abh) (.ite (.x 9) dU (.ret aKJ)))
theorem TC.agO:qx (.two .off .all) (ea Tryz.prog CF G.cW Tryz.f127)=some TC.cW:=by kernel_rfl
def TC.cX:T:= .op ab2 (.op ah4 (.aq w7 (.bind 0 (.bind 1 (.op (.bin .neq yl bI) (.ite bU dU (.op (.bin .neq ye (.x 7)) rS))) (.ite bU dU iG)) aKR)))
theorem TC.agS:qx (.two (.two (.two .off .all) (.two .off .all)) .all) (ea Tryz.prog CF G.cX Tryz.f128)=some TC.cX:=by kernel_rfl
def TC.dK:T:= .op ab2 aPE
theorem TC.agV:qx (.all) (ea Tryz.prog CF G.dK Tryz.f129)=some TC.dK:=by kernel_rfl
def TC.bo:T:= .op (.aY F.cn G.cn aEM) aK3
theorem TC.ajM:qx (.all) (ea Tryz.prog CF G.bo Tryz.f130)=some TC.bo:=by kernel_rfl
def TC.dW:T:= .bind 7 (.bind 1 (.op aDT (.ite (.x 7) (.op (.bin .eql (.x 2) (.x 4)) vU) dU)) (.ite (.x 7) dU (.jump asQ))) (.op av3 (.aq aq8 (.bind 1 (.bind 1 (.op (.bin .eql df bI) (.ite eA (.op (.bin .gtr ec bU) al1) dU)) (.ite eA (.aq aq8 awC) rT)) aJU)))
theorem TC.aec:qx (.two (.two (.two .all .off) (.two .off .all)) (.two (.two (.two .all .off) .all) .all)) (ea Tryz.prog CF G.dW Tryz.f131)=some TC.dW:=by kernel_rfl
def TC.dt:T:= .op ab2 (.op awe (.aq are (.aq aI4 (.bind 12 (.op aKV (.ite pN dU (.op aKu (.ite arA dU (.op aK4 (.ite arv dU (.op aLc (.ite adG dU aPs)))))))) dU))))
theorem TC.ace:qx (.two (.two .off (.two .off (.two .off (.two .off .all)))) .off) (ea Tryz.prog CF G.dt Tryz.f132)=some TC.dt:=by kernel_rfl
def TC.du:T:= .op (.bin .sub (.x 2) kD) aJA
theorem TC.acf:qx (.all) (ea Tryz.prog CF G.du Tryz.f133)=some TC.du:=by kernel_rfl
def TC.ij:T:= .aq (.one amg) zq7
theorem TC.sN:m6 (.all) (aS Tryz.prog CF Tryz.f134)=some (1,TC.ij):=by kernel_rfl
def TC.cR:T:= .bind 1 (.op (.call F.dw iW false) (.ite (.x 1) fw (.op (.call F.dj iW false) (.ite (.x 2) fw (.op (.call F.fH iW false) (.ite (.x 3) dU aDJ)))))) nX
theorem TC.mH:m6 (.two (.two .all (.two .all (.two .off .all))) .all) (aS Tryz.prog CF Tryz.f135)=some (1,TC.cR):=by kernel_rfl
def TC.od:T:= .aq avn (.op aD4 (.bind 0 (.op amd (.ite (.x 2) (.bind 1 (.aq avn (.op aKN (.ite (.x 3) (.op aEc (.ite (.x 4) (.op amf w6) dU)) dU))) (.cM um)) dU)) dU))
theorem TC.agX:m6 (.two (.two (.two (.two (.two .all .off) .off) .all) .off) .off) (aS Tryz.prog CF Tryz.f136)=some (1,TC.od):=by kernel_rfl
def TC.gM:T:= .aq (.cells (.agg [bI,jH,bI,gz]) 4) (.bind 11 (.op aE4 (.ite abk (.op aJz (.op ah4 (.aq w7 (.op aKH (.ite arA dU aKU))))) dU)) aLf)
theorem TC.amw:qx (.two (.two (.two .off .all) .off) .all) (ea Tryz.prog CF G.gM Tryz.f154)=some TC.gM:=by kernel_rfl
def TC.eB:T:= .op (.bin .eql (.x 7) yj) (.ite (.x 8) aKL (.op amb (.op aJV (.op arj (.aq (.cells cz 7) (.bind 14 (.loop aKZ (.op aKt (.ite alV dU aKX))) aKa))))))
theorem TC.ajK:qx (.two .all (.two (.two .off .all) .all)) (ea Tryz.prog CF G.eB Tryz.f156)=some TC.eB:=by kernel_rfl
def TC.mE:T:= .aq avn (.bind 3 (.loop [vz,vz,vz,bI] (.op (.oz (.x 1)) (.op adJ (.ite (.x 7) (.bind 3 (.bind 1 (.ite (.x 2) dU aJB) (.bind 1 (.ite (.x 3) dU aJY) (.ite (.x 4) dU aKp))) aIV) (.cM av9))))) (.bind 1 (.op (.bin .geq (.cell 0 4) bI) (.ite (.x 5) (.ite (.x 2) dU (.op awI (.ite (.x 6) (.ite (.x 3) (.ite (.x 4) dU (.op aJL (.ite (.x 7) (.op aPv (.ite (.x 8) dU aJ4)) dU))) dU) dU))) dU)) ahY))
theorem TC.aed:m6 (.two (.two (.two (.two (.two .off .all) (.two (.two .off .all) (.two .off .all))) .all) .all) (.two (.two (.two .off (.two (.two (.two .off (.two (.two .off .all) .off)) .off) .off)) .off) .all)) (aS Tryz.prog CF Tryz.f157)=some (2,TC.mE):=by kernel_rfl
def TC.cQ:T:= .op aI7 (.op aim (.aq rU (.op aKv (.op aD5 (.ite bU dU aPF)))))
theorem TC.aaf:qx (.two .off .all) (ea Tryz.prog CF G.cQ Tryz.f170)=some TC.cQ:=by kernel_rfl
def TC.fG:T:= .op (.aY F.fF G.fF asQ) (.op aim (.aq awp (.bind 13 (.loop aKo (.op aKA (.ite (.ext 22 0) dU aKW))) aKc)))
theorem TC.ajN:qx (.two (.two .off .all) .all) (ea Tryz.prog CF G.fG Tryz.f172)=some TC.fG:=by kernel_rfl
def TC.eP:T:= .op ab2 (.op ah4 (.aq w7 (.bind 1 (.op aD0 (.ite bU (.op aDv (.ite cz dU dv)) dU)) aFg)))
theorem TC.agQ:qx (.two (.two (.two .off .all) .off) .all) (ea Tryz.prog CF G.eP Tryz.f173)=some TC.eP:=by kernel_rfl
def TC.fF:T:= .op ab2 (.op aim (.aq rU (.bind 0 (.bind 1 (.op ame (.ite (.x 9) (.op (.bin .eql zS tY) (.ite bU dU (.op (.bin .eql zS o9) (.ite cz dU dv)))) dU)) (.ite (.x 9) dU iG)) (.op aJb (.op aqO (.aq aqX (.bind 8 (.op aJR (.ite cz dU aJO)) (.ite iS dU aKF))))))))
theorem TC.ajJ:qx (.two (.two (.two (.two .off (.two .off .all)) .off) (.two .off .all)) (.two (.two .off .all) (.two .off .all))) (ea Tryz.prog CF G.fF Tryz.f181)=some TC.fF:=by kernel_rfl
def TC.bM:T:= .op ab2 (.op aEk (.bind 8 (.op ame (.ite (.x 9) (.op aI6 (.ite bU aKK (.op (.bin .eql (.x 8) zq8) (.ite cz dU (.op aEG (.ite df dU (.op aJe (.ite eZ dU (.op aKq (.ite (.ext 14 0) dU (.op aPr (.ite alQ dU (.op aKQ (.ite arw dU aLq)))))))))))))) dU)) aE1))
theorem TC.vV:qx (.two (.two (.two .all (.two .off (.two .off (.two .off (.two .off (.two .off (.two .off .all))))))) .off) .all) (ea Tryz.prog CF G.bM Tryz.f182)=some TC.bM:=by kernel_rfl
def TC.eT:T:= .op ab2 (.op aim (.aq rU (.op aJK (.op aD5 (.ite bU dU (.op (.bin .add qI kD) (.aq (.one cz) (.aq arG (.aq aJc (.op (.bin .eql zS kD) (.ite df aLe dU)))))))))))
theorem TC.agW:qx (.two .off (.two .all .off)) (ea Tryz.prog CF G.eT Tryz.f183)=some TC.eT:=by kernel_rfl
def TC.ck:T:= .op ab2 (.op aim (.aq rU (.bind 0 (.bind 1 (.op ame (.ite (.x 9) (.op (.bin .eql zS yj) rT) dU)) (.ite (.x 9) aK7 (.bind 1 (.op ame (.ite bU (.op aEy rS) dU)) (.ite bU aLa dU)))) dU)))
theorem TC.agP:qx (.two (.two (.two .all .off) (.two .all (.two (.two .all .off) (.two .all .off)))) .off) (ea Tryz.prog CF G.ck Tryz.f185)=some TC.ck:=by kernel_rfl
def TC.bJ:T:= .op ab2 (.op aEk (.bind 8 (.op ame (.ite (.x 9) (.op (.bin .eql (.x 8) yj) (.ite bU aKK (.op aEG (.ite cz dU aLm)))) dU)) aE1))
theorem TC.yv:qx (.two (.two (.two .all (.two .off .all)) .off) .all) (ea Tryz.prog CF G.bJ Tryz.f186)=some TC.bJ:=by kernel_rfl
theorem bd{α:Type}{c:Bool}{a b:α}{r:Option α}(h:(if c=true then some a else r)=some b):(c=true/\a=b)∨r=some b:=by
 cases c
 ·exact .inr h
 ·injection h with h;exact .inl ⟨rfl,h⟩
def aA6(f:FuncId):Option (Nat×T):=
 if f==F.je then some (1,TC.je)else
 if f==F.jd then some (1,TC.jd)else
 if f==F.fb then some (3,TC.fb)else
 if f==F.uH then some (1,TC.uH)else
 if f==F.og then some (1,TC.og)else
 if f==F.oa then some (1,TC.oa)else
 if f==F.ka then some (2,TC.ka)else
 if f==F.l8 then some (3,TC.l8)else
 if f==F.ma then some (2,TC.ma)else
 if f==F.mF then some (2,TC.mF)else
 if f==F.gB then some (1,TC.gB)else
 if f==F.dL then some (2,TC.dL)else
 if f==F.jI then some (1,TC.jI)else
 if f==F.lv then some (1,TC.lv)else
 if f==F.pZ then some (1,TC.pZ)else
 if f==F.kG then some (1,TC.kG)else
 if f==F.l9 then some (2,TC.l9)else
 if f==F.fH then some (1,TC.fH)else
 if f==F.lx then some (2,TC.lx)else
 if f==F.dw then some (1,TC.dw)else
 if f==F.dj then some (1,TC.dj)else
 if f==F.oe then some (2,TC.oe)else
 if f==F.mG then some (0,TC.mG)else
 if f==F.ij then some (1,TC.ij)else
 if f==F.cR then some (1,TC.cR)else
 if f==F.od then some (1,TC.od)else
 if f==F.mE then some (2,TC.mE)else
 none
def arQ(f:FuncId):Option (eK×T):=
 if f==F.eQ then some (G.eQ,TC.eQ)else
 if f==F.cn then some (G.cn,TC.cn)else
 if f==F.eS then some (G.eS,TC.eS)else
 if f==F.eR then some (G.eR,TC.eR)else
 if f==F.de then some (G.de,TC.de)else
 if f==F.cW then some (G.cW,TC.cW)else
 if f==F.cX then some (G.cX,TC.cX)else
 if f==F.dK then some (G.dK,TC.dK)else
 if f==F.bo then some (G.bo,TC.bo)else
 if f==F.dW then some (G.dW,TC.dW)else
 if f==F.dt then some (G.dt,TC.dt)else
 if f==F.du then some (G.du,TC.du)else
 if f==F.gM then some (G.gM,TC.gM)else
 if f==F.eB then some (G.eB,TC.eB)else
 if f==F.cQ then some (G.cQ,TC.cQ)else
 if f==F.fG then some (G.fG,TC.fG)else
 if f==F.eP then some (G.eP,TC.eP)else
 if f==F.fF then some (G.fF,TC.fF)else
 if f==F.bM then some (G.bM,TC.bM)else
 if f==F.eT then some (G.eT,TC.eT)else
 if f==F.ck then some (G.ck,TC.ck)else
 if f==F.bJ then some (G.bJ,TC.bJ)else
 if f==F.bh then some (G.bh,T.bh)else
 none
theorem acV:∀f k t,aA6 f=some (k,t)->∀{args:List AV} {res:AV},args.length=k->AV.ae args=true->cL Tryz.prog (λ _ _ _=>False) (λ a=>a=res) t args []->aW Tryz.prog f args res:=by
 intro f k t h args res hl hn hw;unfold aA6 at h;rcases bd h with⟨e,h⟩|h
 ·injection h with h1 h2;subst h1;subst h2;rw[eq_of_beq e];exact dD Tryz.func21 TC.ajW hl hn hw
 rcases bd h with⟨e,h⟩|h
 ·injection h with h1 h2;subst h1;subst h2;rw[eq_of_beq e];exact dD Tryz.func23 TC.ajV hl hn hw
 rcases bd h with⟨e,h⟩|h
 ·injection h with h1 h2;subst h1;subst h2;rw[eq_of_beq e];exact dD Tryz.func40 TC.uE hl hn hw
 rcases bd h with⟨e,h⟩|h
 ·injection h with h1 h2;subst h1;subst h2;rw[eq_of_beq e];exact dD Tryz.func51 TC.ao2 hl hn hw
 rcases bd h with⟨e,h⟩|h
 ·injection h with h1 h2;subst h1;subst h2;rw[eq_of_beq e];exact dD Tryz.func53 TC.ag8 hl hn hw
 rcases bd h with⟨e,h⟩|h
 ·injection h with h1 h2;subst h1;subst h2;rw[eq_of_beq e];exact dD Tryz.func54 TC.agH hl hn hw
 rcases bd h with⟨e,h⟩|h
 ·injection h with h1 h2;subst h1;subst h2;rw[eq_of_beq e];exact dD Tryz.func55 TC.agI hl hn hw
 rcases bd h with⟨e,h⟩|h
 ·injection h with h1 h2;subst h1;subst h2;rw[eq_of_beq e];exact dD Tryz.func56 TC.agG hl hn hw
 rcases bd h with⟨e,h⟩|h
 ·injection h with h1 h2;subst h1;subst h2;rw[eq_of_beq e];exact dD Tryz.func92 TC.agZ hl hn hw
 rcases bd h with⟨e,h⟩|h
 ·injection h with h1 h2;subst h1;subst h2;rw[eq_of_beq e];exact dD Tryz.func93 TC.aee hl hn hw
 rcases bd h with⟨e,h⟩|h
 ·injection h with h1 h2;subst h1;subst h2;rw[eq_of_beq e];exact dD Tryz.func99 TC.sM hl hn hw
 rcases bd h with⟨e,h⟩|h
 ·injection h with h1 h2;subst h1;subst h2;rw[eq_of_beq e];exact dD Tryz.func100 TC.rA hl hn hw
 rcases bd h with⟨e,h⟩|h
 ·injection h with h1 h2;subst h1;subst h2;rw[eq_of_beq e];exact dD Tryz.func101 TC.acg hl hn hw
 rcases bd h with⟨e,h⟩|h
 ·injection h with h1 h2;subst h1;subst h2;rw[eq_of_beq e];exact dD Tryz.func102 TC.ach hl hn hw
 rcases bd h with⟨e,h⟩|h
 ·injection h with h1 h2;subst h1;subst h2;rw[eq_of_beq e];exact dD Tryz.func103 TC.ajX hl hn hw
 rcases bd h with⟨e,h⟩|h
 ·injection h with h1 h2;subst h1;subst h2;rw[eq_of_beq e];exact dD Tryz.func104 TC.ad9 hl hn hw
 rcases bd h with⟨e,h⟩|h
 ·injection h with h1 h2;subst h1;subst h2;rw[eq_of_beq e];exact dD Tryz.func105 TC.agJ hl hn hw
 rcases bd h with⟨e,h⟩|h
 ·injection h with h1 h2;subst h1;subst h2;rw[eq_of_beq e];exact dD Tryz.func120 TC.sL hl hn hw
 rcases bd h with⟨e,h⟩|h
 ·injection h with h1 h2;subst h1;subst h2;rw[eq_of_beq e];exact dD Tryz.func121 TC.acm hl hn hw
 rcases bd h with⟨e,h⟩|h
 ·injection h with h1 h2;subst h1;subst h2;rw[eq_of_beq e];exact dD Tryz.func122 TC.pY hl hn hw
 rcases bd h with⟨e,h⟩|h
 ·injection h with h1 h2;subst h1;subst h2;rw[eq_of_beq e];exact dD Tryz.func123 TC.pX hl hn hw
 rcases bd h with⟨e,h⟩|h
 ·injection h with h1 h2;subst h1;subst h2;rw[eq_of_beq e];exact dD Tryz.func124 TC.agY hl hn hw
 rcases bd h with⟨e,h⟩|h
 ·injection h with h1 h2;subst h1;subst h2;rw[eq_of_beq e];exact dD Tryz.func126 TC.aef hl hn hw
 rcases bd h with⟨e,h⟩|h
 ·injection h with h1 h2;subst h1;subst h2;rw[eq_of_beq e];exact dD Tryz.func134 TC.sN hl hn hw
 rcases bd h with⟨e,h⟩|h
 ·injection h with h1 h2;subst h1;subst h2;rw[eq_of_beq e];exact dD Tryz.func135 TC.mH hl hn hw
 rcases bd h with⟨e,h⟩|h
 ·injection h with h1 h2;subst h1;subst h2;rw[eq_of_beq e];exact dD Tryz.func136 TC.agX hl hn hw
 rcases bd h with⟨e,h⟩|h
 ·injection h with h1 h2;subst h1;subst h2;rw[eq_of_beq e];exact dD Tryz.func157 TC.aed hl hn hw
 cases h
theorem amq:∀f g t,arQ f=some (g,t)->∀{ins outs:List AV},ins.length=g.n->outs.length=g.m->AV.ae ins=true->cL Tryz.prog (λ _ _ _=>False) (λ a=>a=cv outs) t ins []->jY Tryz.prog f g ins outs:=by
 intro f g t h ins outs hl ho hn hw;unfold arQ at h;rcases bd h with⟨e,h⟩|h
 ·injection h with h1 h2;subst h1;subst h2;rw[eq_of_beq e];exact dF Tryz.func52 TC.agR hl hn ho hw
 rcases bd h with⟨e,h⟩|h
 ·injection h with h1 h2;subst h1;subst h2;rw[eq_of_beq e];exact dF Tryz.func94 TC.amx hl hn ho hw
 rcases bd h with⟨e,h⟩|h
 ·injection h with h1 h2;subst h1;subst h2;rw[eq_of_beq e];exact dF Tryz.func95 TC.agU hl hn ho hw
 rcases bd h with⟨e,h⟩|h
 ·injection h with h1 h2;subst h1;subst h2;rw[eq_of_beq e];exact dF Tryz.func96 TC.agT hl hn ho hw
 rcases bd h with⟨e,h⟩|h
 ·injection h with h1 h2;subst h1;subst h2;rw[eq_of_beq e];exact dF Tryz.func97 TC.ajL hl hn ho hw
 rcases bd h with⟨e,h⟩|h
 ·injection h with h1 h2;subst h1;subst h2;rw[eq_of_beq e];exact dF Tryz.func127 TC.agO hl hn ho hw
 rcases bd h with⟨e,h⟩|h
 ·injection h with h1 h2;subst h1;subst h2;rw[eq_of_beq e];exact dF Tryz.func128 TC.agS hl hn ho hw
 rcases bd h with⟨e,h⟩|h
 ·injection h with h1 h2;subst h1;subst h2;rw[eq_of_beq e];exact dF Tryz.func129 TC.agV hl hn ho hw
 rcases bd h with⟨e,h⟩|h
 ·injection h with h1 h2;subst h1;subst h2;rw[eq_of_beq e];exact dF Tryz.func130 TC.ajM hl hn ho hw
 rcases bd h with⟨e,h⟩|h
 ·injection h with h1 h2;subst h1;subst h2;rw[eq_of_beq e];exact dF Tryz.func131 TC.aec hl hn ho hw
 rcases bd h with⟨e,h⟩|h
 ·injection h with h1 h2;subst h1;subst h2;rw[eq_of_beq e];exact dF Tryz.func132 TC.ace hl hn ho hw
 rcases bd h with⟨e,h⟩|h
 ·injection h with h1 h2;subst h1;subst h2;rw[eq_of_beq e];exact dF Tryz.func133 TC.acf hl hn ho hw
 rcases bd h with⟨e,h⟩|h
 ·injection h with h1 h2;subst h1;subst h2;rw[eq_of_beq e];exact dF Tryz.func154 TC.amw hl hn ho hw
 rcases bd h with⟨e,h⟩|h
 ·injection h with h1 h2;subst h1;subst h2;rw[eq_of_beq e];exact dF Tryz.func156 TC.ajK hl hn ho hw
 rcases bd h with⟨e,h⟩|h
 ·injection h with h1 h2;subst h1;subst h2;rw[eq_of_beq e];exact dF Tryz.func170 TC.aaf hl hn ho hw
 rcases bd h with⟨e,h⟩|h
 ·injection h with h1 h2;subst h1;subst h2;rw[eq_of_beq e];exact dF Tryz.func172 TC.ajN hl hn ho hw
 rcases bd h with⟨e,h⟩|h
 ·injection h with h1 h2;subst h1;subst h2;rw[eq_of_beq e];exact dF Tryz.func173 TC.agQ hl hn ho hw
 rcases bd h with⟨e,h⟩|h
 ·injection h with h1 h2;subst h1;subst h2;rw[eq_of_beq e];exact dF Tryz.func181 TC.ajJ hl hn ho hw
 rcases bd h with⟨e,h⟩|h
 ·injection h with h1 h2;subst h1;subst h2;rw[eq_of_beq e];exact dF Tryz.func182 TC.vV hl hn ho hw
 rcases bd h with⟨e,h⟩|h
 ·injection h with h1 h2;subst h1;subst h2;rw[eq_of_beq e];exact dF Tryz.func183 TC.agW hl hn ho hw
 rcases bd h with⟨e,h⟩|h
 ·injection h with h1 h2;subst h1;subst h2;rw[eq_of_beq e];exact dF Tryz.func185 TC.agP hl hn ho hw
 rcases bd h with⟨e,h⟩|h
 ·injection h with h1 h2;subst h1;subst h2;rw[eq_of_beq e];exact dF Tryz.func186 TC.yv hl hn ho hw
 rcases bd h with⟨e,h⟩|h
 ·injection h with h1 h2;subst h1;subst h2;rw[eq_of_beq e];exact T.xj hl ho hn hw
 cases h
def aGD:ByteArray:=⟨#[116,121,112,101,32,39,97,32,108,105,115,116,32,61,32,78,105,108,32,124,32,67,111,110,115,32,111,102,32,39,97,32,42,32,108,105,115,116,32,39,97,59,10,116,121,112,101,32,116,114,101,101,32,61,32,76,101,97,102,32,124,32,78,111,100,101,32,111,102,32,116,114,101,101,32,42,32,105,110,116,32,42,32,116,114,101,101,59,10,49]⟩
def amU:AV:=(.agg [(.sl [(.agg [(.v (.string ⟨#[108,105,115,116]⟩)),(.sl [(.v (.string ⟨#[97]⟩))]),(.sl [(.agg [(.v (.string ⟨#[78,105,108]⟩)),(.v (.bool false)),(.v (.int .i64 0)),(.v (.string ⟨#[]⟩)),(.v (.int .i64 0)),.an,(.v (.int .i64 15))]),(.agg [(.v (.string ⟨#[67,111,110,115]⟩)),(.v (.bool true)),(.v (.int .i64 4)),(.v (.string ⟨#[]⟩)),(.v (.int .i64 29)),(.sl [(.agg [(.v (.int .i64 2)),(.v (.string ⟨#[97]⟩)),(.v (.int .i64 29)),.an]),(.agg [(.v (.int .i64 1)),(.v (.string ⟨#[108,105,115,116]⟩)),(.v (.int .i64 34)),(.sl [(.agg [(.v (.int .i64 2)),(.v (.string ⟨#[97]⟩)),(.v (.int .i64 39)),.an])])])]),(.v (.int .i64 21))])]),(.v (.int .i64 0))]),(.agg [(.v (.string ⟨#[116,114,101,101]⟩)),(.sl []),(.sl [(.agg [(.v (.string ⟨#[76,101,97,102]⟩)),(.v (.bool false)),(.v (.int .i64 0)),(.v (.string ⟨#[]⟩)),(.v (.int .i64 0)),.an,(.v (.int .i64 55))]),(.agg [(.v (.string ⟨#[78,111,100,101]⟩)),(.v (.bool true)),(.v (.int .i64 4)),(.v (.string ⟨#[]⟩)),(.v (.int .i64 70)),(.sl [(.agg [(.v (.int .i64 1)),(.v (.string ⟨#[116,114,101,101]⟩)),(.v (.int .i64 70)),.an]),(.agg [(.v (.int .i64 1)),(.v (.string ⟨#[105,110,116]⟩)),(.v (.int .i64 77)),.an]),(.agg [(.v (.int .i64 1)),(.v (.string ⟨#[116,114,101,101]⟩)),(.v (.int .i64 83)),.an])]),(.v (.int .i64 62))])]),(.v (.int .i64 43))])]),(.v (.int .i64 1)),(.v (.string ⟨#[]⟩)),(.v (.int .i64 1)),(.v (.string ⟨#[]⟩)),(.v (.int .i64 89)),(.sl []),.an])
def akb:AV:=(.agg [(.v (.int .i64 0)),(.v (.int .i64 0))])
def aL3:AV:=(.sl [(.agg [(.v (.string ⟨#[108,105,115,116]⟩)),(.v (.int .i64 1)),(.sl [(.agg [(.v (.string ⟨#[78,105,108]⟩)),(.v (.bool false)),(.v (.int .i64 0)),(.v (.int .i64 0)),(.v (.string ⟨#[]⟩)),.an]),(.agg [(.v (.string ⟨#[67,111,110,115]⟩)),(.v (.bool true)),(.v (.int .i64 6)),(.v (.int .i64 0)),(.v (.string ⟨#[]⟩)),(.sl [(.agg [(.v (.int .i64 10)),(.v (.int .i64 0)),(.v (.string ⟨#[]⟩)),.an]),(.agg [(.v (.int .i64 7)),(.v (.int .i64 0)),(.v (.string ⟨#[108,105,115,116]⟩)),(.sl [(.agg [(.v (.int .i64 10)),(.v (.int .i64 0)),(.v (.string ⟨#[]⟩)),.an])])])])])])]),(.agg [(.v (.string ⟨#[116,114,101,101]⟩)),(.v (.int .i64 0)),(.sl [(.agg [(.v (.string ⟨#[76,101,97,102]⟩)),(.v (.bool false)),(.v (.int .i64 0)),(.v (.int .i64 0)),(.v (.string ⟨#[]⟩)),.an]),(.agg [(.v (.string ⟨#[78,111,100,101]⟩)),(.v (.bool true)),(.v (.int .i64 6)),(.v (.int .i64 0)),(.v (.string ⟨#[]⟩)),(.sl [(.agg [(.v (.int .i64 7)),(.v (.int .i64 0)),(.v (.string ⟨#[116,114,101,101]⟩)),(.sl [])]),(.agg [(.v (.int .i64 1)),(.v (.int .i64 0)),(.v (.string ⟨#[]⟩)),.an]),(.agg [(.v (.int .i64 7)),(.v (.int .i64 0)),(.v (.string ⟨#[116,114,101,101]⟩)),(.sl [])])])])])])])
theorem axM:evT aA6 arQ 1000 0 TC.je [.v (.string aGD)]=some (.ret [amU,akb]):=by kernel_rfl
theorem axc:evT aA6 arQ 1000 0 TC.jd [amU]=some (.ret [aL3,akb]):=by kernel_rfl
end Go.Proofs.Ab
