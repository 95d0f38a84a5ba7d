/- A part of the proof: texts QP: see the last part's opening words. -/
import Derived.Test.YtpchnmbcbcfhjaaGreatH
set_option linter.unusedVariables false
set_option linter.unusedSimpArgs false
set_option linter.unnecessarySimpa false
namespace Go.Proofs.YtpchnmbcbcfhjaaGreat
open Go Go.E Go.Proofs
noncomputable section
def PS0:PS CX aD:=⟨[],agi⟩
abbrev K7:Type:=T->(T->An)->An
abbrev SS:Type:=T->T->T->(T->An)->An
abbrev EF:Type:=T->T->(T->An)->An
abbrev yA3:Type:=T->T->T->T->T->T->T->T->T->T->(T->An)->An
abbrev yA4:Type:=T->(T->T->T->An)->An
abbrev yA5:Type:=T->T->T->(T->T->T->T->An)->An
abbrev yA6:Type:=T->T->T->T->(T->T->T->T->An)->An
abbrev yA7:Type:=T->T->T->T->(T->An)->An
abbrev yA8:Type:=T->T->(T->An)->(T->An)->An
abbrev yA9:Type:=T->T->T->(T->An)->An->An
abbrev amh:Type:=T->T->T->(T->T->T->An)->An
abbrev abg:Type:=T->T->T->T->(T->An)->(T->An)->An
abbrev YL:Type:=T->T->T->T->T->(T->An)->An
abbrev ami:Type:=T->T->T->T->T->T->T->(T->T->T->T->T->T->T->T->An)->An
abbrev ai2:Type:=T->T->T->T->T->(T->T->T->T->T->An)->An
abbrev amj:Type:=T->T->T->T->T->T->T->T->T->T->T->T->T->(T->T->T->T->T->T->T->T->T->T->T->An)->(T->T->T->T->T->T->T->T->T->T->T->An)->An
abbrev aep:Type:=T->T->T->T->T->T->T->T->T->T->T->(T->T->T->T->T->T->T->T->T->T->An)->An
abbrev amk:Type:=T->T->T->T->T->T->T->T->T->T->T->(T->T->T->T->T->T->T->T->T->T->T->An)->An
abbrev aml:Type:=T->T->T->T->T->T->T->T->T->(T->An)->An
abbrev YM:Type:=T->T->T->T->T->T->(T->An)->An
abbrev ai3:Type:=T->T->(T->T->An)->An
abbrev ai4:Type:=T->T->T->T->T->T->T->(T->T->T->T->T->T->An)->(T->T->T->T->T->T->T->An)->An
abbrev ai5:Type:=T->T->T->T->T->T->T->T->T->T->T->T->T->T->T->(T->T->T->T->T->T->T->T->T->T->An)->An
abbrev amm:Type:=T->T->T->T->T->T->T->T->T->(T->An)->An->An
abbrev amn:Type:=T->T->T->T->T->T->T->(T->An)->An
abbrev amo:Type:=T->T->T->T->T->T->T->T->T->(T->T->T->T->T->T->An)->An
abbrev amq:Type:=T->T->T->T->T->T->T->T->T->T->T->T->T->T->(T->T->T->T->T->T->T->T->T->T->T->An)->An
abbrev amr:Type:=T->T->T->T->T->T->(T->T->T->An)->(T->T->T->T->An)->An
abbrev ams:Type:=T->T->T->T->T->T->(T->T->T->T->T->T->T->An)->An
abbrev amt:Type:=T->T->T->T->T->T->T->T->T->T->T->T->T->T->T->T->T->T->(T->T->T->T->T->T->T->T->T->T->T->An)->(T->T->T->T->T->T->T->T->T->T->T->An)->An
abbrev amu:Type:=T->T->T->T->T->T->T->T->T->T->T->T->T->T->(T->T->T->T->T->T->T->T->T->T->T->An)->(T->T->T->T->T->T->T->T->T->T->T->T->An)->(T->T->T->T->T->T->T->T->T->T->T->T->An)->An
abbrev amv:Type:=T->T->T->T->T->T->(T->T->T->T->T->T->An)->An
abbrev amw:Type:=T->T->T->T->T->T->T->T->T->T->(T->T->T->T->T->T->T->T->T->T->An)->An
abbrev Lv:Type:=T->T->T->T->(T->An)->An->An
abbrev amx:Type:=T->T->T->T->T->T->T->T->T->T->T->T->T->T->T->T->T->T->T->T->T->T->T->T->T->(T->T->T->T->T->T->T->T->T->T->T->T->T->T->T->T->T->T->T->T->T->T->An)->(T->T->T->T->T->T->T->T->T->T->T->T->T->T->T->T->T->T->T->T->T->T->An)->An
abbrev ai6:Type:=T->T->T->T->T->T->T->T->T->T->T->T->T->T->(T->An)->An->An
abbrev amy:Type:=T->T->T->T->T->T->T->T->T->T->T->T->T->T->T->T->T->T->T->T->T->T->T->(T->An)->(T->T->T->T->T->T->T->T->T->T->T->An)->An
abbrev amz:Type:=T->T->T->T->T->T->T->T->T->T->T->T->T->T->T->T->T->T->T->T->T->T->T->(T->An)->(T->T->T->T->T->T->T->T->T->T->T->T->T->T->T->T->T->T->T->T->T->T->An)->(T->T->T->T->T->T->T->T->T->T->T->T->T->T->T->T->T->T->T->T->T->T->An)->An
def Lx:K7:=fun _ _=>.bad
def Tv:SS:=fun _ _ _ _=>.bad
def ES:EF:=fun _ _ _=>.bad
def yZ3:yA3:=fun _ _ _ _ _ _ _ _ _ _ _=>.bad
def yZ4:yA4:=fun _ _=>.bad
def yZ5:yA5:=fun _ _ _ _=>.bad
def yZ6:yA6:=fun _ _ _ _ _=>.bad
def yZ7:yA7:=fun _ _ _ _ _=>.bad
def yZ8:yA8:=fun _ _ _ _=>.bad
def yZ9:yA9:=fun _ _ _ _ _=>.bad
def aoT:amh:=fun _ _ _ _=>.bad
def aer:abg:=fun _ _ _ _ _ _=>.bad
def abh:YL:=fun _ _ _ _ _ _=>.bad
def aoU:ami:=fun _ _ _ _ _ _ _ _=>.bad
def amB:ai2:=fun _ _ _ _ _ _=>.bad
def aoV:amj:=fun _ _ _ _ _ _ _ _ _ _ _ _ _ _ _=>.bad
def agz:aep:=fun _ _ _ _ _ _ _ _ _ _ _ _=>.bad
def aoW:amk:=fun _ _ _ _ _ _ _ _ _ _ _ _=>.bad
def aoX:aml:=fun _ _ _ _ _ _ _ _ _ _=>.bad
def abj:YM:=fun _ _ _ _ _ _ _=>.bad
def amC:ai3:=fun _ _ _=>.bad
def amD:ai4:=fun _ _ _ _ _ _ _ _ _=>.bad
def amE:ai5:=fun _ _ _ _ _ _ _ _ _ _ _ _ _ _ _ _=>.bad
def aoY:amm:=fun _ _ _ _ _ _ _ _ _ _ _=>.bad
def aoZ:amn:=fun _ _ _ _ _ _ _ _=>.bad
def ao0:amo:=fun _ _ _ _ _ _ _ _ _ _=>.bad
def ao1:amq:=fun _ _ _ _ _ _ _ _ _ _ _ _ _ _ _=>.bad
def ao2:amr:=fun _ _ _ _ _ _ _ _=>.bad
def ao3:ams:=fun _ _ _ _ _ _ _=>.bad
def ao4:amt:=fun _ _ _ _ _ _ _ _ _ _ _ _ _ _ _ _ _ _ _ _=>.bad
def ao5:amu:=fun _ _ _ _ _ _ _ _ _ _ _ _ _ _ _ _ _=>.bad
def ao6:amv:=fun _ _ _ _ _ _ _=>.bad
def ao7:amw:=fun _ _ _ _ _ _ _ _ _ _ _=>.bad
def NC:Lv:=fun _ _ _ _ _ _=>.bad
def ao8:amx:=fun _ _ _ _ _ _ _ _ _ _ _ _ _ _ _ _ _ _ _ _ _ _ _ _ _ _ _=>.bad
def amF:ai6:=fun _ _ _ _ _ _ _ _ _ _ _ _ _ _ _ _=>.bad
def ao9:amy:=fun _ _ _ _ _ _ _ _ _ _ _ _ _ _ _ _ _ _ _ _ _ _ _ _ _=>.bad
def apa:amz:=fun _ _ _ _ _ _ _ _ _ _ _ _ _ _ _ _ _ _ _ _ _ _ _ _ _ _=>.bad
def jT:List Nat:=[0,1,0,1,1]
def iB:Key×Ch:=([4000000],.gone)
def Bc:List Nat:=[0,1,0,1,1,1]
def CR:List (Option (List LT×List M×List (List T))):=[none,none,none]
def iV:List (Key×Ch):=[iB]
def Hu:Pack:=⟨[(4,.one (LI))],[]⟩
def xw:Pack:=⟨[(4,.one (LB))],[]⟩
def yh:Pack:=⟨[(2,.one (LB))],[]⟩
def ac1:List (Option (List LT×List M×List (List T))):=[none,none,none,none]
def ac2:List (List (Option (List LT×List M×List (List T)))):=[CR,[none]]
def ac3:List (Option (List LT×List M×List (List T))):=[none,none,none,none,none]
def agA:List Nat:=[0,1,1,0,0,1,1,0,0,1,0,1]
def YN:Arg:=.bx [.fz tU [],AI,AI]
def UQ:Arg:=.one (.dz tP [])
def ac4:List Arg:=[YN]
def ac5:List (Option (List RL)):=[some [.fz tU [],RI,RI]]
def agB:List Arg:=[.one (.dz tI []),.one (AI)]
def agC:List (List (Option (List LT×List M×List (List T)))):=[[none,none,none,none,none,none],[none]]
def YO:List (Option (List RL)):=[some [.fz tU [],RI,RI],none]
def agD:List Arg:=[YN,.one (AI)]
def ac6:Key×Ch:=((KI 0),.row tP m2 [])
def ac7:List Arg:=[UQ,.one (AS)]
def qE:Arg:=.one (.dz tO [])
def UR:Key×Ch:=((KI 5),.row tC m2 [])
def YP:Key×Ch:=((KI 4),.row tC m2 [])
def EG:Key×Ch:=([0,4],.row tC m2 [])
def YQ:Key×Ch:=((KI 10),.row tC m2 [])
def YR:List RE:=[.one (.own (KR 0 0) tP m2 [])]
def YS:List (Option (List LT×List M×List (List T))):=[none,none,none,none,none,none,none,none,none,none]
def akb:List (List (Option (List LT×List M×List (List T)))):=[[none,none,none,none,none,none],[none],[none],[none]]
def Hw:Arg:=.agg [AI,AI,.dz tO []]
def agE:List (List (Option (List LT×List M×List (List T)))):=[YS,[none]]
def UU:Arg:=.agg [AI,AI,AI,.dz tO [],AB]
def agF:List (Key×Ch):=[iB,((KI 1),.row tP m2 [])]
def ac8:List Leaf:=[LI,LD tO,LI,LD tI]
def akc:List (Nat×fC):=[(0,.ptr [0,999999] 0 0 0),(3,EP 1),(4,.ptr [0,6] 0 0 0),(7,.one (LI))]
def YT:List RE:=[.one (.own (KR 0 0) tO m3 [])]
def agG:List (List (Option (List LT×List M×List (List T)))):=[YS,ac1]
def akd:List (List (Option (List LT×List M×List (List T)))):=[[none,none,none,some (tP,m2,[]),none],[none],[none]]
def agH:Arg:=.agg [AI,.dz tO [],AI,.dz tI []]
def ac9:Key×Ch:=((KI 8),.row tB m2 [])
def Hy:Key×Ch:=([0,9],.row tB m2 [])
def ake:fV:=⟨[.one (RI)],ac2,YO⟩
def akf:List (List (Option (List LT×List M×List (List T)))):=[YS,ac3]
def CS:Arg:=.one (.dz tR [])
def ada:List Arg:=[UQ,qE]
def agI:Pack:=⟨[(5,.one (LA (KI 0) tP))],[ac6]⟩
def akg:List (Key×Ch):=[iB,((KI 1),.box ac8)]
def akh:Pack:=⟨[(0,.one (LD tP)),(1,.one (LS)),(2,.one (LS)),(9,.one (LI))],iV⟩
def aki:Pack:=⟨[(1,.one (LI)),(5,.one (LA (KI 0) tI)),(6,.one (LI))],[((KI 0),.row tI [.F] [])]⟩
def akj:List (Key×Ch):=[([0,999999],.box [LZ tU,LI,LI]),((KI 1),.row tO m3 [])]
def UW:Key×Ch:=([0,3],.row tJ m4 [])
def akk:Pack:=⟨[(7,.one (LA (KI 0) tO))],[((KI 0),.row tO m3 [])]⟩
def adb:Key×Ch:=([0,3],.row tJ [.F,.F,.F,.O [.F]] [])
def agJ:Key×Ch:=((KI 3),.row tJ [.F,.F,.F,.O [.F]] [])
def Hz:Key×Ch:=((KI 1),.row tW m5 [])
def Qy:Key×Ch:=((KI 7),.row tW m5 [])
def M0:Key×Ch:=([0,7],.row tW m5 [])
def HV:Key×Ch:=([0,8],.row tW m5 [])
def ade:Key×Ch:=((KI 2),.row tW m5 [])
def UY:Key×Ch:=((KI 6),.row tW m5 [])
def adf:Key×Ch:=((KI 13),.row tW m5 [])
def adg:Key×Ch:=((KI 12),.row tW m5 [])
def akl:Pack:=⟨[(0,.one (LA [0,0] tP)),(1,.one (LS)),(2,.one (LS)),(8,.one (LI))],[([0,0],.row tP m2 [])]⟩
def akm:Pack:=⟨[(0,.one (LD tR)),(1,.one (LI)),(5,.one (LI))],iV⟩
def adh:RE:=.one (.own (KR 0 0) tW m5 [])
def agK:Key×Ch:=((KI 4),.row tJ [.F,.O m3,.F,.O [.F]] [])
def UZ:List RE:=[adh]
def agL:Key×Ch:=((KI 13),.row tW [.F,.F,.F,.O m3,.F] [])
def agM:Key×Ch:=((KI 12),.row tW [.F,.F,.F,.O m3,.F] [])
def akn:List (Nat×fC):=[(4,EP 0),(5,EP 1),(18,.one (LD [.sc (.int .i64),.sc (.int .i64),.sc (.int .i64),.sl tO])),(19,.one (LI)),(20,.one (LI))]
def ako:List (Nat×fC):=[(0,.ptr [0,999999] 0 0 0),(1,.one (LD tW)),(4,.one (LI))]
def agN:Arg:=.agg [AI,AI,AI,.dz tJ [],.dz tC [],AI]
def adi:List Arg:=[agN]
def U0:Key×Ch:=((KI 0),.box [LI,LI,LI,LD tJ,LD tC,LI])
def agO:List Arg:=[agN,.one (AI)]
def akp:List (Nat×fC):=[(1,EP 0),(2,EP 1),(3,EP 2),(9,.one (LD tJ)),(10,.one (LI)),(11,.one (LI))]
def adj:Key×Ch:=((KI 1),.box [LI,LI,LI,LA (KI 4) tJ,LA (KI 5) tC,LI])
def akq:List (Option (List RL)):=[some [.own (KR 1000 0) tP m2 [],.own (KR 1000 1) tR m3 []],none,none]
def akr:List RE:=[.one (.own (KR 0 0) tP m2 []),.one (.own (KR 1 0) tR m3 []),.one (RB)]
def aks:Pack:=⟨[(0,.one (LD tR)),(1,.one (LD tO)),(5,.one (LI))],iV⟩
def adk:List (Key×Ch):=[U0,iB]
def akt:List (Option (List LT×List M×List (List T))):=[none,none,none,none,none,none,none,none,some (tW,m5,[]),none]
def agP:Arg:=.bx [AI,AI,AI,.own tJ m4 [],.own tC m2 [],AI]
def agQ:Arg:=.bx [AI,AI,AI,.own tJ [.F,.F,.F,.O [.F]] [],.own tC m2 [],AI]
def aku:Pack:=⟨[(0,.one (LD tR)),(1,.one (LD tO)),(5,.one (LI)),(6,.one (LI))],iV⟩
def akv:Pack:=⟨[(1,.one (LD tO)),(11,.one (LD tR)),(12,.one (LI)),(13,.one (LI))],iV⟩
def akw:List RL:=[RI,RI,RI,.own (KR 1000 3) tJ m4 [],.own (KR 1000 4) tC m2 [],RI]
def akx:List RE:=[.agg [RI,RI,RI,.own (KR 0 3) tJ m4 [],.own (KR 0 4) tC m2 [],RI]]
def adl:Arg:=.Ie [.sc (.int .i64),.sc (.int .i64),.sc (.int .i64),.sl tJ,.sl tC,.sc (.int .i64)] []
def aky:List Arg:=[adl]
def akz:List RL:=[RI,RI,RI,.own (KR 1000 3) tJ [.F,.F,.F,.O [.F]] [],.own (KR 1000 4) tC m2 [],RI]
def agR:Arg:=.agg [AI,.dz tR [],AI,.dz tP [],.dz tR []]
def agS:List Arg:=[agR]
def agT:List (List (Option (List LT×List M×List (List T)))):=[akt,ac1]
def akA:List (Option (List RL)):=[some [.own (KR 1000 0) tP m2 [],.own (KR 1000 1) tR m3 [],.own (KR 1000 2) tI [.F] []],none]
def akB:List (Option (List RL)):=[some [RI,RI,RI,.par 0 3,.par 0 4,RI,.par 0 6,.own (KR 1000 7) tW m5 [],.par 0 8,.par 0 9],none]
def agU:List (Option (List RL)):=[some akw,none]
def akC:List Arg:=[adl,.one (AI)]
def akD:List (Option (List RL)):=[some akz,none]
def akE:Pack:=⟨[(1,.one (LI)),(2,EP 0),(5,.one (LI))],adk⟩
def akF:List (Key×Ch):=[((KI 0),.box [LI,LD tR,LI,LD tP,LD tR]),iB]
def adn:Arg:=.bx [AI,.own tR m3 [],AI,.own tP m2 [],.own tR m3 []]
def akG:List Arg:=[agN,agH]
def akH:List Arg:=[adn,.one (AI)]
def akI:List Arg:=[adn,.one (AI),.one (AB)]
def agV:Pack:=⟨[(3,.one (LA (KI 0) tW))],[((KI 0),.row tW m5 [])]⟩
def akJ:Pack:=⟨[(5,.one (LA (KI 0) tW))],[((KI 0),.row tW m5 [])]⟩
def akK:List RE:=[.agg [RI,.own (KR 0 1) tR m3 [],RI,.own (KR 0 3) tP m2 [],.own (KR 0 4) tR m3 []]]
def akL:List RL:=[RI,.own (KR 1000 1) tR m3 [],RI,.own (KR 1000 3) tP m2 [],.own (KR 1000 4) tR m3 []]
def akM:Pack:=⟨[(1,.one (LD tO)),(11,.one (LD tR)),(12,.one (LI)),(13,.one (LI)),(18,.one (LD tO)),(19,.one (LI)),(20,.one (LI))],iV⟩
def agW:List (Option (List RL)):=[some akL,none]
def ado:Key×Ch:=((KI 5),.row tS mS [])
def HY:Key×Ch:=([0,6],.row tS mS [])
def adp:List (Option (List RL)):=[some akL,none,none]
def akN:List Arg:=[adn,.one (AI),qE]
def akO:Key×Ch:=((KI 11),.row tS [.F,.O [.F,.F,.O m3],.F,.O m2,.O [.F,.F,.O m3]] [])
def akP:Pack:=⟨[(2,.one (LA (KI 0) tP)),(3,.one (LA (KI 1) tR)),(4,.one (LB))],[ac6,((KI 1),.row tR m3 [])]⟩
def akQ:fV:=⟨[.one (RB)],[ac3,[none],[none]],adp⟩
def akR:fV:=⟨[.one (RI)],[ac3,[none],[none]],adp⟩
def akS:fV:=⟨[.one (RB)],akd,adp⟩
def akT:fV:=⟨[],[[none,none,none,some (tP,m2,[]),some (tR,m3,[])],[none]],agW⟩
def akU:Pack:=⟨[(0,.rp [([4000000],0)] [.sc (.int .i64),.sc (.int .i64),.sc (.int .i64),.sl tJ,.sl tC,.sc (.int .i64)] []),(3,.one (LA (KI 1) tW)),(13,.one (LD tJ)),(14,.one (LI)),(15,.one (LI))],[iB,Hz]⟩
def YU:Key×Ch:=((KI 0),.box [LI,LI,LI,LD tJ,LD tC,LI,LD tS,LD tW,LD tW,LD tB])
def adq:Arg:=.agg [AI,AI,AI,.dz tJ [],.dz tC [],AI,.dz tS [],.dz tW [],.dz tW [],.dz tB []]
def Qz:List Arg:=[adq]
def U1:List (Key×Ch):=[YU,iB]
def akV:List Leaf:=[LI,LI,LI,LA (KI 3) tJ,LA (KI 4) tC,LI,LA (KI 5) tS,LA (KI 6) tW,LA (KI 7) tW,LA (KI 8) tB]
def adr:List Leaf:=[LI,LI,LI,LA [0,3] tJ,LA [0,4] tC,LI,LA [0,6] tS,LA [0,7] tW,LA [0,8] tW,LA [0,9] tB]
def akW:List Leaf:=[LI,LI,LI,LA (KI 9) tJ,LA (KI 10) tC,LI,LA (KI 11) tS,LA (KI 12) tW,LA (KI 13) tW,LA (KI 14) tB]
def ads:Key×Ch:=((KI 0),.box akV)
def akX:Key×Ch:=((KI 1),.box [LI,LI,LI,LA (KI 4) tJ,LA (KI 5) tC,LI,LA (KI 6) tS,LA (KI 7) tW,LA (KI 8) tW,LA (KI 9) tB])
def akY:Key×Ch:=((KI 0),.box [LI,LI,LI,LA (KI 2) tJ,LA (KI 3) tC,LI,LA (KI 4) tS,LA (KI 5) tW,LA (KI 6) tW,LA (KI 7) tB])
def akZ:Key×Ch:=((KI 1),.box [LI,LI,LI,LA (KI 8) tJ,LA (KI 9) tC,LI,LA (KI 10) tS,LA (KI 11) tW,LA (KI 12) tW,LA (KI 13) tB])
def adt:Key×Ch:=((KI 1),.box akW)
def U2:Key×Ch:=([0,999999],.box adr)
def ak0:Key×Ch:=([0,999999],.box [LI,LI,LI,LA [0,3] tJ,LA [0,4] tC,LI,LA [0,6] tS,LA (KI 5) tW,LA [0,8] tW,LA [0,9] tB])
def ak1:Key×Ch:=((KI 2),.box [LI,LI,LI,LA (KI 10) tJ,LA (KI 11) tC,LI,LA (KI 12) tS,LA (KI 13) tW,LA (KI 14) tW,LA (KI 15) tB])
def agX:Arg:=.Ie [.sc (.int .i64),.sc (.int .i64),.sc (.int .i64),.sl tJ,.sl tC,.sc (.int .i64),.sl tS,.sl tW,.sl tW,.sl tB] []
def ak2:List Arg:=[agX,.one (AI)]
def agY:Pack:=⟨[(0,.rp [([4000000],0)] [.sc (.int .i64),.sc (.int .i64),.sc (.int .i64),.sl tJ,.sl tC,.sc (.int .i64),.sl tS,.sl tW,.sl tW,.sl tB] [])],iV⟩
def ak3:Pack:=⟨[(1,EP 0),(10,.one (LD tC)),(11,.one (LI)),(12,.one (LI))],U1⟩
def ak4:List AL:=[AI,AI,AI,.own tJ m4 [],.own tC m2 [],AI,.own tS mS [],.own tW m5 [],.own tW m5 [],.own tB m2 []]
def adu:Arg:=.bx ak4
def U3:Arg:=.bx [AI,AI,AI,.own tJ [.F,.F,.F,.O [.F]] [],.own tC m2 [],AI,.own tS mS [],.own tW m5 [],.own tW m5 [],.own tB m2 []]
def agZ:List Arg:=[U3,.one (AI)]
def ak5:RE:=.agg [RI,RI,RI,.own (KR 0 3) tJ m4 [],.own (KR 0 4) tC m2 [],RI,.own (KR 0 6) tS mS [],.own (KR 0 7) tW m5 [],.own (KR 0 8) tW m5 [],.own (KR 0 9) tB m2 []]
def ag0:List RE:=[ak5]
def apb:RE:=.agg [RI,RI,RI,.own (KR 0 3) tJ [.F,.F,.F,.O [.F]] [],.own (KR 0 4) tC m2 [],RI,.own (KR 0 6) tS mS [],.own (KR 0 7) tW m5 [],.own (KR 0 8) tW m5 [],.own (KR 0 9) tB m2 []]
def amG:List Arg:=[adu,.agg [AI,AI,AI,.dz tO []]]
def apc:List RL:=[RI,RI,RI,.own (KR 1000 3) tJ [.F,.F,.F,.O [.F]] [],.own (KR 1000 4) tC m2 [],RI,.own (KR 1000 6) tS mS [],.own (KR 1000 7) tW m5 [],.own (KR 1000 8) tW m5 [],.own (KR 1000 9) tB m2 []]
def apd:List Arg:=[adu,UU]
def ape:List Arg:=[U3,.agg [AI,AI,AI,.dz tO []]]
def abk:List (Option (List RL)):=[some [RI,RI,RI,.own (KR 1000 3) tJ m4 [],.own (KR 1000 4) tC m2 [],RI,.own (KR 1000 6) tS mS [],.own (KR 1000 7) tW m5 [],.own (KR 1000 8) tW m5 [],.own (KR 1000 9) tB m2 []],none]
def abl:List (Option (List RL)):=[some apc,none]
def apf:fV:=⟨[],agE,abl⟩
def apg:Pack:=⟨[(1,EP 0),(8,.one (LD tS)),(9,.one (LI)),(10,.one (LI))],U1⟩
def aph:Pack:=⟨[(1,EP 0),(9,.one (LD tS)),(10,.one (LI)),(11,.one (LI))],U1⟩
def apj:fV:=⟨[],akf,abk⟩
def apk:fV:=⟨[.one (RB)],agG,abk⟩
def apl:fV:=⟨[.one (RB)],agG,abl⟩
def apm:fV:=⟨[.one (RB)],agT,abl⟩
def apn:List (Key×Ch):=[akY,akZ,((KI 2),.row tJ m4 []),((KI 3),.row tC m2 []),((KI 4),.row tS mS []),((KI 5),.row tW m5 []),UY,((KI 7),.row tB m2 []),((KI 8),.row tJ m4 []),((KI 9),.row tC m2 []),((KI 10),.row tS mS []),((KI 11),.row tW m5 []),adg,((KI 13),.row tB m2 [])]
def apo:Pack:=⟨[(2,EP 0),(3,EP 1)],apn⟩
def apq:List (Key×Ch):=[([0,999999],.box [LZ tU,LI,LI]),((KI 1),.box akV),((KI 2),.box akW),((KI 3),.row tJ m4 []),YP,ado,UY,Qy,ac9,((KI 9),.row tJ m4 []),YQ,((KI 11),.row tS mS []),adg,adf,((KI 14),.row tB m2 [])]
def yG8:List (Key×Ch):=[YU,akX,ak1,iB,((KI 4),.row tJ m4 []),UR,((KI 6),.row tS mS []),Qy,((KI 8),.row tW m5 []),((KI 9),.row tB m2 []),((KI 10),.row tJ m4 []),((KI 11),.row tC m2 []),((KI 12),.row tS mS []),adf,((KI 14),.row tW m5 []),((KI 15),.row tB m2 [])]
def yG4:List (Key×Ch):=[YU,akX,ak1,iB,agK,UR,((KI 6),.row tS [.F,.O [.F,.F,.O m3],.F,.O m2,.O [.F,.F,.O m3]] []),((KI 7),.row tW [.F,.F,.F,.O m3,.F] []),((KI 8),.row tW [.F,.F,.F,.O m3,.F] []),((KI 9),.row tB [.F,.O m3] []),((KI 10),.row tJ [.F,.O m3,.F,.O [.F]] []),((KI 11),.row tC m2 []),((KI 12),.row tS [.F,.O [.F,.F,.O m3],.F,.O m2,.O [.F,.F,.O m3]] []),agL,((KI 14),.row tW [.F,.F,.F,.O m3,.F] []),((KI 15),.row tB [.F,.O m3] [])]
def aL:Nat->K7
 | 0=>Lx
 | m+1=>fun x0 k0=>cond (decide (x0.rows.length * 3<=ak)) (k0 (wL x0)) .bad
def iw:List Arg:=[.one (.dz tO [])]
def mX (m:Nat) (vs:List T) (k:fV->An):An:=aL m (vs.headD dflt) (fun z0=>k ⟨[.one (.own [7000000] tO m3 z0.rows)],[[none]],[]⟩)
theorem uj (m:Nat) : ∀ vs k,jS CX aD m 76 (fArgs iw vs) k=mX m vs k:=by
 intro vs k
 cases m with
 | zero=>rfl
 | succ m =>
  refine Eq.trans (b:=((oC tO) (fArgs iw vs)).bind k) (by kernel_rfl) ?_
  refine Eq.trans (b:=(cond (decide ((vs.headD dflt).rows.length * 3<=ak)) (R3.ok ⟨[.one (.own [7000000] tO m3 (vs.headD dflt).rows)],[[none]],[]⟩) .bad).bind k) (by kernel_rfl) ?_
  rw [gG]; rfl
def uQ:PS CX aD:=pS PS0 ⟨76,iw,mX⟩ uj
def gW:Nat->K7
 | 0=>Lx
 | m+1=>fun x0 k0=>cond (decide (x0.rows.length * 1<=ak)) (k0 (wL x0)) .bad
def nu:List Arg:=[.one (.dz tI [])]
def sj (m:Nat) (vs:List T) (k:fV->An):An:=gW m (vs.headD dflt) (fun z0=>k ⟨[.one (.own [7000000] tI [.F] z0.rows)],[[none]],[]⟩)
theorem zG (m:Nat) : ∀ vs k,jS CX aD m 118 (fArgs nu vs) k=sj m vs k:=by
 intro vs k
 cases m with
 | zero=>rfl
 | succ m =>
  refine Eq.trans (b:=((oC tI) (fArgs nu vs)).bind k) (by kernel_rfl) ?_
  refine Eq.trans (b:=(cond (decide ((vs.headD dflt).rows.length * 1<=ak)) (R3.ok ⟨[.one (.own [7000000] tI [.F] (vs.headD dflt).rows)],[[none]],[]⟩) .bad).bind k) (by kernel_rfl) ?_
  rw [gG]; rfl
def Ap:PS CX aD:=pS uQ ⟨118,nu,sj⟩ zG
def bV:Nat->K7
 | 0=>Lx
 | m+1=>fun x0 k0=>cond (decide (x0.rows.length * 2<=ak)) (k0 (wL x0)) .bad
def dY:List Arg:=[.one (.dz tC [])]
def iW (m:Nat) (vs:List T) (k:fV->An):An:=bV m (vs.headD dflt) (fun z0=>k ⟨[.one (.own [7000000] tC m2 z0.rows)],[[none]],[]⟩)
theorem oV (m:Nat) : ∀ vs k,jS CX aD m 119 (fArgs dY vs) k=iW m vs k:=by
 intro vs k
 cases m with
 | zero=>rfl
 | succ m =>
  refine Eq.trans (b:=((oC tC) (fArgs dY vs)).bind k) (by kernel_rfl) ?_
  refine Eq.trans (b:=(cond (decide ((vs.headD dflt).rows.length * 2<=ak)) (R3.ok ⟨[.one (.own [7000000] tC m2 (vs.headD dflt).rows)],[[none]],[]⟩) .bad).bind k) (by kernel_rfl) ?_
  rw [gG]; rfl
def pK:PS CX aD:=pS Ap ⟨119,dY,iW⟩ oV
def bM:Nat->K7
 | 0=>Lx
 | m+1=>fun x0 k0=>cond (decide (x0.rows.length * 2<=ak)) (k0 (wL x0)) .bad
def fQ:List Arg:=[.one (.dz tP [])]
def kJ (m:Nat) (vs:List T) (k:fV->An):An:=bM m (vs.headD dflt) (fun z0=>k ⟨[.one (.own [7000000] tP m2 z0.rows)],[[none]],[]⟩)
theorem qF (m:Nat) : ∀ vs k,jS CX aD m 47 (fArgs fQ vs) k=kJ m vs k:=by
 intro vs k
 cases m with
 | zero=>rfl
 | succ m =>
  refine Eq.trans (b:=((oC tP) (fArgs fQ vs)).bind k) (by kernel_rfl) ?_
  refine Eq.trans (b:=(cond (decide ((vs.headD dflt).rows.length * 2<=ak)) (R3.ok ⟨[.one (.own [7000000] tP m2 (vs.headD dflt).rows)],[[none]],[]⟩) .bad).bind k) (by kernel_rfl) ?_
  rw [gG]; rfl
def rA:PS CX aD:=pS pK ⟨47,fQ,kJ⟩ qF
def uO:Nat->K7
 | 0=>Lx
 | m+1=>fun x0 k0=>k0 (T.l (zC x0.rows))
def Ci:List Arg:=[.one (.own tI [.F] [])]
def HZ (m:Nat) (vs:List T) (k:fV->An):An:=uO m (vs.headD dflt) (fun z0=>k ⟨[],[[some (tI,[.F],z0.rows)]],[]⟩)
theorem QI (m:Nat) : ∀ vs k,jS CX aD m 40 (fArgs Ci vs) k=HZ m vs k:=by
 intro vs k
 cases m with
 | zero=>rfl
 | succ m =>
  refine Eq.trans (b:=(FK (fArgs Ci vs)).bind k) (by kernel_rfl) ?_
  rfl
def Tw:PS CX aD:=pS rA ⟨40,Ci,HZ⟩ QI
def slices_Compact:Nat->K7
 | 0=>Lx
 | m+1=>fun x0 k0=>k0 (T.l (qC x0.rows))
def vV:List Arg:=[.one (.own tI [.F] [])]
def CU (m:Nat) (vs:List T) (k:fV->An):An:=slices_Compact m (vs.headD dflt) (fun z0=>k ⟨[.one (.own [7000000] tI [.F] z0.rows)],[[none]],[]⟩)
theorem Kh (m:Nat) : ∀ vs k,jS CX aD m 42 (fArgs vV vs) k=CU m vs k:=by
 intro vs k
 cases m with
 | zero=>rfl
 | succ m =>
  refine Eq.trans (b:=(xq (fArgs vV vs)).bind k) (by kernel_rfl) ?_
  rfl
def LG:PS CX aD:=pS Tw ⟨42,vV,CU⟩ Kh
def gy:Nat->SS
 | 0=>Tv
 | m+1=>fun x0 x1 x2 k0=>cond (decide (0<=x1.int/\x1.int<=(x0.rows.length:Int))&&decide (0<x2.rows.length)&&decide ((x0.rows.length+x2.rows.length) * 2<=ak)) (k0 (T.l (x0.rows.take x1.int.toNat++x2.rows++x0.rows.drop x1.int.toNat))) .bad
def fF:List Arg:=[.one (.own tP m2 []),.one (AI),.one (.own tP m2 [])]
def jZ (m:Nat) (vs:List T) (k:fV->An):An:=gy m (vs.headD dflt) (vs.tail.headD dflt) (vs.tail.tail.headD dflt) (fun z0=>k ⟨[.one (.own [7000000] tP m2 z0.rows)],[[none],[none],[none]],[]⟩)
theorem ql (m:Nat) : ∀ vs k,jS CX aD m 92 (fArgs fF vs) k=jZ m vs k:=by
 intro vs k
 cases m with
 | zero=>rfl
 | succ m =>
  refine Eq.trans (b:=((zD tP) (fArgs fF vs)).bind k) (by kernel_rfl) ?_
  refine Eq.trans (b:=(cond (decide (0<=(vs.tail.headD dflt).int/\(vs.tail.headD dflt).int<=((vs.headD dflt).rows.length:Int))&&decide (0<(vs.tail.tail.headD dflt).rows.length)&&decide (((vs.headD dflt).rows.length+(vs.tail.tail.headD dflt).rows.length) * 2<=ak)) (R3.ok ⟨[.one (.own [7000000] tP m2 ((vs.headD dflt).rows.take (vs.tail.headD dflt).int.toNat++(vs.tail.tail.headD dflt).rows++(vs.headD dflt).rows.drop (vs.tail.headD dflt).int.toNat))],[[none],[none],[none]],[]⟩) .bad).bind k) (by kernel_rfl) ?_
  rw [gG]; rfl
def qG:PS CX aD:=pS LG ⟨92,fF,jZ⟩ ql
def Bd:Nat->EF
 | 0=>ES
 | m+1=>fun x0 x1 k0=>cond (decide (x0.rows.length * 2<=ak)) (k0 (T.l (Bb x0.rows x1))) .bad
def Cj:List Arg:=[.one (.dz tP []),.one (AS)]
def H6 (m:Nat) (vs:List T) (k:fV->An):An:=Bd m (vs.headD dflt) (vs.tail.headD dflt) (fun z0=>k ⟨[.one (.own [7000000] tP m2 z0.rows)],[[none],[none]],[]⟩)
theorem QJ (m:Nat) : ∀ vs k,jS CX aD m 49 (fArgs Cj vs) k=H6 m vs k:=by
 intro vs k
 cases m with
 | zero=>rfl
 | succ m =>
  refine Eq.trans (b:=(zF (fArgs Cj vs)).bind k) (by kernel_rfl) ?_
  refine Eq.trans (b:=(cond (decide ((vs.headD dflt).rows.length * 2<=ak)) (R3.ok ⟨[.one (.own [7000000] tP m2 (Bb (vs.headD dflt).rows (vs.tail.headD dflt)))],[[none],[none]],[]⟩) .bad).bind k) (by kernel_rfl) ?_
  rw [gG]; rfl
def Tx:PS CX aD:=pS qG ⟨49,Cj,H6⟩ QJ
def aX:Nat->SS
 | 0=>Tv
 | m+1=>fun x0 x1 x2 k0=>cond (decide (0<=x1.int/\x1.int<x2.int/\x2.int<=(x0.rows.length:Int))) (k0 (T.l (x0.rows.take x1.int.toNat++x0.rows.drop x2.int.toNat))) .bad
def gB:List Arg:=[.one (.own tR m3 []),.one (AI),.one (AI)]
def lM (m:Nat) (vs:List T) (k:fV->An):An:=aX m (vs.headD dflt) (vs.tail.headD dflt) (vs.tail.tail.headD dflt) (fun z0=>k ⟨[.one (.own [7000000] tR m3 z0.rows)],[[none],[none],[none]],[]⟩)
theorem rD (m:Nat) : ∀ vs k,jS CX aD m 184 (fArgs gB vs) k=lM m vs k:=by
 intro vs k
 cases m with
 | zero=>rfl
 | succ m =>
  refine Eq.trans (b:=((uh tR) (fArgs gB vs)).bind k) (by kernel_rfl) ?_
  refine Eq.trans (b:=(cond (decide (0<=(vs.tail.headD dflt).int/\(vs.tail.headD dflt).int<(vs.tail.tail.headD dflt).int/\(vs.tail.tail.headD dflt).int<=((vs.headD dflt).rows.length:Int))) (R3.ok ⟨[.one (.own [7000000] tR m3 ((vs.headD dflt).rows.take (vs.tail.headD dflt).int.toNat++(vs.headD dflt).rows.drop (vs.tail.tail.headD dflt).int.toNat))],[[none],[none],[none]],[]⟩) .bad).bind k) (by kernel_rfl) ?_
  rw [gG]; rfl
def sD:PS CX aD:=pS Tx ⟨184,gB,lM⟩ rD
def bR:Nat->SS
 | 0=>Tv
 | m+1=>fun x0 x1 x2 k0=>cond (decide (0<=x1.int/\x1.int<x2.int/\x2.int<=(x0.rows.length:Int))) (k0 (T.l (x0.rows.take x1.int.toNat++x0.rows.drop x2.int.toNat))) .bad
def fG:List Arg:=[.one (.own tW m5 []),.one (AI),.one (AI)]
def kg (m:Nat) (vs:List T) (k:fV->An):An:=bR m (vs.headD dflt) (vs.tail.headD dflt) (vs.tail.tail.headD dflt) (fun z0=>k ⟨[.one (.own [7000000] tW m5 z0.rows)],[[none],[none],[none]],[]⟩)
theorem qm (m:Nat) : ∀ vs k,jS CX aD m 131 (fArgs fG vs) k=kg m vs k:=by
 intro vs k
 cases m with
 | zero=>rfl
 | succ m =>
  refine Eq.trans (b:=((uh tW) (fArgs fG vs)).bind k) (by kernel_rfl) ?_
  refine Eq.trans (b:=(cond (decide (0<=(vs.tail.headD dflt).int/\(vs.tail.headD dflt).int<(vs.tail.tail.headD dflt).int/\(vs.tail.tail.headD dflt).int<=((vs.headD dflt).rows.length:Int))) (R3.ok ⟨[.one (.own [7000000] tW m5 ((vs.headD dflt).rows.take (vs.tail.headD dflt).int.toNat++(vs.headD dflt).rows.drop (vs.tail.tail.headD dflt).int.toNat))],[[none],[none],[none]],[]⟩) .bad).bind k) (by kernel_rfl) ?_
  rw [gG]; rfl
def qH:PS CX aD:=pS sD ⟨131,fG,kg⟩ qm
def yF:Nat->yA3
 | 0=>yZ3
 | m+1=>fun x0 x1 x2 x3 x4 x5 x6 x7 x8 x9 k0=>cond (decide ((vT x6.rows).length<=ak)) (k0 (T.b (nsB (vT x6.rows)))) .bad
def zH:List Arg:=[.agg [AI,AI,AI,.dz tJ [],.dz tC [],AI,.dz tS [],.dz tW [],.dz tW [],.dz tB []]]
def FQ (m:Nat) (vs:List T) (k:fV->An):An:=yF m (vs.headD dflt) (vs.tail.headD dflt) (vs.tail.tail.headD dflt) (vs.tail.tail.tail.headD dflt) (vs.tail.tail.tail.tail.headD dflt) (vs.tail.tail.tail.tail.tail.headD dflt) (vs.tail.tail.tail.tail.tail.tail.headD dflt) (vs.tail.tail.tail.tail.tail.tail.tail.headD dflt) (vs.tail.tail.tail.tail.tail.tail.tail.tail.headD dflt) (vs.tail.tail.tail.tail.tail.tail.tail.tail.tail.headD dflt) (fun z0=>k ⟨[.one (.sc (.bool) z0)],[List.replicate 10 none],[]⟩)
theorem ND (m:Nat) : ∀ vs k,jS CX aD m 51 (fArgs zH vs) k=FQ m vs k:=by
 intro vs k
 cases m with
 | zero=>rfl
 | succ m =>
  refine Eq.trans (b:=(xu (fArgs zH vs)).bind k) (by kernel_rfl) ?_
  refine Eq.trans (b:=(cond (decide ((vT (vs.tail.tail.tail.tail.tail.tail.headD dflt).rows).length<=ak)) (R3.ok ⟨[.one (.sc (.bool) (.b (nsB (vT (vs.tail.tail.tail.tail.tail.tail.headD dflt).rows))))],[List.replicate 10 none],[]⟩) .bad).bind k) (by kernel_rfl) ?_
  rw [gG]; rfl
def QK:PS CX aD:=pS qH ⟨51,zH,FQ⟩ ND
def Ki:Nat->K7
 | 0=>Lx
 | m+1=>fun x0 k0 =>
  k0 (T.b (decide ((x0.rows.length:Int) > 1048576)))
def abm:PS CX aD:=eF QK (FN 7 [.one (.dz tU [])] 1 1 Ki [.one (RB)]) Tryz.f7 ⟨7,1,6,4⟩
def lq (m:Nat):Nat->T->T->T->(T->T->An)->An
 | 0,_,_,_,_=>.bad
 | n+1,x0,x1,x2,k0 =>
  jn (fun (j1:An) =>
  cond ((decide (x2.int<(x0.rows.length:Int)))==true)
  (cond (decide (x2.int<4000))
  (j1)
  (k0 x0 x1))
  (k0 x0 x1))
  (aQ x2 x0
  (lq m n x0 (kX .i64 (BitVec.ofInt IntKind.i64.bits (IntKind.i64.wrap ((IntKind.i64.wrap ((IntKind.i64.wrap (x1.int * 137))+(IntKind.i64.wrap (aG x0 x2 0).int)))+11)) &&& BitVec.ofInt IntKind.i64.bits 1073741823)) (aT x2) k0))
def Ed:Nat->yA4
 | 0=>yZ4
 | m+1=>fun x0 k0 =>
  lq m m (wL x0) (T.i (IntKind.i64.wrap (381381+(x0.rows.length:Int)))) (T.i 0)
  (fun y2 y3=>k0 (wL y2) (T.i 0) y3)
def WU:PS CX aD:=eF abm (FN 30 [.one (.fz tU [])] 1 3 Ed [.bx [2000031] [.fz tU [],RI,RI]]) Tryz.f30 ⟨30,1,32,4⟩ [L1 jT ⟨[(0,.one (LZ tU)),(3,.one (LI)),(4,.one (LI))],[]⟩ 3 2 lq (.exit 0) ⟨[(0,.one (LZ tU)),(3,.one (LI))],[]⟩]
def oO:Nat->yA5
 | 0=>yZ5
 | m+1=>fun x0 x1 x2 k0 =>
  jl x1 x0
  (aQ x1 x0
  (k0 (kX .i64 (BitVec.ofInt IntKind.i64.bits (IntKind.i64.wrap ((kX .i64 (BitVec.ofInt IntKind.i64.bits (kX .i64 (BitVec.ofInt IntKind.i64.bits (Int.fdiv (IntKind.i64.wrap ((IntKind.i64.wrap (x2.int * 6364136223846793005))+1442695040888963407)) (2 ^ (min (Int.toNat 33) IntKind.i64.bits))) ^^^ BitVec.ofInt IntKind.i64.bits (Int.fdiv (IntKind.i64.wrap ((IntKind.i64.wrap (x2.int * 6364136223846793005))+1442695040888963407)) (2 ^ (min (Int.toNat 47) IntKind.i64.bits))))).int &&& BitVec.ofInt IntKind.i64.bits 255)).int+(IntKind.i64.wrap (aG x0 x1 0).int))) &&& BitVec.ofInt IntKind.i64.bits 255)) (wL x0) (aT x1) (T.i (IntKind.i64.wrap ((IntKind.i64.wrap (x2.int * 6364136223846793005))+1442695040888963407)))))
  (k0 (kX .i64 (BitVec.ofInt IntKind.i64.bits (kX .i64 (BitVec.ofInt IntKind.i64.bits (Int.fdiv (IntKind.i64.wrap ((IntKind.i64.wrap (x2.int * 6364136223846793005))+1442695040888963407)) (2 ^ (min (Int.toNat 33) IntKind.i64.bits))) ^^^ BitVec.ofInt IntKind.i64.bits (Int.fdiv (IntKind.i64.wrap ((IntKind.i64.wrap (x2.int * 6364136223846793005))+1442695040888963407)) (2 ^ (min (Int.toNat 47) IntKind.i64.bits))))).int &&& BitVec.ofInt IntKind.i64.bits 255)) (wL x0) x1 (T.i (IntKind.i64.wrap ((IntKind.i64.wrap (x2.int * 6364136223846793005))+1442695040888963407))))
def Tz:PS CX aD:=eF WU (F1 108 ac4 3 4 oO ⟨[.one (RI)],[CR],ac5⟩) Tryz.f108 ⟨108,1,58,5⟩
def bY:Nat->yA6
 | 0=>yZ6
 | m+1=>fun x0 x1 x2 x3 k0 =>
  cond (decide (x3.int<=0))
  (k0 (T.i 0) (wL x0) x1 x2)
  (cond (decide (x3.int<=256))
  (oO m (wL x0) x1 x2
  (fun y0 y1 y2 y3=>cond (!decide (x3.int=0))
  (k0 (T.i (Int.tmod y0.int x3.int)) (wL y1) y2 y3)
  (.bad)))
  (oO m (wL x0) x1 x2
  (fun y4 y5 y6 y7=>oO m (wL y5) y6 y7
  (fun y8 y9 mF mK=>oO m (wL y9) mF mK
  (fun mM y13 nS qo=>cond (!decide (x3.int=0))
  (k0 (T.i (Int.tmod (IntKind.i64.wrap ((IntKind.i64.wrap ((IntKind.i64.wrap (y4.int * 65536))+(IntKind.i64.wrap (y8.int * 256))))+mM.int)) x3.int)) (wL y13) nS qo)
  (.bad))))))
def QL:PS CX aD:=eF Tz (F1 62 agD 4 4 bY ake) Tryz.f62 ⟨62,2,31,17⟩
def vW:Nat->yA6
 | 0=>yZ6
 | m+1=>fun x0 x1 x2 x3 k0 =>
  bY m (wL x0) x1 x2 (T.i (x3.rows.length:Int))
  (fun y0 y1 y2 y3=>aQ y0 x3
  (k0 (aG x3 y0 0) (wL y1) y2 y3))
def WV:PS CX aD:=eF QL (F1 101 [YN,.one (.dz tI [])] 4 4 vW ake) Tryz.f101 ⟨101,2,12,17⟩
def gH:Nat->SS
 | 0=>Tv
 | m+1=>fun x0 x1 x2 k0 =>
  cond ((decide (x0.int>=x1.int))==true)
  (k0 (T.b (decide (x0.int<=x2.int))))
  (k0 (T.b false))
def YV:PS CX aD:=eF WV (FN 112 [.one (AI),.one (AI),.one (AI)] 3 1 gH [.one (RB)]) Tryz.f112 ⟨112,3,15,64⟩
def wE:Nat->T->(T->T->T->T->T->T->An)->An
 | 0,_,_=>.bad
 | m+1,x0,k0 =>
  gH m x0 (T.i 1) (T.i 8)
  (fun y0=>cond (!y0.bool)
  (k0 (T.i 0) (T.i 0) (T.i 0) (T.l []) (T.l []) (T.i 0))
  (k0 x0 (T.i 1) (T.i 0) (T.l []) (T.l []) (T.i 0)))
def NG:PS CX aD:=eF YV (FN 155 [.one (AI)] 1 6 wE akx) Tryz.f155 ⟨155,1,9,4⟩
def Ck:Nat->T->(T->T->T->T->T->An)->An
 | 0,_,_=>.bad
 | m+1,x0,k0 =>
  gH m x0 (T.i 0) (T.i 7)
  (fun y0=>cond (!y0.bool)
  (k0 (T.i 0) (T.l []) (T.i 0) (T.l []) (T.l []))
  (k0 x0 (T.l []) (T.i 0) (T.l []) (T.l [])))
def NH:PS CX aD:=eF NG (FN 156 [.one (AI)] 1 5 Ck akK) Tryz.f156 ⟨156,1,9,4⟩
def jm (m:Nat):Nat->T->T->T->T->T->T->T->T->T->T->T->T->T->T->T->T->T->T->T->T->T->T->T->T->(T->T->T->T->T->T->T->T->T->T->T->T->T->T->T->T->T->T->T->T->T->T->An)->An
 | 0,_,_,_,_,_,_,_,_,_,_,_,_,_,_,_,_,_,_,_,_,_,_,_,_,_=>.bad
 | n+1,x0,x1,x2,x3,x4,x5,x6,x7,x8,x9,x10,bC,dw,dO,fO,kF,mO,mY,x18,nC,x20,x21,vg,x23,k0 =>
  cond (decide (x3.int<x0.int))
  (Ck m x3
  (fun y7 y8 y9 mF mK=>cond (decide ((x20.rows.length+1) * 5<=ak))
  (jm m n x0 (T.i (x1.int.toNat:Int)) (T.i (x2.int.toNat:Int)) (aT x3) x4 x5 x6 x7 x8 x9 x10 bC (wL dw) (wL dO) (wL fO) (wL kF) (wL mO) (wL mY) (wL x18) (wL nC) (T.l (x20.rows++[[y7,(wL y8),y9,(wL mF),(wL mK)]])) (wL x21) (wL vg) (wL x23) k0)
  (.bad)))
  (k0 (T.i (x1.int.toNat:Int)) (T.i (x2.int.toNat:Int)) x4 x5 x6 x7 x8 x9 x10 bC (wL dw) (wL dO) (wL fO) (wL kF) (wL mO) (wL mY) (wL x18) (wL nC) (wL x20) (wL x21) (wL vg) (wL x23))
def wF:Nat->T->(T->T->T->T->T->T->T->T->T->T->An)->An
 | 0,_,_=>.bad
 | m+1,x0,k0 =>
  gH m x0 (T.i 1) (T.i 8)
  (fun y0=>cond (!y0.bool)
  (k0 (T.i 0) (T.i 0) (T.i 0) (T.l []) (T.l []) (T.i 0) (T.l []) (T.l []) (T.l []) (T.l []))
  (wE m x0
  (fun y1 y2 y3 y4 y5 y6=>jm m m x0 (T.i 0) (T.i 0) (T.i 0) (T.i 0) (T.i 0) (T.i 0) (T.i 0) y1 y2 y3 y6 (T.l []) (T.l []) (T.l []) (T.l []) (T.l []) (T.l []) (wL y4) (wL y5) (T.l []) (T.l []) (T.l []) (T.l [])
  (fun mM y13 nS qo sF qU su xJ y20 y21 y22 y23 y24 y25 EX y27 y28 y29 EY y31 y32 EZ=>k0 su xJ y20 (wL y28) (wL y29) y21 (wL EY) (wL y31) (wL y32) (wL EZ)))))
def NI:PS CX aD:=eF NH (FN 100 [.one (AI)] 1 10 wF ag0) Tryz.f100 ⟨100,1,25,4⟩ [L1 Bc ⟨[(0,.one (LI)),(2,EP 0),(3,EP 1),(4,.one (LI))],apn⟩ 24 22 jm (.exit 0) apo]
def Bf:Nat->yA6
 | 0=>yZ6
 | m+1=>fun x0 x1 x2 x3 k0 =>
  bY m (wL x0) x1 x2 x3
  (fun y0 y1 y2 y3=>k0 (T.b (y0.int==0)) (wL y1) y2 y3)
def TA:PS CX aD:=eF NI (F1 109 agD 4 4 Bf ⟨[.one (RB)],ac2,YO⟩) Tryz.f109 ⟨109,2,9,17⟩
def zI:Nat->yA6
 | 0=>yZ6
 | m+1=>fun x0 x1 x2 x3 k0 =>
  bY m (wL x0) x1 x2 (T.i (x3.rows.length:Int))
  (fun y0 y1 y2 y3=>aQ y0 x3
  (k0 (aG x3 y0 0) (wL y1) y2 y3))
def WW:PS CX aD:=eF TA (F1 117 [YN,.one (.dz tT [])] 4 4 zI ⟨[.one (RS)],ac2,YO⟩) Tryz.f117 ⟨117,2,12,17⟩
def Ee:Nat->yA5
 | 0=>yZ5
 | m+1=>fun x0 x1 x2 k0 =>
  zI m (wL x0) x1 x2 (T.l [[(T.s (⟨#[97]⟩:ByteArray))],[(T.s (⟨#[98]⟩:ByteArray))],[(T.s (⟨#[99]⟩:ByteArray))],[(T.s (⟨#[107,49]⟩:ByteArray))],[(T.s (⟨#[107,50]⟩:ByteArray))],[(T.s (⟨#[109]⟩:ByteArray))],[(T.s (⟨#[122]⟩:ByteArray))]])
  (fun y0 y1 y2 y3=>k0 y0 (wL y1) y2 y3)
def WX:PS CX aD:=eF WW (F1 68 ac4 3 4 Ee ⟨[.one (RS)],[CR],ac5⟩) Tryz.f68 ⟨68,1,6,5⟩
def zJ:Nat->T->T->T->(T->T->T->T->T->T->An)->An
 | 0,_,_,_,_=>.bad
 | m+1,x0,x1,x2,k0 =>
  vW m (wL x0) x1 x2 (T.l [[(T.i 1)],[(T.i 1)],[(T.i 1)],[(T.i 2)],[(T.i 3)]])
  (fun y0 y1 y2 y3=>Ee m (wL y1) y2 y3
  (fun y4 y5 y6 y7=>cond (y0.int != 2)
  (zI m (wL y5) y6 y7 (T.l [[(T.s (⟨#[49]⟩:ByteArray))],[(T.s (⟨#[50]⟩:ByteArray))],[(T.s (⟨#[120]⟩:ByteArray))],[(T.s (⟨#[]⟩:ByteArray))],[(T.s (⟨#[49]⟩:ByteArray))]])
  (fun y8 y9 mF mK=>k0 y0 y4 y8 (wL y9) mF mK))
  (k0 y0 y4 (T.s (⟨#[]⟩:ByteArray)) (wL y5) y6 y7)))
def WY:PS CX aD:=eF WX (F1 71 ac4 3 6 zJ ⟨[.agg [RI,RS,RS]],[CR],ac5⟩) Tryz.f71 ⟨71,1,18,5⟩
def iX (m:Nat):Nat->T->T->T->T->T->T->T->T->(T->T->T->T->T->T->An)->An
 | 0,_,_,_,_,_,_,_,_,_=>.bad
 | n+1,x0,x1,x2,x3,x4,x5,x6,x7,k0 =>
  jl x3 x0
  (jn (fun (j3:T->T->An) =>
  cond ((!x2.bool)==true)
  (aQ x3 x0
  (cond (!(Op.bytesLess (uM x0 x3 1).str.toList x5.str.toList))
  (cond (decide ((x7.rows.length+1) * 3<=ak))
  (j3 (T.b true) (T.l (x7.rows++[[x4,x5,x6]])))
  (.bad))
  (j3 x2 (wL x7))))
  (j3 x2 (wL x7)))
  (fun y1 y2=>aQ x3 x0
  (cond (!((uM x0 x3 1).str.toList==x5.str.toList))
  (aQ x3 x0
  (cond (decide ((y2.rows.length+1) * 3<=ak))
  (iX m n x0 (T.i (x1.int.toNat:Int)) y1 (aT x3) x4 x5 x6 (T.l (y2.rows++[[(aG x0 x3 0),(aG x0 x3 1),(aG x0 x3 2)]])) k0)
  (.bad)))
  (iX m n x0 (T.i (x1.int.toNat:Int)) y1 (aT x3) x4 x5 x6 (wL y2) k0))))
  (k0 (T.i (x1.int.toNat:Int)) x2 x4 x5 x6 (wL x7))
def zK:Nat->yA7
 | 0=>yZ7
 | m+1=>fun x0 x1 x2 x3 k0 =>
  iX m m (wL x0) (T.i 0) (T.b false) (T.i 0) x1 x2 x3 (T.l [])
  (fun y8 y9 mF mK mM y13=>cond (!y9.bool)
  (cond (decide ((y13.rows.length+1) * 3<=ak))
  (k0 (T.l (y13.rows++[[mF,mK,mM]])))
  (.bad))
  (k0 (wL y13)))
def WZ:PS CX aD:=eF WY (FN 70 [qE,.agg [AI,AS,AS]] 4 1 zK YT) Tryz.f70 ⟨70,2,53,16⟩ [L1 Bc ⟨[(0,.one (LD tO)),(3,EP 1),(5,.one (LA (KI 2) tO)),(6,.one (LB)),(7,.one (LI))],[iB,((KI 1),.box [LI,LS,LS]),((KI 2),.row tO m3 [])]⟩ 8 6 iX (.exit 0) ⟨[(3,EP 0),(5,.one (LA (KI 1) tO)),(6,.one (LB))],[((KI 0),.box [LI,LS,LS]),((KI 1),.row tO m3 [])]⟩]
def lW (m:Nat):Nat->T->T->T->T->T->T->(T->T->T->T->T->An)->An
 | 0,_,_,_,_,_,_,_=>.bad
 | n+1,x0,x1,x2,x3,x4,x5,k0 =>
  cond (decide (x1.int > 0))
  (zJ m (wL x2) x3 x4
  (fun y4 y5 y6 y7 y8 y9=>zK m (wL x5) y4 y5 y6
  (fun mF=>lW m n (T.i (x0.int.toNat:Int)) (T.i (IntKind.i64.wrap (x1.int-1))) (wL y7) y8 y9 (wL mF) k0)))
  (k0 (T.i (x0.int.toNat:Int)) x2 x3 x4 (wL x5))
def xA:Nat->yA5
 | 0=>yZ5
 | m+1=>fun x0 x1 x2 k0 =>
  bY m (wL x0) x1 x2 (T.i 4)
  (fun y0 y1 y2 y3=>lW m m (T.i 0) (T.i (IntKind.i64.wrap (1+y0.int))) (wL y1) y2 y3 (T.l [])
  (fun mK mM y13 nS qo=>k0 (wL qo) (wL mM) y13 nS))
def TB:PS CX aD:=eF WZ (F1 32 ac4 3 4 xA ⟨YT,[CR],ac5⟩) Tryz.f32 ⟨32,1,18,5⟩ [L1 jT ⟨[(0,.ptr [0,999999] 0 0 0),(3,.one (LA (KI 1) tO)),(4,.one (LI))],akj⟩ 6 5 lW (.exit 0) ⟨[(0,.ptr [0,999999] 0 0 0),(3,.one (LA (KI 1) tO))],akj⟩]
def nU:Nat->T->T->T->T->T->T->T->T->T->T->T->T->T->(T->T->T->T->T->T->T->An)->An
 | 0,_,_,_,_,_,_,_,_,_,_,_,_,_,_=>.bad
 | m+1,x0,x1,x2,x3,x4,x5,x6,x7,x8,x9,x10,bC,dw,k0 =>
  jn (fun (j16:T->T->T->T->An) =>
  cond ((decide ((x10.rows.length:Int) > 0))==true)
  (Bf m (wL x0) x1 x2 (T.i 2)
  (fun y0 y1 y2 y3=>j16 (T.b y0.bool) (wL y1) y2 y3))
  (j16 (T.b false) (wL x0) x1 x2))
  (fun y4 y5 y6 y7=>cond y4.bool
  (vW m (wL y5) y6 y7 (T.l [[(T.i 2)],[(T.i 2)],[(T.i 2)],[(T.i 2)],[(T.i 2)],[(T.i 2)],[(T.i 3)],[(T.i 4)]])
  (fun y8 y9 mF mK=>bY m (wL y9) mF mK (T.i (x10.rows.length:Int))
  (fun mM y13 nS qo=>k0 y8 mM (T.i 0) (T.l []) (wL y13) nS qo)))
  (bY m (wL y5) y6 y7 (T.i (x9.rows.length:Int))
  (fun qU su xJ y20=>bY m (wL su) xJ y20 (T.i 14)
  (fun y21 y22 y23 y24=>jn (fun (j44:T->An) =>
  cond (y21.int==0)
  (j44 (T.b true))
  (cond (y21.int==1)
  (j44 (T.b true))
  (j44 (T.b (y21.int==2)))))
  (fun y25=>cond y25.bool
  (xA m (wL y22) y23 y24
  (fun EX y27 y28 y29=>k0 (T.i 1) (T.i 0) (T.i 0) (wL EX) (wL y27) y28 y29))
  (jn (fun (j43:T->An) =>
  cond (y21.int==3)
  (j43 (T.b true))
  (cond (y21.int==4)
  (j43 (T.b true))
  (cond (y21.int==5)
  (j43 (T.b true))
  (j43 (T.b (y21.int==6))))))
  (fun EY=>cond EY.bool
  (k0 (T.i 5) qU (T.i 0) (T.l []) (wL y22) y23 y24)
  (jn (fun (j42:T->An) =>
  cond (y21.int==7)
  (j42 (T.b true))
  (j42 (T.b (y21.int==8))))
  (fun y31=>cond y31.bool
  (k0 (T.i 6) (T.i 0) (T.i 0) (T.l []) (wL y22) y23 y24)
  (jn (fun (j41:T->An) =>
  cond (y21.int==9)
  (j41 (T.b true))
  (j41 (T.b (y21.int==10))))
  (fun y32=>cond y32.bool
  (k0 (T.i 7) (T.i 0) (T.i 0) (T.l []) (wL y22) y23 y24)
  (cond (y21.int==11)
  (k0 (T.i 8) qU (T.i 0) (T.l []) (wL y22) y23 y24)
  (cond (y21.int==12)
  (bY m (wL y22) y23 y24 (T.i 3)
  (fun EZ y34 H7 GN=>k0 (T.i 9) qU EZ (T.l []) (wL y34) H7 GN))
  (bY m (wL y22) y23 y24 (T.i 3)
  (fun GQ y38 y39 H8=>k0 (T.i 10) (T.i 0) GQ (T.l []) (wL y38) y39 H8)))))))))))))))
def NJ:PS CX aD:=eF TB (F1 63 [YN,adq] 13 7 nU ⟨[.agg [RI,RI,RI,.own (KR 0 3) tO m3 []]],[CR,YS],YO⟩) Tryz.f63 ⟨63,2,65,17⟩
def lu (m:Nat):Nat->yA8
 | 0=>yZ8
 | n+1=>fun x0 x1 k0 k1 =>
  cond (decide (x1.int<(x0.str.size:Int)))
  (cond (decide ((0:Int)<=x1.int/\x1.int<(x0.str.size:Int)))
  (gH m (T.i (IntKind.i64.wrap ((x0.str.data.toList.getD (Int.toNat x1.int) 0).toNat:Int))) (T.i 97) (T.i 122)
  (fun y0=>cond ((!y0.bool)==true)
  (cond (decide ((0:Int)<=x1.int/\x1.int<(x0.str.size:Int)))
  (gH m (T.i (IntKind.i64.wrap ((x0.str.data.toList.getD (Int.toNat x1.int) 0).toNat:Int))) (T.i 48) (T.i 57)
  (fun y1=>cond (!y1.bool)
  (k0 (T.b false))
  (lu m n x0 (aT x1) k0 k1)))
  (.bad))
  (lu m n x0 (aT x1) k0 k1)))
  (.bad))
  (k1 x0)
def Ef:Nat->K7
 | 0=>Lx
 | m+1=>fun x0 k0 =>
  lu m m x0 (T.i 0)
  (fun y3=>k0 y3)
  (fun y4=>gH m (T.i (y4.str.size:Int)) (T.i 1) (T.i 12)
  (fun y5=>k0 y5))
def W9:PS CX aD:=eF NJ (FN 213 [.one (AS)] 1 1 Ef [.one (RB)]) Tryz.f213 ⟨213,1,27,4⟩ [L2 [0,1,0,1] ⟨[(0,.one (LS)),(3,.one (LI))],[]⟩ 2 1 1 lu .ret yh (.exit 0) ⟨[(0,.one (LS))],[]⟩]
def Gt:Nat->SS
 | 0=>Tv
 | m+1=>fun x0 x1 x2 k0 =>
  gH m x0 (T.i 1) (T.i 3)
  (fun y0=>cond ((!y0.bool)==false)
  (cond ((x0.int==2)==true)
  (cond (!(x2.str.toList==(⟨#[]⟩:ByteArray).toList))
  (k0 (T.b false))
  (Ef m x1
  (fun y6=>cond (y6.bool==true)
  (k0 (T.b (decide ((x2.str.size:Int)<=20))))
  (k0 (T.b false)))))
  (Ef m x1
  (fun y8=>cond (y8.bool==true)
  (k0 (T.b (decide ((x2.str.size:Int)<=20))))
  (k0 (T.b false)))))
  (k0 (T.b false)))
def YW:PS CX aD:=eF W9 (FN 201 [.agg [AI,AS,AS]] 3 1 Gt [.one (RB)]) Tryz.f201 ⟨201,1,26,4⟩
def lC (m:Nat):Nat->yA8
 | 0=>yZ8
 | n+1=>fun x0 x1 k0 k1 =>
  jl x1 x0
  (aQ x1 x0
  (Gt m (aG x0 x1 0) (aG x0 x1 1) (aG x0 x1 2)
  (fun y0=>cond ((!y0.bool)==false)
  (cond ((decide (x1.int > 0))==true)
  (cond (decide ((0:Int)<=(IntKind.i64.wrap (x1.int-1))/\(IntKind.i64.wrap (x1.int-1))<(x0.rows.length:Int)))
  (aQ x1 x0
  (cond (!(Op.bytesLess (((x0.rows.getD (Int.toNat (IntKind.i64.wrap (x1.int-1))) []).drop 1).getD 0 dflt).str.toList (uM x0 x1 1).str.toList))
  (k0 (T.b false))
  (lC m n x0 (aT x1) k0 k1)))
  (.bad))
  (lC m n x0 (aT x1) k0 k1))
  (k0 (T.b false)))))
  (k1 x0)
def vX:Nat->K7
 | 0=>Lx
 | m+1=>fun x0 k0 =>
  lC m m (wL x0) (T.i 0)
  (fun y2=>k0 y2)
  (fun y3=>gH m (T.i (y3.rows.length:Int)) (T.i 1) (T.i 8)
  (fun y4=>k0 y4))
def Xa:PS CX aD:=eF YW (FN 188 [qE] 1 1 vX [.one (RB)]) Tryz.f188 ⟨188,1,37,4⟩ [L2 [0,1,0,1] ⟨[(0,.one (LD tO)),(3,.one (LI))],iV⟩ 2 1 1 lC .ret yh (.exit 0) ⟨[(0,.one (LD tO))],iV⟩]
def gK:Nat->K7
 | 0=>Lx
 | m+1=>fun x0 k0 =>
  cond (decide ((0+x0.rows.length) * 3<=ak))
  (k0 (wL x0))
  (.bad)
def LH:PS CX aD:=eF Xa (FN 107 [qE] 1 1 gK YT) Tryz.f107 ⟨107,1,6,4⟩
def oD (m:Nat):Nat->SS
 | 0=>Tv
 | n+1=>fun x0 x1 x2 k0 =>
  cond (decide (x2.int<(x0.str.size:Int)))
  (cond (decide ((0:Int)<=x2.int/\x2.int<(x0.str.size:Int)))
  (oD m n x0 (kX .i64 (BitVec.ofInt IntKind.i64.bits (IntKind.i64.wrap ((kX .i64 (BitVec.ofInt IntKind.i64.bits x1.int ^^^ BitVec.ofInt IntKind.i64.bits (IntKind.i64.wrap ((x0.str.data.toList.getD (Int.toNat x2.int) 0).toNat:Int)))).int * 16777619)) &&& BitVec.ofInt IntKind.i64.bits 4294967295)) (aT x2) k0)
  (.bad))
  (k0 x1)
def LJ:Nat->K7
 | 0=>Lx
 | m+1=>fun x0 k0 =>
  oD m m x0 (T.i 2166136261) (T.i 0)
  (fun y0=>k0 y0)
def YX:PS CX aD:=eF LH (FN 219 [.one (AS)] 1 1 LJ [.one (RI)]) Tryz.f219 ⟨219,1,20,4⟩ [L1 jT ⟨[(0,.one (LS)),(3,.one (LI)),(4,.one (LI))],[]⟩ 3 1 oD (.exit 0) ⟨[(3,.one (LI))],[]⟩]
def rF:Nat->EF
 | 0=>ES
 | m+1=>fun x0 x1 k0 =>
  cond (decide (x1.int<1))
  (k0 (T.i 0))
  (LJ m x0
  (fun y0=>cond (!decide (x1.int=0))
  (k0 (T.i (Int.tmod y0.int x1.int)))
  (.bad)))
def QM:PS CX aD:=eF YX (FN 211 [.one (AS),.one (AI)] 2 1 rF [.one (RI)]) Tryz.f211 ⟨211,2,11,16⟩
def nD (m:Nat):Nat->yA9
 | 0=>yZ9
 | n+1=>fun x0 x1 x2 k0 k1 =>
  jl x2 x0
  (aQ x2 x0
  (cond ((aG x0 x2 0).int==x1.int)
  (k0 (T.b true))
  (nD m n x0 x1 (aT x2) k0 k1)))
  (k1 )
def um:Nat->EF
 | 0=>ES
 | m+1=>fun x0 x1 k0 =>
  nD m m (wL x0) x1 (T.i 0)
  (fun y0=>k0 y0)
  (k0 (T.b false))
def Xb:PS CX aD:=eF QM (FN 202 agB 2 1 um [.one (RB)]) Tryz.f202 ⟨202,2,18,16⟩ [L2 [0,1,0,1] ⟨[(0,.one (LD tI)),(1,.one (LI)),(5,.one (LI))],iV⟩ 3 1 0 nD .ret xw (.exit 0) ⟨[],[]⟩]
def nE (m:Nat):Nat->amh
 | 0=>aoT
 | n+1=>fun x0 x1 x2 k0 =>
  jn (fun (j2:An) =>
  cond ((decide (x1.int > 0))==true)
  (cond (decide ((0:Int)<=(IntKind.i64.wrap (x1.int-1))/\(IntKind.i64.wrap (x1.int-1))<(x2.rows.length:Int)))
  (cond (decide ((Int.toNat (IntKind.i64.wrap (x1.int-1)))<x2.rows.length))
  (cond (decide (((x2.rows.getD (Int.toNat (IntKind.i64.wrap (x1.int-1))) []).getD 0 dflt).int > x0.int))
  (j2)
  (k0 x0 x1 (wL x2)))
  (.bad))
  (.bad))
  (k0 x0 x1 (wL x2)))
  (cond (decide ((0:Int)<=(IntKind.i64.wrap (x1.int-1))/\(IntKind.i64.wrap (x1.int-1))<(x2.rows.length:Int)))
  (cond (decide ((Int.toNat (IntKind.i64.wrap (x1.int-1)))<x2.rows.length))
  (aQ x1 x2
  (cond (decide ((Int.toNat x1.int)<x2.rows.length))
  (nE m n x0 (T.i (IntKind.i64.wrap (x1.int-1))) (T.l (x2.rows.set (Int.toNat x1.int) ((x2.rows.getD (Int.toNat x1.int) []).set 0 ((x2.rows.getD (Int.toNat (IntKind.i64.wrap (x1.int-1))) []).getD 0 dflt)))) k0)
  (.bad)))
  (.bad))
  (.bad))
def uo:Nat->EF
 | 0=>ES
 | m+1=>fun x0 x1 k0 =>
  um m (wL x0) x1
  (fun y0=>cond y0.bool
  (k0 (wL x0))
  (cond (decide ((0+x0.rows.length) * 1<=ak))
  (cond (decide ((x0.rows.length+1) * 1<=ak))
  (nE m m x1 (T.i (IntKind.i64.wrap (((x0.rows++[[x1]]).length:Int)-1))) (T.l (x0.rows++[[x1]]))
  (fun y3 y4 y5=>aQ y4 y5
  (cond (decide ((Int.toNat y4.int)<y5.rows.length))
  (k0 (T.l (y5.rows.set (Int.toNat y4.int) ((y5.rows.getD (Int.toNat y4.int) []).set 0 y3))))
  (.bad))))
  (.bad))
  (.bad)))
def Xc:PS CX aD:=eF Xb (FN 208 [.one (.fz tI []),.one (AI)] 2 1 uo [.one (.fz tI [])]) Tryz.f208 ⟨208,2,46,16⟩ [L1 [0,0,1,1,1,1] aki 3 3 nE (.exit 0) aki]
def jo (m:Nat):Nat->abg
 | 0=>aer
 | n+1=>fun x0 x1 x2 x3 k0 k1 =>
  jl x3 x0
  (aQ x3 x0
  (rF m (uM x0 x3 1) x1
  (fun y2=>uo m (wL x2) y2
  (fun y3=>jo m n x0 x1 (wL y3) (aT x3) k0 k1))))
  (k0 x2)
def oW (m:Nat):Nat->abg
 | 0=>aer
 | n+1=>fun x0 x1 x2 x3 k0 k1 =>
  jl x2 x0
  (aQ x2 x0
  (rF m (uM x0 x2 1) x1
  (fun y0=>uo m (wL x3) y0
  (fun y1=>jo m n x0 x1 (wL y1) (aT x2) k0 k1))))
  (k1 (wL x3))
def zL:Pack:=⟨[(5,.one (LZ tI))],[]⟩
def zM:Pack:=⟨[(5,.one (LA (KI 0) tI))],[((KI 0),.fz tI [])]⟩
def nV:Nat->EF
 | 0=>ES
 | m+1=>fun x0 x1 k0 =>
  oW m m (wL x0) x1 (T.i 0) (T.l [])
  (fun y4=>k0 (wL y4))
  (fun y5=>k0 (wL y5))
def NM:PS CX aD:=eF Xc (FN 195 [qE,.one (AI)] 2 1 nV [.one (.fz tI [])]) Tryz.f195 ⟨195,2,24,16⟩ [L2 jT ⟨[(0,.one (LD tO)),(1,.one (LI)),(5,.one (LZ tI)),(6,.one (LI))],iV⟩ 4 1 1 jo (.exit 0) zL (.exit 0) zM,L2 jT ⟨[(0,.one (LD tO)),(1,.one (LI)),(5,.one (LA (KI 1) tI)),(6,.one (LI))],[iB,((KI 1),.fz tI [])]⟩ 4 1 1 oW (.exit 0) zL (.exit 0) zM]
def jq (m:Nat):Nat->YL
 | 0=>abh
 | n+1=>fun x0 x1 x2 x3 x4 k0 =>
  jl x3 x0
  (aQ x3 x0
  (rF m (uM x0 x3 1) x2
  (fun y0=>cond (y0.int==x1.int)
  (aQ x3 x0
  (cond (decide ((x4.rows.length+1) * 3<=ak))
  (jq m n x0 x1 x2 (aT x3) (T.l (x4.rows++[[(aG x0 x3 0),(aG x0 x3 1),(aG x0 x3 2)]])) k0)
  (.bad)))
  (jq m n x0 x1 x2 (aT x3) (wL x4) k0))))
  (k0 (wL x4))
def Bg:Nat->SS
 | 0=>Tv
 | m+1=>fun x0 x1 x2 k0 =>
  jq m m (wL x0) x1 x2 (T.i 0) (T.l [])
  (fun y3=>k0 (wL y3))
def TD:PS CX aD:=eF NM (FN 203 [qE,.one (AI),.one (AI)] 3 1 Bg YT) Tryz.f203 ⟨203,3,33,64⟩ [L1 jT ⟨[(0,.one (LD tO)),(1,.one (LI)),(2,.one (LI)),(7,.one (LA (KI 1) tO)),(8,.one (LI))],[iB,((KI 1),.row tO m3 [])]⟩ 5 1 jq (.exit 0) akk]
def jr (m:Nat):Nat->T->T->T->T->T->T->T->T->T->T->T->T->T->T->T->(T->An)->An
 | 0,_,_,_,_,_,_,_,_,_,_,_,_,_,_,_,_=>.bad
 | n+1,x0,x1,x2,x3,x4,x5,x6,x7,x8,x9,x10,bC,dw,dO,fO,k0 =>
  jl x3 x2
  ((fun (j5:T->An) =>
  aQ x3 x2
  (um m (wL dO) (aG x2 x3 0)
  (fun y1=>cond (!y1.bool)
  (aQ x3 x2
  (aQ x3 x2
  (Bg m (wL bC) (aG x2 x3 0) x4
  (fun y2=>cond (decide ((fO.rows.length+1) * 5<=ak))
  (j5 (T.l (fO.rows++[[(T.i 1),(aG x2 x3 0),x10,(wL y2),(T.b false)]])))
  (.bad)))))
  (j5 (wL fO)))))
  (fun y4=>jr m n (T.i (x0.int.toNat:Int)) (T.i (x1.int.toNat:Int)) x2 (aT x3) x4 x5 x6 x7 x8 x9 x10 bC dw dO (wL y4) k0))
  (k0 (wL fO))
def sN:Nat->yA3
 | 0=>yZ3
 | m+1=>fun x0 x1 x2 x3 x4 x5 x6 x7 x8 x9 k0 =>
  nV m (wL x7) x0
  (fun y0=>jr m m (T.i 0) (T.i 0) (wL y0) (T.i 0) x0 x1 x2 (wL x3) (wL x4) x5 x6 (wL x7) x8 (wL x9) (T.l [])
  (fun y6=>k0 (wL y6)))
def NN:PS CX aD:=eF TD (FN 189 akG 10 1 sN UZ) Tryz.f189 ⟨189,2,48,16⟩ [L1 Bc ⟨[(2,EP 0),(3,EP 1),(5,.one (LA (KI 2) tW)),(6,.one (LZ tI)),(7,.one (LI))],[U0,((KI 1),.box ac8),ade,iB]⟩ 15 1 jr (.exit 0) akJ]
def wG:Nat->ami
 | 0=>aoU
 | m+1=>fun x0 x1 x2 x3 x4 x5 x6 k0 =>
  jn (fun (j4:An) =>
  vX m (wL x6)
  (fun y0=>cond ((!y0.bool)==false)
  (cond ((x2.int==999)==false)
  (cond (decide ((x4.rows.length:Int)>=1000))
  (k0 (T.l []) (T.i 0) x0 x1 x2 (wL x3) (wL x4) x5)
  (j4))
  (k0 (T.l []) (T.i 0) x0 x1 x2 (wL x3) (wL x4) x5))
  (k0 (T.l []) (T.i 0) x0 x1 x2 (wL x3) (wL x4) x5)))
  (gK m (wL x6)
  (fun y2=>cond (decide ((x3.rows.length+1) * 4<=ak))
  (sN m x0 x1 (aT x2) (T.l (x3.rows++[[(T.i (IntKind.i64.wrap ((IntKind.i64.wrap (x1.int * 1000))+x2.int))),(wL y2),(T.i 1),(T.l [])]])) (wL x4) x5 (T.i (IntKind.i64.wrap ((IntKind.i64.wrap (x1.int * 1000))+x2.int))) (wL y2) (T.i 1) (T.l [])
  (fun y3=>k0 (wL y3) (T.i (IntKind.i64.wrap ((IntKind.i64.wrap (x1.int * 1000))+x2.int))) x0 x1 (aT x2) (T.l (x3.rows++[[(T.i (IntKind.i64.wrap ((IntKind.i64.wrap (x1.int * 1000))+x2.int))),(wL y2),(T.i 1),(T.l [])]])) (wL x4) x5))
  (.bad)))
def NP:PS CX aD:=eF NN (F1 162 [agP,qE] 7 8 wG ⟨[adh,.one (RI)],agC,agU⟩) Tryz.f162 ⟨162,2,64,49⟩
def rG:Nat->ai2
 | 0=>amB
 | m+1=>fun x0 x1 x2 x3 x4 k0 =>
  gK m (wL x3)
  (fun y0=>k0 x0 x1 x2 (wL y0) x4)
def QN:PS CX aD:=eF NP (FN 160 [UU] 5 5 rG [.agg [RI,RI,RI,.own (KR 0 3) tO m3 [],RB]]) Tryz.f160 ⟨160,1,8,4⟩
def kK (m:Nat):Nat->amj
 | 0=>aoV
 | n+1=>fun x0 x1 x2 x3 x4 x5 x6 x7 x8 x9 x10 bC dw k0 k1 =>
  jl x2 x1
  ((fun (j12:T->An) =>
  cond (decide ((x10.rows.length:Int)<400))
  (aQ x2 x1
  (rG m (aG x1 x2 0) (aG x1 x2 1) (aG x1 x2 2) (wL (aG x1 x2 3)) (aG x1 x2 4)
  (fun y5 y6 y7 y8 y9=>cond (decide ((x10.rows.length+1) * 5<=ak))
  (j12 (T.l (x10.rows++[[y5,y6,y7,(wL y8),y9]])))
  (.bad))))
  (j12 (wL x10)))
  (fun mK=>kK m n (T.i (x0.int.toNat:Int)) x1 (aT x2) x3 x4 x5 x6 (wL x7) (wL x8) (wL x9) (wL mK) (wL bC) (wL dw) k0 k1))
  (k0 (T.i (x0.int.toNat:Int)) x3 x4 x5 x6 (wL x7) (wL x8) (wL x9) (wL x10) (wL bC) (wL dw))
def kL (m:Nat):Nat->amj
 | 0=>aoV
 | n+1=>fun x0 x1 x2 x3 x4 x5 x6 x7 x8 x9 x10 bC dw k0 k1 =>
  jl x2 x1
  (cond (decide ((x10.rows.length:Int)<400))
  (aQ x2 x1
  (rG m (aG x1 x2 0) (aG x1 x2 1) (aG x1 x2 2) (wL (aG x1 x2 3)) (aG x1 x2 4)
  (fun y0 y1 y2 y3 y4=>cond (decide ((x10.rows.length+1) * 5<=ak))
  (kK m n (T.i (x0.int.toNat:Int)) x1 (aT x2) x3 x4 x5 x6 (wL x7) (wL x8) (wL x9) (T.l (x10.rows++[[y0,y1,y2,(wL y3),y4]])) (wL bC) (wL dw) k0 k1)
  (.bad))))
  (kL m n (T.i (x0.int.toNat:Int)) x1 (aT x2) x3 x4 x5 x6 (wL x7) (wL x8) (wL x9) (wL x10) (wL bC) (wL dw) k0 k1))
  (k1 (T.i (x0.int.toNat:Int)) x3 x4 x5 x6 (wL x7) (wL x8) (wL x9) (wL x10) (wL bC) (wL dw))
def Bh:Pack:=⟨[(0,.ptr [0,999999] 0 0 0)],[([0,999999],.box [LI,LI,LI,LA [0,3] tJ,LA [0,4] tC,LI,LA [0,6] tS,LA (KI 4) tW,LA [0,8] tW,LA [0,9] tB]),([0,3],.row tJ m4 []),([0,4],.row tC m2 []),([0,6],.row tS mS []),((KI 4),.row tW m5 []),([0,8],.row tW m5 []),([0,9],.row tB m2 [])]⟩
def Bj:Pack:=⟨[(0,.ptr [0,999999] 0 0 0)],[([0,999999],.box [LI,LI,LI,LA [0,3] tJ,LA [0,4] tC,LI,LA [0,6] tS,LA [0,7] tW,LA [0,8] tW,LA [0,9] tB]),([0,3],.row tJ m4 []),([0,4],.row tC m2 []),([0,6],.row tS mS []),([0,7],.row tW m5 []),([0,8],.row tW m5 []),([0,9],.row tB m2 [])]⟩
def jU:Nat->aep
 | 0=>agz
 | m+1=>fun x0 x1 x2 x3 x4 x5 x6 x7 x8 x9 x10 k0 =>
  kL m m (T.i 0) (wL x10) (T.i 0) x0 x1 x2 x5 (wL x3) (wL x4) (wL x6) (wL x7) (wL x8) (wL x9)
  (fun y13 nS qo sF qU su xJ y20 y21 y22 y23=>k0 (wL su) (wL xJ) (wL y20) (wL y22) (wL y23) nS qo sF qU (wL y21))
  (fun y24 y25 EX y27 y28 y29 EY y31 y32 EZ y34=>k0 (wL y29) (wL EY) (wL y31) (wL EZ) (wL y34) y25 EX y27 y28 (wL y32))
def QO:PS CX aD:=eF QN (F1 114 [adu,.one (.dz tW [])] 11 10 jU ⟨[],[[none,none,none,some (tJ,m4,[]),some (tC,m2,[]),none,some (tS,mS,[]),none,some (tW,m5,[]),some (tB,m2,[])],[none]],akB⟩) Tryz.f114 ⟨114,2,31,1⟩ [L2 [0,1] ⟨ako,[ak0,iB,UW,EG,HY,((KI 5),.row tW m5 []),HV,Hy]⟩ 13 11 11 kK (.exit 0) Bh (.exit 0) Bj,L2 [0,1] ⟨ako,[U2,iB,UW,EG,HY,M0,HV,Hy]⟩ 13 11 11 kL (.exit 0) Bh (.exit 0) Bj]
def wH:Nat->amk
 | 0=>aoW
 | m+1=>fun x0 x1 x2 x3 x4 x5 x6 x7 x8 x9 x10 k0 =>
  cond ((x9.rows.length:Int)==1000)
  (k0 (T.b false) x0 x1 x2 (wL x3) (wL x4) x5 (wL x6) (wL x7) (wL x8) (wL x9))
  (wG m x0 x1 x2 (wL x3) (wL x4) x5 (wL x10)
  (fun y0 y1 y2 y3 y4 y5 y6 y7=>cond (y1.int==0)
  (k0 (T.b false) y2 y3 y4 (wL y5) (wL y6) y7 (wL x6) (wL x7) (wL x8) (wL x9))
  (gK m (wL x10)
  (fun y8=>cond (decide ((x9.rows.length+1) * 2<=ak))
  (jU m y2 y3 y4 (wL y5) (wL y6) y7 (wL x6) (wL x7) (wL x8) (T.l (x9.rows++[[y1,(wL y8)]])) (wL y0)
  (fun y9 mF mK mM y13 nS qo sF qU su=>k0 (T.b true) nS qo sF (wL y9) (wL mF) qU (wL mK) (wL su) (wL mM) (wL y13)))
  (.bad)))))
def NQ:PS CX aD:=eF QO (F1 110 [adu,qE] 11 11 wH ⟨[.one (RB)],agE,abk⟩) Tryz.f110 ⟨110,2,39,17⟩
def oF (m:Nat):Nat->yA9
 | 0=>yZ9
 | n+1=>fun x0 x1 x2 k0 k1 =>
  jl x2 x0
  (aQ x2 x0
  (cond ((uM x0 x2 1).int==x1.int)
  (k0 x2)
  (oF m n x0 x1 (aT x2) k0 k1)))
  (k1 )
def CV:Nat->EF
 | 0=>ES
 | m+1=>fun x0 x1 k0 =>
  oF m m (wL x0) x1 (T.i 0)
  (fun y0=>k0 y0)
  (k0 (T.i (-1)))
def YZ:PS CX aD:=eF NQ (FN 217 [CS,.one (AI)] 2 1 CV [.one (RI)]) Tryz.f217 ⟨217,2,20,16⟩ [L2 [0,1,0,1] akm 3 1 0 oF .ret Hu (.exit 0) ⟨[],[]⟩]
def eG (m:Nat):Nat->aml
 | 0=>aoX
 | n+1=>fun x0 x1 x2 x3 x4 x5 x6 x7 x8 k0 =>
  jl x3 x5
  (jn (fun (j4:T->An) =>
  aQ x3 x5
  (cond (((uM x5 x3 1).int==x0.int)==true)
  (aQ x3 x5
  (cond ((aG x5 x3 0).int==2)
  (j4 (T.i 3))
  (j4 x2)))
  (j4 x2)))
  (fun y2=>aQ x3 x5
  (cond (((uM x5 x3 1).int==x0.int)==true)
  (aQ x3 x5
  (cond ((aG x5 x3 0).int==3)
  (eG m n x0 (T.i (x1.int.toNat:Int)) (T.i 4) (aT x3) x4 x5 x6 x7 x8 k0)
  (eG m n x0 (T.i (x1.int.toNat:Int)) y2 (aT x3) x4 x5 x6 x7 x8 k0)))
  (eG m n x0 (T.i (x1.int.toNat:Int)) y2 (aT x3) x4 x5 x6 x7 x8 k0))))
  (k0 x2)
def oG:Nat->YM
 | 0=>abj
 | m+1=>fun x0 x1 x2 x3 x4 x5 k0 =>
  CV m (wL x4) x5
  (fun y0=>cond (decide (y0.int>=0))
  (k0 (T.i 1))
  (eG m m x5 (T.i 0) (T.i 2) (T.i 0) x0 (wL x1) x2 (wL x3) (wL x4)
  (fun y7=>k0 y7)))
def LK:PS CX aD:=eF YZ (FN 205 [agR,.one (AI)] 6 1 oG [.one (RI)]) Tryz.f205 ⟨205,2,54,16⟩ [L1 Bc ⟨[(1,.one (LI)),(2,EP 0),(5,.one (LI)),(6,.one (LI))],akF⟩ 9 1 eG (.exit 0) ⟨[(5,.one (LI))],[]⟩]
def jv (m:Nat):Nat->T->T->T->T->T->(T->An)->(T->T->T->T->An)->An
 | 0,_,_,_,_,_,_,_=>.bad
 | n+1,x0,x1,x2,x3,x4,k0,k1 =>
  jl x4 x1
  (aQ x2 x0
  (aQ x3 (uM x0 x2 2)
  (aQ x4 x1
  (cond ((uM (uM x0 x2 2) x3 1).str.toList==(uM x1 x4 1).str.toList)
  (k0 (T.b true))
  (jv m n x0 x1 x2 x3 (aT x4) k0 k1)))))
  (k1 x0 x1 x2 x3)
def jw (m:Nat):Nat->T->T->T->T->(T->An)->(T->T->T->An)->An
 | 0,_,_,_,_,_,_=>.bad
 | n+1,x0,x1,x2,x3,k0,k1 =>
  aQ x2 x0
  (cond (decide (x3.int<((uM x0 x2 2).rows.length:Int)))
  (jv m n x0 x1 x2 x3 (T.i 0)
  (fun y0=>k0 y0)
  (fun y1 y2 y3 y4=>jw m n y1 y2 y3 (aT y4) k0 k1))
  (k1 x0 x1 x2))
def jA (m:Nat):Nat->yA9
 | 0=>yZ9
 | n+1=>fun x0 x1 x2 k0 k1 =>
  jl x2 x0
  (jw m n x0 x1 x2 (T.i 0)
  (fun y5=>k0 y5)
  (fun y6 y7 y8=>jA m n y6 y7 (aT y8) k0 k1))
  (k1 )
def sO:Nat->EF
 | 0=>ES
 | m+1=>fun x0 x1 k0 =>
  jA m m (wL x0) (wL x1) (T.i 0)
  (fun y9=>k0 y9)
  (k0 (T.b false))
def NR:PS CX aD:=eF LK (FN 214 [CS,qE] 2 1 sO [.one (RB)]) Tryz.f214 ⟨214,2,45,16⟩ [L2 [0,1,0,0,1,0,0,1,0,0,1,0,0,1,0,1] ⟨[(0,.one (LD tR)),(1,.one (LD tO)),(5,.one (LI)),(6,.one (LI)),(7,.one (LI))],iV⟩ 5 1 4 jv .ret xw (.exit 4) aku,L2 [0,1,0,0,1,0,0,1,0,1] aku 4 1 3 jw .ret xw (.exit 2) aks,L2 [0,1,0,1] aks 3 1 0 jA .ret xw (.exit 0) ⟨[],[]⟩]
def lX (m:Nat):Nat->T->T->T->(T->T->An)->An->An
 | 0,_,_,_,_,_=>.bad
 | n+1,x0,x1,x2,k0,k1 =>
  jl x2 x0
  (aQ x2 x0
  (cond ((aG x0 x2 0).str.toList==x1.str.toList)
  (aQ x2 x0
  (k0 (uM x0 x2 1) (T.b true)))
  (lX m n x0 x1 (aT x2) k0 k1)))
  (k1 )
def Bl:Nat->ai3
 | 0=>amC
 | m+1=>fun x0 x1 k0 =>
  lX m m (wL x0) x1 (T.i 0)
  (fun y0 y1=>k0 y0 y1)
  (k0 (T.s (⟨#[]⟩:ByteArray)) (T.b false))
def TF:PS CX aD:=eF NR (FN 221 ac7 2 2 Bl [.one (RS),.one (RB)]) Tryz.f221 ⟨221,2,25,48⟩ [L2 [0,1,0,1] ⟨[(0,.one (LD tP)),(1,.one (LS)),(6,.one (LI))],iV⟩ 3 2 0 lX .ret ⟨[(4,.one (LS)),(5,.one (LB))],[]⟩ (.exit 0) ⟨[],[]⟩]
def lD (m:Nat):Nat->yA9
 | 0=>yZ9
 | n+1=>fun x0 x1 x2 k0 k1 =>
  jl x2 x1
  (aQ x2 x1
  (cond ((aG x1 x2 0).int != 3)
  (lD m n x0 x1 (aT x2) k0 k1)
  (aQ x2 x1
  (Bl m (wL x0) (uM x1 x2 1)
  (fun y0 y1=>aQ x2 x1
  (cond ((!(y1.bool==(!((uM x1 x2 2).str.toList==(⟨#[]⟩:ByteArray).toList))))==false)
  (aQ x2 x1
  (cond (!(y0.str.toList==(uM x1 x2 2).str.toList))
  (k0 (T.b false))
  (lD m n x0 x1 (aT x2) k0 k1)))
  (k0 (T.b false))))))))
  (k1 )
def zN:Nat->EF
 | 0=>ES
 | m+1=>fun x0 x1 k0 =>
  lD m m (wL x0) (wL x1) (T.i 0)
  (fun y3=>k0 y3)
  (k0 (T.b true))
def Xd:PS CX aD:=eF TF (FN 215 ada 2 1 zN [.one (RB)]) Tryz.f215 ⟨215,2,47,16⟩ [L2 [0,1,0,1] ⟨[(0,.one (LD tP)),(1,.one (LD tO)),(5,.one (LI))],iV⟩ 3 1 0 lD .ret xw (.exit 0) ⟨[],[]⟩]
def lY (m:Nat):Nat->T->T->T->T->T->T->T->T->(T->An)->An
 | 0,_,_,_,_,_,_,_,_,_=>.bad
 | n+1,x0,x1,x2,x3,x4,x5,x6,x7,k0 =>
  jl x2 x7
  (aQ x2 x7
  (lY m n (T.i (x0.int.toNat:Int)) (T.i (IntKind.i64.wrap (x1.int+((uM x7 x2 2).rows.length:Int)))) (aT x2) x3 x4 x5 x6 x7 k0))
  (k0 x1)
def Bn:Nat->YM
 | 0=>abj
 | m+1=>fun x0 x1 x2 x3 x4 x5 k0 =>
  lY m m (T.i 0) (T.i (IntKind.i64.wrap ((x3.rows.length:Int)+(x5.rows.length:Int)))) (T.i 0) x0 (wL x1) x2 (wL x3) (wL x4)
  (fun y0=>k0 y0)
def TG:PS CX aD:=eF Xd (FN 216 [agR,qE] 6 1 Bn [.one (RI)]) Tryz.f216 ⟨216,2,30,16⟩ [L1 jT ⟨[(2,EP 0),(5,.one (LI)),(6,.one (LI))],akF⟩ 8 1 lY (.exit 0) ⟨[(5,.one (LI))],[]⟩]
def Eh:Nat->SS
 | 0=>Tv
 | m+1=>fun x0 x1 x2 k0 =>
  gH m x1 (T.i 1) (T.i 1000000)
  (fun y0=>cond (!y0.bool)
  (k0 (T.b false))
  (cond (x0.int==1)
  (vX m (wL x2)
  (fun y1=>k0 y1))
  (cond (x0.int==2)
  (k0 (T.b ((x2.rows.length:Int)==0)))
  (cond (x0.int==3)
  (k0 (T.b ((x2.rows.length:Int)==0)))
  (k0 (T.b false))))))
def Xe:PS CX aD:=eF TG (FN 218 [Hw] 3 1 Eh [.one (RB)]) Tryz.f218 ⟨218,1,21,4⟩
def iC:Nat->amh
 | 0=>aoT
 | m+1=>fun x0 x1 x2 k0 =>
  gK m (wL x2)
  (fun y0=>k0 x0 x1 (wL y0))
def LM:PS CX aD:=eF Xe (FN 187 [Hw] 3 3 iC [.agg [RI,RI,.own (KR 0 2) tO m3 []]]) Tryz.f187 ⟨187,1,8,4⟩
def lZ (m:Nat):Nat->yA6
 | 0=>yZ6
 | n+1=>fun x0 x1 x2 x3 k0 =>
  cond ((decide (x3.int<(x0.rows.length:Int)))==true)
  (aQ x3 x0
  (cond ((Op.bytesLess (aG x0 x3 0).str.toList x1.str.toList)||((aG x0 x3 0).str.toList==x1.str.toList))
  (lZ m n x0 x1 x2 (aT x3) k0)
  (k0 x0 x1 x2 x3)))
  (k0 x0 x1 x2 x3)
def l5 (m:Nat):Nat->T->T->T->T->T->(T->An)->(T->T->T->An)->An
 | 0,_,_,_,_,_,_,_=>.bad
 | n+1,x0,x1,x2,x3,x4,k0,k1 =>
  jl x3 x4
  (aQ x3 x4
  (cond (decide ((Int.toNat x3.int)<x4.rows.length))
  (cond ((aG x4 x3 0).str.toList==x1.str.toList)
  (aQ x3 x4
  (cond (decide ((Int.toNat x3.int)<x4.rows.length))
  (k0 (T.l (x4.rows.set (Int.toNat x3.int) ((x4.rows.getD (Int.toNat x3.int) []).set 1 x2))))
  (.bad)))
  (l5 m n x0 x1 x2 (aT x3) (wL x4) k0 k1))
  (.bad)))
  (k1 x0 x1 x2)
def Bo:Nat->SS
 | 0=>Tv
 | m+1=>fun x0 x1 x2 k0 =>
  cond (decide ((0+x0.rows.length) * 2<=ak))
  (l5 m m (wL x0) x1 x2 (T.i 0) (wL x0)
  (fun y0=>k0 (wL y0))
  (fun y1 y2 y3=>lZ m m y1 y2 y3 (T.i 0)
  (fun y5 y6 y7 y8=>cond (decide ((0:Int)<=y8.int/\y8.int<=(y5.rows.length:Int)))
  (cond (decide ((0:Int)<=0/\0<=y8.int))
  (cond (decide ((0+(y5.rows.take (Int.toNat y8.int)).length) * 2<=ak))
  (cond (decide (((y5.rows.take (Int.toNat y8.int)).length+1) * 2<=ak))
  (cond (decide ((0:Int)<=(y5.rows.length:Int)/\(y5.rows.length:Int)<=(y5.rows.length:Int)))
  (cond (decide ((0:Int)<=y8.int/\y8.int<=(y5.rows.length:Int)))
  (cond (decide ((((y5.rows.take (Int.toNat y8.int))++[[y6,y7]]).length+((y5.rows.take (Int.toNat (y5.rows.length:Int))).drop (Int.toNat y8.int)).length) * 2<=ak))
  (k0 (T.l (((y5.rows.take (Int.toNat y8.int))++[[y6,y7]])++((y5.rows.take (Int.toNat (y5.rows.length:Int))).drop (Int.toNat y8.int)))))
  (.bad))
  (.bad))
  (.bad))
  (.bad))
  (.bad))
  (.bad))
  (.bad))))
  (.bad)
def TH:PS CX aD:=eF LM (FN 67 [UQ,.one (AS),.one (AS)] 3 1 Bo YR) Tryz.f67 ⟨67,3,62,64⟩ [L1 [0,0,1,1,1,1] akh 4 4 lZ (.exit 2) akh,L2 jT ⟨[(0,.one (LD tP)),(1,.one (LS)),(2,.one (LS)),(7,.one (LA (KI 1) tP)),(8,.one (LI))],agF⟩ 5 1 3 l5 .ret ⟨[(6,.one (LA (KI 0) tP))],[ac6]⟩ (.exit 0) ⟨[(0,.one (LD tP)),(1,.one (LS)),(2,.one (LS))],iV⟩]
def jB (m:Nat):Nat->yA7
 | 0=>yZ7
 | n+1=>fun x0 x1 x2 x3 k0 =>
  jl x2 x0
  (aQ x2 x0
  (cond (!((aG x0 x2 0).str.toList==x1.str.toList))
  (aQ x2 x0
  (cond (decide ((x3.rows.length+1) * 2<=ak))
  (jB m n x0 x1 (aT x2) (T.l (x3.rows++[[(aG x0 x2 0),(aG x0 x2 1)]])) k0)
  (.bad)))
  (jB m n x0 x1 (aT x2) (wL x3) k0)))
  (k0 (wL x3))
def Bp:Nat->EF
 | 0=>ES
 | m+1=>fun x0 x1 k0 =>
  jB m m (wL x0) x1 (T.i 0) (T.l [])
  (fun y2=>k0 (wL y2))
def TJ:PS CX aD:=eF TH (FN 103 ac7 2 1 Bp YR) Tryz.f103 ⟨103,2,29,16⟩ [L1 jT ⟨[(0,.one (LD tP)),(1,.one (LS)),(5,.one (LA (KI 1) tP)),(6,.one (LI))],agF⟩ 4 1 jB (.exit 0) agI]
def iY (m:Nat):Nat->SS
 | 0=>Tv
 | n+1=>fun x0 x1 x2 k0 =>
  jl x1 x0
  (aQ x1 x0
  (cond ((aG x0 x1 0).int==1)
  (aQ x1 x0
  (aQ x1 x0
  (Bo m (wL x2) (uM x0 x1 1) (uM x0 x1 2)
  (fun y0=>iY m n x0 (aT x1) (wL y0) k0))))
  (cond ((aG x0 x1 0).int==2)
  (aQ x1 x0
  (Bp m (wL x2) (uM x0 x1 1)
  (fun y1=>iY m n x0 (aT x1) (wL y1) k0)))
  (iY m n x0 (aT x1) (wL x2) k0))))
  (k0 (wL x2))
def Ei:Nat->EF
 | 0=>ES
 | m+1=>fun x0 x1 k0 =>
  cond (decide ((0+x0.rows.length) * 2<=ak))
  (iY m m (wL x1) (T.i 0) (wL x0)
  (fun y5=>k0 (wL y5)))
  (.bad)
def Xf:PS CX aD:=eF TJ (FN 60 ada 2 1 Ei YR) Tryz.f60 ⟨60,2,45,16⟩ [L1 jT ⟨[(1,.one (LD tO)),(5,.one (LA (KI 1) tP)),(6,.one (LI))],agF⟩ 3 1 iY (.exit 0) agI]
def zO:Nat->T->T->T->T->T->T->(T->T->T->T->An)->(T->T->T->T->T->An)->An
 | 0,_,_,_,_,_,_,_,_=>.bad
 | m+1,x0,x1,x2,x3,x4,x5,k0,k1 =>
  CV m (wL x1) x4
  (fun y0=>Eh m x3 x4 (wL x5)
  (fun y1=>cond (!y1.bool)
  (k0 (T.b false) (wL x0) (wL x1) (wL x2))
  (cond (x3.int==1)
  (jn (fun (j9:An) =>
  um m (wL x2) x4
  (fun y2=>cond (y2.bool==false)
  (sO m (wL x1) (wL x5)
  (fun y3=>cond (y3.bool==false)
  (zN m (wL x0) (wL x5)
  (fun y4=>cond (!y4.bool)
  (k0 (T.b false) (wL x0) (wL x1) (wL x2))
  (j9)))
  (k0 (T.b false) (wL x0) (wL x1) (wL x2))))
  (k0 (T.b false) (wL x0) (wL x1) (wL x2))))
  (iC m x3 x4 (wL x5)
  (fun y6 y7 y8=>cond (decide ((x1.rows.length+1) * 3<=ak))
  (cond (decide ((x2.rows.length+1) * 1<=ak))
  (k0 (T.b true) (wL x0) (T.l (x1.rows++[[y6,y7,(wL y8)]])) (T.l (x2.rows++[[x4]])))
  (.bad))
  (.bad))))
  (cond (decide (y0.int<0))
  (cond ((x3.int==3)==true)
  (um m (wL x2) x4
  (fun mF=>cond (decide ((x2.rows.length+1) * 1<=ak))
  (k0 (T.b (!mF.bool)) (wL x0) (wL x1) (T.l (x2.rows++[[x4]])))
  (.bad)))
  (cond (decide ((x2.rows.length+1) * 1<=ak))
  (k0 (T.b false) (wL x0) (wL x1) (T.l (x2.rows++[[x4]])))
  (.bad)))
  (cond (x3.int==2)
  (aQ y0 x1
  (cond (decide ((Int.toNat y0.int)<x1.rows.length))
  (Ei m (wL x0) (wL (aG x1 y0 2))
  (fun mM=>cond (decide ((0:Int)<=y0.int/\y0.int<=(x1.rows.length:Int)))
  (cond (decide ((0:Int)<=0/\0<=y0.int))
  (cond (decide ((0+(x1.rows.take (Int.toNat y0.int)).length) * 3<=ak))
  (cond (decide ((0:Int)<=(x1.rows.length:Int)/\(x1.rows.length:Int)<=(x1.rows.length:Int)))
  (cond (decide ((0:Int)<=(IntKind.i64.wrap (y0.int+1))/\(IntKind.i64.wrap (y0.int+1))<=(x1.rows.length:Int)))
  (cond (decide (((x1.rows.take (Int.toNat y0.int)).length+((x1.rows.take (Int.toNat (x1.rows.length:Int))).drop (Int.toNat (IntKind.i64.wrap (y0.int+1)))).length) * 3<=ak))
  (k1 (T.b (decide ((mM.rows.length:Int)<=60))) (wL x0) (wL mM) (T.l ((x1.rows.take (Int.toNat y0.int))++((x1.rows.take (Int.toNat (x1.rows.length:Int))).drop (Int.toNat (IntKind.i64.wrap (y0.int+1)))))) (wL x2))
  (.bad))
  (.bad))
  (.bad))
  (.bad))
  (.bad))
  (.bad)))
  (.bad)))
  (cond (decide ((0:Int)<=y0.int/\y0.int<=(x1.rows.length:Int)))
  (cond (decide ((0:Int)<=0/\0<=y0.int))
  (cond (decide ((0+(x1.rows.take (Int.toNat y0.int)).length) * 3<=ak))
  (cond (decide ((0:Int)<=(x1.rows.length:Int)/\(x1.rows.length:Int)<=(x1.rows.length:Int)))
  (cond (decide ((0:Int)<=(IntKind.i64.wrap (y0.int+1))/\(IntKind.i64.wrap (y0.int+1))<=(x1.rows.length:Int)))
  (cond (decide (((x1.rows.take (Int.toNat y0.int)).length+((x1.rows.take (Int.toNat (x1.rows.length:Int))).drop (Int.toNat (IntKind.i64.wrap (y0.int+1)))).length) * 3<=ak))
  (k0 (T.b (decide ((x0.rows.length:Int)<=60))) (wL x0) (T.l ((x1.rows.take (Int.toNat y0.int))++((x1.rows.take (Int.toNat (x1.rows.length:Int))).drop (Int.toNat (IntKind.i64.wrap (y0.int+1)))))) (wL x2))
  (.bad))
  (.bad))
  (.bad))
  (.bad))
  (.bad))
  (.bad)))))))
def Xg:PS CX aD:=eF Xf (F2 210 [.bx [.own tP m2 [],.own tR m3 [],.own tI [.F] []],Hw] 6 4 5 zO ⟨[.one (RB)],[CR,CR],akA⟩ ⟨[.one (RB)],[[some (tP,m2,[]),none,none],CR],akA⟩) Tryz.f210 ⟨210,2,139,17⟩
def lQ:Nat->T->T->T->T->T->T->T->T->(T->T->T->T->T->An)->(T->T->T->T->T->T->An)->An
 | 0,_,_,_,_,_,_,_,_,_,_=>.bad
 | m+1,x0,x1,x2,x3,x4,x5,x6,x7,k0,k1 =>
  zO m (wL x3) (wL x4) (T.l []) x5 x6 (wL x7)
  (fun y0 y1 y2 y3=>iC m x5 x6 (wL x7)
  (fun y9 mF mK=>cond (decide ((x1.rows.length+1) * 3<=ak))
  (k0 x0 (T.l (x1.rows++[[y9,mF,(wL mK)]])) x2 (wL y1) (wL y2))
  (.bad)))
  (fun y4 y5 y6 y7 y8=>iC m x5 x6 (wL x7)
  (fun mM y13 nS=>cond (decide ((x1.rows.length+1) * 3<=ak))
  (k1 (wL y5) x0 (T.l (x1.rows++[[mM,y13,(wL nS)]])) x2 (wL y6) (wL y7))
  (.bad)))
def QZ:PS CX aD:=eF Xg (F2 206 [adn,Hw] 8 5 6 lQ ⟨[],[ac3,CR],agW⟩ ⟨[],[[none,none,none,some (tP,m2,[]),none],CR],agW⟩) Tryz.f206 ⟨206,2,43,1⟩
def Bq:Nat->ai4
 | 0=>amD
 | m+1=>fun x0 x1 x2 x3 x4 x5 x6 k0 k1 =>
  jn (fun (j26:An) =>
  gH m x5 (T.i 1) (T.i 1000000)
  (fun y0=>cond ((!y0.bool)==false)
  (vX m (wL x6)
  (fun y1=>cond (!y1.bool)
  (k0 (T.i 5) x0 (wL x1) x2 (wL x3) (wL x4))
  (j26)))
  (k0 (T.i 5) x0 (wL x1) x2 (wL x3) (wL x4))))
  (oG m x0 (wL x1) x2 (wL x3) (wL x4) x5
  (fun y3=>cond (y3.int != 2)
  (k0 y3 x0 (wL x1) x2 (wL x3) (wL x4))
  (jn (fun (j25:An) =>
  sO m (wL x4) (wL x6)
  (fun y4=>cond (y4.bool==false)
  (zN m (wL x3) (wL x6)
  (fun y5=>cond ((!y5.bool)==false)
  (Bn m x0 (wL x1) x2 (wL x3) (wL x4) (wL x6)
  (fun y6=>cond ((decide (y6.int > 60))==false)
  (cond (decide ((IntKind.i64.wrap ((IntKind.i64.wrap ((x1.rows.length:Int)+(x4.rows.length:Int)))+2)) > 300))
  (k0 (T.i 2) x0 (wL x1) x2 (wL x3) (wL x4))
  (j25))
  (k0 (T.i 2) x0 (wL x1) x2 (wL x3) (wL x4))))
  (k0 (T.i 2) x0 (wL x1) x2 (wL x3) (wL x4))))
  (k0 (T.i 2) x0 (wL x1) x2 (wL x3) (wL x4))))
  (gK m (wL x6)
  (fun y8=>lQ m x0 (wL x1) x2 (wL x3) (wL x4) (T.i 1) x5 (wL y8)
  (fun y9 mF mK mM y13=>k0 (T.i 1) y9 (wL mF) mK (wL mM) (wL y13))
  (fun nS qo sF qU su xJ=>k1 (T.i 1) (wL nS) qo (wL sF) qU (wL su) (wL xJ)))))))
def TL:PS CX aD:=eF QZ (F2 204 akN 7 6 7 Bq akR ⟨[.one (RI)],akd,adp⟩) Tryz.f204 ⟨204,3,68,65⟩
def yG:Nat->ai5
 | 0=>amE
 | m+1=>fun x0 x1 x2 x3 x4 x5 x6 x7 x8 x9 x10 bC dw dO fO k0 =>
  jn (fun (j17:T->T->An) =>
  aQ bC x6
  (cond (decide ((Int.toNat bC.int)<x6.rows.length))
  (Bq m ((x6.rows.getD (Int.toNat bC.int) []).headD dflt) (T.l ((x6.rows.getD (Int.toNat bC.int) []).tail.headD dflt).rows) ((x6.rows.getD (Int.toNat bC.int) []).tail.tail.headD dflt) (T.l ((x6.rows.getD (Int.toNat bC.int) []).tail.tail.tail.headD dflt).rows) (T.l ((x6.rows.getD (Int.toNat bC.int) []).tail.tail.tail.tail.headD dflt).rows) dw (wL dO)
  (fun y0 y1 y2 y3 y4 y5=>j17 y0 (T.l (x6.rows.set (Int.toNat bC.int) [y1,(wL y2),y3,(wL y4),(wL y5)])))
  (fun y6 y7 y8 y9 mF mK mM=>j17 y6 (T.l (x6.rows.set (Int.toNat bC.int) [y8,(wL y9),mF,(wL mK),(wL mM)]))))
  (.bad)))
  (fun y13 nS=>jn (fun (j16:T->An) =>
  cond ((y13.int != 5)==true)
  (j16 (T.b (decide ((x8.rows.length:Int)<400))))
  (j16 (T.b false)))
  (fun qo=>cond qo.bool
  (cond ((y13.int==1)==false)
  (cond (decide ((x8.rows.length+1) * 5<=ak))
  (k0 x0 x1 x2 (wL x3) (wL x4) x5 (wL nS) (wL x7) (T.l (x8.rows++[[(T.i 2),bC,dw,(T.l []),(T.b (y13.int==3))]])) (wL x9))
  (.bad))
  (cond (decide ((x8.rows.length+1) * 5<=ak))
  (k0 x0 x1 x2 (wL x3) (wL x4) x5 (wL nS) (wL x7) (T.l (x8.rows++[[(T.i 2),bC,dw,(T.l []),(T.b true)]])) (wL x9))
  (.bad)))
  (k0 x0 x1 x2 (wL x3) (wL x4) x5 (wL nS) (wL x7) (wL x8) (wL x9))))
def Q0:PS CX aD:=eF TL (F1 190 apd 15 10 yG apj) Tryz.f190 ⟨190,2,47,1⟩
def wI:Nat->ai4
 | 0=>amD
 | m+1=>fun x0 x1 x2 x3 x4 x5 x6 k0 k1 =>
  gH m x5 (T.i 1) (T.i 1000000)
  (fun y0=>cond (!y0.bool)
  (k0 (T.b false) x0 (wL x1) x2 (wL x3) (wL x4))
  (jn (fun (j37:T->An) =>
  cond x6.bool
  (j37 (T.i 2))
  (j37 (T.i 3)))
  (fun y1=>oG m x0 (wL x1) x2 (wL x3) (wL x4) x5
  (fun y2=>cond (y2.int==1)
  (lQ m x0 (wL x1) x2 (wL x3) (wL x4) y1 x5 (T.l [])
  (fun y3 y4 y5 y6 y7=>k0 (T.b true) y3 (wL y4) y5 (wL y6) (wL y7))
  (fun y8 y9 mF mK mM y13=>k1 (T.b true) (wL y8) y9 (wL mF) mK (wL mM) (wL y13)))
  (cond (y2.int==3)
  (k0 x6 x0 (wL x1) x2 (wL x3) (wL x4))
  (cond (y2.int==4)
  (k0 (T.b (!x6.bool)) x0 (wL x1) x2 (wL x3) (wL x4))
  (jn (fun (j36:An) =>
  cond (x6.bool==false)
  (cond (decide ((IntKind.i64.wrap ((x1.rows.length:Int)+(x4.rows.length:Int)))>=300))
  (k0 (T.b false) x0 (wL x1) x2 (wL x3) (wL x4))
  (j36))
  (k0 (T.b false) x0 (wL x1) x2 (wL x3) (wL x4)))
  (lQ m x0 (wL x1) x2 (wL x3) (wL x4) y1 x5 (T.l [])
  (fun y20 y21 y22 y23 y24=>k0 (T.b true) y20 (wL y21) y22 (wL y23) (wL y24))
  (fun y25 EX y27 y28 y29 EY=>k1 (T.b true) (wL y25) EX (wL y27) y28 (wL y29) (wL EY))))))))))
def NS:PS CX aD:=eF Q0 (F2 191 akI 7 6 7 wI akQ akS) Tryz.f191 ⟨191,3,50,65⟩
def jC (m:Nat):Nat->amm
 | 0=>aoY
 | n+1=>fun x0 x1 x2 x3 x4 x5 x6 x7 x8 k0 k1 =>
  jl x2 x6
  (aQ x2 x6
  (cond ((aG x6 x2 0).int==x0.int)
  (k0 x2)
  (jC m n x0 (T.i (x1.int.toNat:Int)) (aT x2) x3 x4 x5 x6 x7 x8 k0 k1)))
  (k1 )
def wJ:Nat->amn
 | 0=>aoZ
 | m+1=>fun x0 x1 x2 x3 x4 x5 x6 k0 =>
  jC m m x6 (T.i 0) (T.i 0) x0 x1 x2 (wL x3) (wL x4) x5
  (fun y0=>k0 y0)
  (k0 (T.i (-1)))
def NT:PS CX aD:=eF NS (FN 207 agO 7 1 wJ [.one (RI)]) Tryz.f207 ⟨207,2,22,16⟩ [L2 [0,1,0,1] akE 9 1 0 jC .ret Hu (.exit 0) ⟨[],[]⟩]
def yH:Nat->amo
 | 0=>ao0
 | m+1=>fun x0 x1 x2 x3 x4 x5 x6 x7 x8 k0 =>
  wJ m x0 x1 x2 (wL x3) (wL x4) x5 x7
  (fun y0=>jn (fun (j5:An) =>
  cond ((decide (y0.int<0))==false)
  (aQ y0 x3
  (cond (decide ((Int.toNat y0.int)<x3.rows.length))
  (cond (((aG x3 y0 2).int != 1)==false)
  (cond (decide ((x4.rows.length:Int)>=1000))
  (k0 x0 x1 x2 (wL x3) (wL x4) x5)
  (j5))
  (k0 x0 x1 x2 (wL x3) (wL x4) x5))
  (.bad)))
  (k0 x0 x1 x2 (wL x3) (wL x4) x5))
  (aQ y0 x3
  (cond (decide ((Int.toNat y0.int)<x3.rows.length))
  (nV m (wL (aG x3 y0 1)) x0
  (fun y2=>um m (wL y2) x6
  (fun y3=>cond (!y3.bool)
  (k0 x0 x1 x2 (wL x3) (wL x4) x5)
  (cond (!x8.bool)
  (cond (decide ((Int.toNat y0.int)<x3.rows.length))
  (cond (decide ((x4.rows.length+1) * 2<=ak))
  (k0 x0 x1 x2 (T.l (x3.rows.set (Int.toNat y0.int) ((x3.rows.getD (Int.toNat y0.int) []).set 2 (T.i 3)))) (T.l (x4.rows++[[x7,(T.b false)]])) x5)
  (.bad))
  (.bad))
  (cond (decide ((Int.toNat y0.int)<x3.rows.length))
  (uo m (wL (aG x3 y0 3)) x6
  (fun y4=>cond (decide ((Int.toNat y0.int)<x3.rows.length))
  (cond (decide ((Int.toNat y0.int)<(x3.rows.set (Int.toNat y0.int) ((x3.rows.getD (Int.toNat y0.int) []).set 3 (wL y4))).length))
  (cond (((((x3.rows.set (Int.toNat y0.int) ((x3.rows.getD (Int.toNat y0.int) []).set 3 (wL y4))).getD (Int.toNat y0.int) []).getD 3 dflt).rows.length:Int)==(y2.rows.length:Int))
  (cond (decide ((Int.toNat y0.int)<(x3.rows.set (Int.toNat y0.int) ((x3.rows.getD (Int.toNat y0.int) []).set 3 (wL y4))).length))
  (cond (decide ((x4.rows.length+1) * 2<=ak))
  (k0 x0 x1 x2 (T.l ((x3.rows.set (Int.toNat y0.int) ((x3.rows.getD (Int.toNat y0.int) []).set 3 (wL y4))).set (Int.toNat y0.int) (((x3.rows.set (Int.toNat y0.int) ((x3.rows.getD (Int.toNat y0.int) []).set 3 (wL y4))).getD (Int.toNat y0.int) []).set 2 (T.i 2)))) (T.l (x4.rows++[[x7,(T.b true)]])) x5)
  (.bad))
  (.bad))
  (k0 x0 x1 x2 (T.l (x3.rows.set (Int.toNat y0.int) ((x3.rows.getD (Int.toNat y0.int) []).set 3 (wL y4)))) (wL x4) x5))
  (.bad))
  (.bad)))
  (.bad))))))
  (.bad))))
def Q5:PS CX aD:=eF NT (F1 192 [agP,.one (AI),.one (AI),.one (AB)] 9 6 yH ⟨[],akb,[some akw,none,none,none]⟩) Tryz.f192 ⟨192,4,103,1⟩
def iJ (m:Nat):Nat->amm
 | 0=>aoY
 | n+1=>fun x0 x1 x2 x3 x4 x5 x6 x7 x8 k0 k1 =>
  jl x2 x7
  (aQ x2 x7
  (cond ((aG x7 x2 0).int==x0.int)
  (k0 x2)
  (iJ m n x0 (T.i (x1.int.toNat:Int)) (aT x2) x3 x4 x5 x6 x7 x8 k0 k1)))
  (k1 )
def qI:Nat->amn
 | 0=>aoZ
 | m+1=>fun x0 x1 x2 x3 x4 x5 x6 k0 =>
  iJ m m x6 (T.i 0) (T.i 0) x0 x1 x2 (wL x3) (wL x4) x5
  (fun y0=>k0 y0)
  (k0 (T.i (-1)))
def LP:PS CX aD:=eF Q5 (FN 209 agO 7 1 qI [.one (RI)]) Tryz.f209 ⟨209,2,22,16⟩ [L2 [0,1,0,1] akE 9 1 0 iJ .ret Hu (.exit 0) ⟨[],[]⟩]
def qJ:Nat->T->T->T->T->T->T->T->(T->T->An)->An
 | 0,_,_,_,_,_,_,_,_=>.bad
 | m+1,x0,x1,x2,x3,x4,x5,x6,k0 =>
  qI m x0 x1 x2 (wL x3) (wL x4) x5 x6
  (fun y0=>cond (decide (x6.int<1000))
  (k0 (T.b false) (T.b false))
  (cond (decide (y0.int>=0))
  (aQ y0 x4
  (cond ((uM x4 y0 1).bool==true)
  (k0 (T.b (decide (y0.int<x5.int))) (T.b (decide (y0.int<x5.int))))
  (k0 (T.b false) (T.b (decide (y0.int<x5.int))))))
  (k0 (T.b false) (T.b (decide (x6.int<(IntKind.i64.wrap (x1.int * 1000))))))))
def LQ:PS CX aD:=eF LP (FN 193 agO 7 2 qJ [.one (RB),.one (RB)]) Tryz.f193 ⟨193,2,37,48⟩
def yI:Nat->ai5
 | 0=>amE
 | m+1=>fun x0 x1 x2 x3 x4 x5 x6 x7 x8 x9 x10 bC dw dO fO k0 =>
  cond (x10.int==1)
  (yG m x0 x1 x2 (wL x3) (wL x4) x5 (wL x6) (wL x7) (wL x8) (wL x9) x10 bC dw (wL dO) fO
  (fun y0 y1 y2 y3 y4 y5 y6 y7 y8 y9=>k0 y0 y1 y2 (wL y3) (wL y4) y5 (wL y6) (wL y7) (wL y8) (wL y9)))
  (cond (x10.int==3)
  (aQ bC x6
  (cond (decide ((Int.toNat bC.int)<x6.rows.length))
  (wI m ((x6.rows.getD (Int.toNat bC.int) []).headD dflt) (T.l ((x6.rows.getD (Int.toNat bC.int) []).tail.headD dflt).rows) ((x6.rows.getD (Int.toNat bC.int) []).tail.tail.headD dflt) (T.l ((x6.rows.getD (Int.toNat bC.int) []).tail.tail.tail.headD dflt).rows) (T.l ((x6.rows.getD (Int.toNat bC.int) []).tail.tail.tail.tail.headD dflt).rows) dw fO
  (fun mF mK mM y13 nS qo=>k0 x0 x1 x2 (wL x3) (wL x4) x5 (T.l (x6.rows.set (Int.toNat bC.int) [mK,(wL mM),y13,(wL nS),(wL qo)])) (wL x7) (wL x8) (wL x9))
  (fun sF qU su xJ y20 y21 y22=>k0 x0 x1 x2 (wL x3) (wL x4) x5 (T.l (x6.rows.set (Int.toNat bC.int) [su,(wL xJ),y20,(wL y21),(wL y22)])) (wL x7) (wL x8) (wL x9)))
  (.bad)))
  (cond (x10.int==2)
  (yH m x0 x1 x2 (wL x3) (wL x4) x5 bC dw fO
  (fun y23 y24 y25 EX y27 y28=>k0 y23 y24 y25 (wL EX) (wL y27) y28 (wL x6) (wL x7) (wL x8) (wL x9)))
  (cond (x10.int==4)
  (qJ m x0 x1 x2 (wL x3) (wL x4) x5 dw
  (fun y29 EY=>cond EY.bool
  (jU m x0 x1 x2 (wL x3) (wL x4) x5 (wL x6) (wL x7) (wL x8) (wL x9) (T.l [[(T.i 3),bC,dw,(T.l []),y29]])
  (fun y31 y32 EZ y34 H7 GN GQ y38 y39 H8=>k0 GN GQ y38 (wL y31) (wL y32) y39 (wL EZ) (wL H8) (wL y34) (wL H7)))
  (k0 x0 x1 x2 (wL x3) (wL x4) x5 (wL x6) (wL x7) (wL x8) (wL x9))))
  (k0 x0 x1 x2 (wL x3) (wL x4) x5 (wL x6) (wL x7) (wL x8) (wL x9)))))
def Q6:PS CX aD:=eF LQ (F1 163 apd 15 10 yI apj) Tryz.f163 ⟨163,2,61,1⟩
def Bt:Nat->amq
 | 0=>ao1
 | m+1=>fun x0 x1 x2 x3 x4 x5 x6 x7 x8 x9 x10 bC dw dO k0 =>
  gH m bC (T.i 0) (T.i (IntKind.i64.wrap ((x7.rows.length:Int)-1)))
  (fun y0=>cond (!y0.bool)
  (k0 (T.b false) x0 x1 x2 (wL x3) (wL x4) x5 (wL x6) (wL x7) (wL x8) (wL x9))
  (aQ bC x7
  (cond (decide ((Int.toNat bC.int)<x7.rows.length))
  (cond (x10.int==4)
  (jU m x0 x1 x2 (wL x3) (wL x4) x5 (wL x6) (wL x7) (wL x8) (wL x9) (T.l [[(aG x7 bC 0),(aG x7 bC 1),(aG x7 bC 2),(aG x7 bC 3),(aG x7 bC 4)]])
  (fun y1 y2 y3 y4 y5 y6 y7 y8 y9 mF=>k0 (T.b true) y6 y7 y8 (wL y1) (wL y2) y9 (wL y3) (wL mF) (wL y4) (wL y5)))
  (cond (decide ((0:Int)<=bC.int/\bC.int<=(x7.rows.length:Int)))
  (cond (decide ((0:Int)<=0/\0<=bC.int))
  (cond (decide ((0+(x7.rows.take (Int.toNat bC.int)).length) * 5<=ak))
  (cond (decide ((0:Int)<=(x7.rows.length:Int)/\(x7.rows.length:Int)<=(x7.rows.length:Int)))
  (cond (decide ((0:Int)<=(IntKind.i64.wrap (bC.int+1))/\(IntKind.i64.wrap (bC.int+1))<=(x7.rows.length:Int)))
  (cond (decide (((x7.rows.take (Int.toNat bC.int)).length+((x7.rows.take (Int.toNat (x7.rows.length:Int))).drop (Int.toNat (IntKind.i64.wrap (bC.int+1)))).length) * 5<=ak))
  (cond (x10.int==2)
  (yI m x0 x1 x2 (wL x3) (wL x4) x5 (wL x6) (T.l ((x7.rows.take (Int.toNat bC.int))++((x7.rows.take (Int.toNat (x7.rows.length:Int))).drop (Int.toNat (IntKind.i64.wrap (bC.int+1)))))) (wL x8) (wL x9) (aG x7 bC 0) (aG x7 bC 1) (aG x7 bC 2) (wL (aG x7 bC 3)) (aG x7 bC 4)
  (fun mK mM y13 nS qo sF qU su xJ y20=>k0 (T.b true) mK mM y13 (wL nS) (wL qo) sF (wL qU) (wL su) (wL xJ) (wL y20)))
  (k0 (T.b true) x0 x1 x2 (wL x3) (wL x4) x5 (wL x6) (T.l ((x7.rows.take (Int.toNat bC.int))++((x7.rows.take (Int.toNat (x7.rows.length:Int))).drop (Int.toNat (IntKind.i64.wrap (bC.int+1)))))) (wL x8) (wL x9)))
  (.bad))
  (.bad))
  (.bad))
  (.bad))
  (.bad))
  (.bad)))
  (.bad))))
def TM:PS CX aD:=eF Q6 (F1 111 amG 14 11 Bt apk) Tryz.f111 ⟨111,2,58,17⟩
def kM (m:Nat):Nat->T->T->T->T->T->T->T->T->T->T->T->T->T->T->T->T->T->T->T->(T->T->T->T->T->T->T->T->T->T->T->T->An)->An
 | 0,_,_,_,_,_,_,_,_,_,_,_,_,_,_,_,_,_,_,_,_=>.bad
 | n+1,x0,x1,x2,x3,x4,x5,x6,x7,x8,x9,x10,bC,dw,dO,fO,kF,mO,mY,x18,k0 =>
  jl x6 bC
  (jn (fun (j4:T->T->An) =>
  aQ x6 bC
  (cond (decide ((Int.toNat x6.int)<bC.rows.length))
  (cond ((aG bC x6 1).int==x4.int)
  (aQ x6 bC
  (cond (decide ((Int.toNat x6.int)<bC.rows.length))
  (cond (decide ((mY.rows.length+1) * 5<=ak))
  (j4 (T.l (mY.rows++[[(aG bC x6 0),(aG bC x6 1),(aG bC x6 2),(aG bC x6 3),(aG bC x6 4)]])) (wL x18))
  (.bad))
  (.bad)))
  (aQ x6 bC
  (cond (decide ((Int.toNat x6.int)<bC.rows.length))
  (cond (decide ((x18.rows.length+1) * 5<=ak))
  (j4 (wL mY) (T.l (x18.rows++[[(aG bC x6 0),(aG bC x6 1),(aG bC x6 2),(aG bC x6 3),(aG bC x6 4)]])))
  (.bad))
  (.bad))))
  (.bad)))
  (fun y2 y3=>kM m n x0 x1 x2 x3 x4 (T.i (x5.int.toNat:Int)) (aT x6) (wL x7) (wL x8) (wL x9) (wL x10) (wL bC) (wL dw) dO fO kF mO (wL y2) (wL y3) k0))
  (k0 x0 x1 x2 x3 (wL x7) (wL x8) (wL x9) (wL x10) (wL bC) (wL dw) (wL mY) (wL x18))
def yJ:Nat->T->T->T->T->T->T->T->T->T->T->T->(T->T->T->T->T->T->T->T->An)->An
 | 0,_,_,_,_,_,_,_,_,_,_,_,_=>.bad
 | m+1,x0,x1,x2,x3,x4,x5,x6,x7,x8,x9,x10,k0 =>
  kM m m x0 x1 x2 x5 x10 (T.i 0) (T.i 0) (wL x3) (wL x4) (wL x6) (wL x7) (wL x8) (wL x9) x0 x1 x2 x5 (T.l []) (T.l [])
  (fun y5 y6 y7 y8 y9 mF mK mM y13 nS qo sF=>k0 (wL qo) (wL sF) (wL y9) (wL mF) (wL mK) (wL mM) (wL y13) (wL nS))
def Q7:PS CX aD:=eF TM (F1 164 [.agg ak4,.one (AI)] 11 8 yJ ⟨[adh,.one (.own (KR 1 0) tW m5 [])],[[none,none,none,some (tJ,m4,[]),some (tC,m2,[]),none,some (tS,mS,[]),some (tW,m5,[]),some (tW,m5,[]),some (tB,m2,[])],[none]],[none,none]⟩) Tryz.f164 ⟨164,2,44,49⟩ [L1 Bc ⟨[(0,.agg adr),(1,.one (LI)),(2,EP 6),(6,.one (LA (KI 7) tW)),(7,.one (LA (KI 8) tW)),(8,.one (LI))],[UW,EG,HY,M0,HV,Hy,((KI 6),.box adr),Qy,((KI 8),.row tW m5 [])]⟩ 19 12 kM (.exit 0) ⟨[(0,.agg adr),(6,.one (LA (KI 6) tW)),(7,.one (LA (KI 7) tW))],[UW,EG,HY,M0,HV,Hy,UY,Qy]⟩]
def fH (m:Nat):Nat->amr
 | 0=>ao2
 | n+1=>fun x0 x1 x2 x3 x4 x5 k0 k1 =>
  jl x2 x0
  ((fun (j19:T->T->T->An) =>
  aQ x2 x0
  (zO m (wL x3) (wL x4) (wL x5) (aG x0 x2 0) (aG x0 x2 1) (wL (aG x0 x2 2))
  (fun y0 y1 y2 y3=>cond (!y0.bool)
  (k0 (T.b false) (T.l []) (T.l []))
  (j19 (wL y1) (wL y2) (wL y3)))
  (fun y4 y5 y6 y7 y8=>cond (!y4.bool)
  (k0 (T.b false) (T.l []) (T.l []))
  (j19 (wL y6) (wL y7) (wL y8)))))
  (fun sF qU su=>fH m n x0 (T.i (x1.int.toNat:Int)) (aT x2) (wL sF) (wL qU) (wL su) k0 k1))
  (k1 (T.i (x1.int.toNat:Int)) (wL x3) (wL x4) (wL x5))
def nG:Nat->yA4
 | 0=>yZ4
 | m+1=>fun x0 k0 =>
  fH m m (wL x0) (T.i 0) (T.i 0) (T.l []) (T.l []) (T.l [])
  (fun y20 y21 y22=>k0 (wL y21) (wL y22) y20)
  (fun y23 y24 y25 EX=>k0 (wL y24) (wL y25) (T.b true))
def Kj:PS CX aD:=eF Q7 (FN 194 [CS] 1 3 nG akr) Tryz.f194 ⟨194,1,34,28⟩ [L2 jT ⟨[(0,.one (LD tR)),(5,EP 1),(6,.one (LI))],[iB,((KI 1),.box [LA (KI 2) tP,LA (KI 3) tR,LA (KI 4) tI]),((KI 2),.row tP m2 []),((KI 3),.row tR m3 []),((KI 4),.row tI [.F] [])]⟩ 6 3 4 fH .ret akP (.exit 0) ⟨[(5,EP 0)],[((KI 0),.box [LA (KI 1) tP,LA (KI 2) tR,LA (KI 3) tI]),((KI 1),.row tP m2 []),((KI 2),.row tR m3 []),((KI 3),.row tI [.F] [])]⟩]
def yK:Nat->ams
 | 0=>ao3
 | m+1=>fun x0 x1 x2 x3 x4 x5 k0 =>
  jn (fun (j6:T->An) =>
  cond (decide (x5.int<0))
  (j6 (T.i 0))
  (j6 x5))
  (fun y0=>jn (fun (j5:T->An) =>
  cond (decide (y0.int > (IntKind.i64.wrap ((x1.rows.length:Int)-x2.int))))
  (j5 (T.i (IntKind.i64.wrap ((x1.rows.length:Int)-x2.int))))
  (j5 y0))
  (fun y1=>cond (decide ((0:Int)<=(IntKind.i64.wrap (x2.int+y1.int))/\(IntKind.i64.wrap (x2.int+y1.int))<=(x1.rows.length:Int)))
  (cond (decide ((0:Int)<=0/\0<=(IntKind.i64.wrap (x2.int+y1.int))))
  (nG m (T.l (x1.rows.take (Int.toNat (IntKind.i64.wrap (x2.int+y1.int)))))
  (fun y2 y3 y4=>k0 (wL x3) (wL x4) x0 (T.l (x1.rows.take (Int.toNat (IntKind.i64.wrap (x2.int+y1.int))))) (T.i ((x1.rows.take (Int.toNat (IntKind.i64.wrap (x2.int+y1.int)))).length:Int)) (wL y2) (wL y3)))
  (.bad))
  (.bad)))
def Q8:PS CX aD:=eF Kj (F1 165 akH 6 7 yK akT) Tryz.f165 ⟨165,2,65,1⟩
def jD (m:Nat):Nat->amt
 | 0=>ao4
 | n+1=>fun x0 x1 x2 x3 x4 x5 x6 x7 x8 x9 x10 bC dw dO fO kF mO mY k0 k1 =>
  cond (decide (x2.int.toNat<dw.rows.length))
  (cond (decide (x3.int<(((dw.rows.getD x2.int.toNat []).getD 4 dflt).rows.length:Int)))
  (cond (decide (x2.int.toNat<dw.rows.length))
  (aQ x3 ((dw.rows.getD x2.int.toNat []).getD 4 dflt)
  (jU m x4 x5 x6 (wL dO) (wL fO) x7 (wL dw) (wL kF) (wL mO) (wL mY) (T.l [[(T.i 4),x9,(((((dw.rows.getD x2.int.toNat []).getD 4 dflt).rows.getD (Int.toNat x3.int) []).drop 1).getD 0 dflt),(T.l []),(T.b false)]])
  (fun H7 GN GQ y38 y39 H8 M4 NU Q9 Ra=>jD m n (T.i (x0.int.toNat:Int)) (T.i (x1.int.toNat:Int)) (T.i (x2.int.toNat:Int)) (aT x3) H8 M4 NU Q9 x8 x9 x10 bC (wL GQ) (wL H7) (wL GN) (wL Ra) (wL y38) (wL y39) k0 k1)))
  (.bad))
  (k0 (T.i (x0.int.toNat:Int)) x4 x5 x6 x7 (wL dO) (wL fO) (wL dw) (wL kF) (wL mO) (wL mY)))
  (.bad)
def oZ (m:Nat):Nat->amt
 | 0=>ao4
 | n+1=>fun x0 x1 x2 x3 x4 x5 x6 x7 x8 x9 x10 bC dw dO fO kF mO mY k0 k1 =>
  cond (decide (x2.int.toNat<dw.rows.length))
  (cond (decide (x3.int<(((dw.rows.getD x2.int.toNat []).getD 4 dflt).rows.length:Int)))
  (cond (decide (x2.int.toNat<dw.rows.length))
  (aQ x3 ((dw.rows.getD x2.int.toNat []).getD 4 dflt)
  (jU m x4 x5 x6 (wL dO) (wL fO) x7 (wL dw) (wL kF) (wL mO) (wL mY) (T.l [[(T.i 4),x9,(((((dw.rows.getD x2.int.toNat []).getD 4 dflt).rows.getD (Int.toNat x3.int) []).drop 1).getD 0 dflt),(T.l []),(T.b false)]])
  (fun y25 EX y27 y28 y29 EY y31 y32 EZ y34=>jD m n (T.i (x0.int.toNat:Int)) (T.i (x1.int.toNat:Int)) (T.i (x2.int.toNat:Int)) (aT x3) EY y31 y32 EZ x8 x9 x10 bC (wL y27) (wL y25) (wL EX) (wL y34) (wL y28) (wL y29) k0 k1)))
  (.bad))
  (k1 (T.i (x0.int.toNat:Int)) x4 x5 x6 x7 (wL dO) (wL fO) (wL dw) (wL kF) (wL mO) (wL mY)))
  (.bad)
def zP:Pack:=⟨[(0,.ptr [0,999999] 0 0 0)],[([0,999999],.box [LI,LI,LI,LA [0,3] tJ,LA [0,4] tC,LI,LA [0,6] tS,LA (KI 4) tW,LA [0,8] tW,LA [0,9] tB]),([0,3],.row tJ m4 []),([0,4],.row tC m2 []),([0,6],.row tS mS []),((KI 4),.row tW m5 []),([0,8],.row tW m5 []),([0,9],.row tB m2 [])]⟩
def zQ:Pack:=⟨[(0,.ptr [0,999999] 0 0 0)],[([0,999999],.box [LI,LI,LI,LA [0,3] tJ,LA [0,4] tC,LI,LA [0,6] tS,LA [0,7] tW,LA [0,8] tW,LA [0,9] tB]),([0,3],.row tJ m4 []),([0,4],.row tC m2 []),([0,6],.row tS mS []),([0,7],.row tW m5 []),([0,8],.row tW m5 []),([0,9],.row tB m2 [])]⟩
def wK:Nat->T->T->T->T->T->T->T->T->T->T->T->T->T->T->(T->T->T->T->T->T->T->T->T->T->T->An)->(T->T->T->T->T->T->T->T->T->T->An)->An
 | 0,_,_,_,_,_,_,_,_,_,_,_,_,_,_,_,_=>.bad
 | m+1,x0,x1,x2,x3,x4,x5,x6,x7,x8,x9,x10,bC,dw,dO,k0,k1 =>
  aQ bC x6
  (yJ m x0 x1 x2 (wL x3) (wL x4) x5 (wL x6) (wL x7) (wL x8) (wL x9) bC
  (fun y0 y1 y2 y3 y4 y5 y6 y7=>cond (x10.int==5)
  (cond (decide ((Int.toNat bC.int)<y4.rows.length))
  (cond (decide ((Int.toNat bC.int)<y4.rows.length))
  (jU m x0 x1 x2 (wL y2) (wL y3) x5 (T.l (y4.rows.set (Int.toNat bC.int) ((y4.rows.getD (Int.toNat bC.int) []).set 2 (T.i ((aG y4 bC 1).rows.length:Int))))) (wL y5) (wL y1) (wL y7) (wL y0)
  (fun y8 y9 mF mK mM y13 nS qo sF qU=>k0 (wL y6) y13 nS qo (wL y8) (wL y9) sF (wL mF) (wL qU) (wL mK) (wL mM)))
  (.bad))
  (.bad))
  (cond (x10.int==9)
  (cond (decide ((Int.toNat bC.int)<y4.rows.length))
  (yK m ((y4.rows.getD (Int.toNat bC.int) []).headD dflt) (T.l ((y4.rows.getD (Int.toNat bC.int) []).tail.headD dflt).rows) ((y4.rows.getD (Int.toNat bC.int) []).tail.tail.headD dflt) (T.l ((y4.rows.getD (Int.toNat bC.int) []).tail.tail.tail.headD dflt).rows) (T.l ((y4.rows.getD (Int.toNat bC.int) []).tail.tail.tail.tail.headD dflt).rows) dw
  (fun su xJ y20 y21 y22 y23 y24=>k0 (wL y6) x0 x1 x2 (wL y2) (wL y3) x5 (T.l (y4.rows.set (Int.toNat bC.int) [y20,(wL y21),y22,(wL y23),(wL y24)])) (wL y5) (wL y1) (wL y7)))
  (.bad))
  (cond (x10.int==8)
  (oZ m m (T.i 0) (T.i 0) (T.i ((Int.toNat bC.int):Int)) (T.i 0) x0 x1 x2 x5 x10 bC dw (wL dO) (wL y4) (wL y2) (wL y3) (wL y5) (wL y6) (wL y7)
  (fun LU NV XL y48 y49 y50 Y0 y52 Y1 Y2 y55=>k1 NV XL y48 (wL y50) (wL Y0) y49 (wL y52) (wL Y1) (wL Y2) (wL y55))
  (fun y56 y57 Y3 y59 y60 y61 y62 y63 y64 Y4 Y5=>k1 y57 Y3 y59 (wL y61) (wL y62) y60 (wL y63) (wL y64) (wL Y4) (wL Y5)))
  (k1 x0 x1 x2 (wL y2) (wL y3) x5 (wL y4) (wL y5) (wL y6) (wL y7))))))
def NY:PS CX aD:=eF Q8 (F2 113 amG 14 11 10 wK ⟨[],agT,abk⟩ ⟨[],agG,abk⟩) Tryz.f113 ⟨113,2,78,1⟩ [L2 [0,1,0,1,1,1,1,1,0,1,1,1,1] ⟨akc,[ak0,((KI 1),.box [LI,LI,LI,LD tO]),HY,UW,EG,((KI 5),.row tW m5 []),HV,Hy,iB]⟩ 18 11 11 jD (.exit 1) zP (.exit 1) zQ,L2 [0,1,0,1,1,1,1,1,0,1,1,1,1] ⟨akc,[U2,((KI 1),.box [LI,LI,LI,LD tO]),HY,UW,EG,M0,HV,Hy,iB]⟩ 18 11 11 oZ (.exit 1) zP (.exit 1) zQ]
def gQ (m:Nat):Nat->yA3
 | 0=>yZ3
 | n+1=>fun x0 x1 x2 x3 x4 x5 x6 x7 x8 x9 k0 =>
  jn (fun (j5:An) =>
  cond ((decide (x4.int<(x3.rows.length:Int)))==true)
  (cond x2.bool
  (j5)
  (k0 (wL x9)))
  (k0 (wL x9)))
  (aQ x4 x3
  (cond (decide ((x9.rows.length+1) * 5<=ak))
  (gQ m n (T.i (x0.int.toNat:Int)) x1 x2 x3 (aT x4) x5 x6 x7 x8 (T.l (x9.rows++[[(T.i 3),(aG x3 x4 0),x5,(T.l []),x1]])) k0)
  (.bad)))
def wM:Nat->yA3
 | 0=>yZ3
 | m+1=>fun x0 x1 x2 x3 x4 x5 x6 x7 x8 x9 k0 =>
  qJ m x0 x1 x2 (wL x3) (wL x4) x5 x6
  (fun y0 y1=>cond (x8.int==1)
  (sN m x0 x1 x2 (wL x3) (wL x4) x5 x6 (wL x7) x8 (wL x9)
  (fun y2=>k0 (wL y2)))
  (nV m (wL x7) x0
  (fun y3=>gQ m m (T.i 0) y0 y1 (wL y3) (T.i 0) x6 (wL x7) x8 (wL x9) (T.l [])
  (fun y6=>k0 (wL y6)))))
def NZ:PS CX aD:=eF NY (FN 166 akG 10 1 wM UZ) Tryz.f166 ⟨166,2,50,16⟩ [L1 [0,1,0,1,1,1,1,1] ⟨[(3,EP 0),(5,.one (LA (KI 1) tW)),(6,.one (LB)),(7,.one (LB)),(8,.one (LZ tI)),(9,.one (LI))],[((KI 0),.box ac8),Hz,iB]⟩ 10 1 gQ (.exit 0) akJ]
def gX (m:Nat):Nat->aml
 | 0=>aoX
 | n+1=>fun x0 x1 x2 x3 x4 x5 x6 x7 x8 k0 =>
  jl x1 x5
  (aQ x1 x5
  (wM m x2 x3 x4 (wL x5) (wL x6) x7 (aG x5 x1 0) (wL (aG x5 x1 1)) (aG x5 x1 2) (wL (aG x5 x1 3))
  (fun y0=>cond (decide ((x8.rows.length+y0.rows.length) * 5<=ak))
  (gX m n (T.i (x0.int.toNat:Int)) (aT x1) x2 x3 x4 x5 x6 x7 (T.l (x8.rows++y0.rows)) k0)
  (.bad))))
  (k0 (wL x8))
def tq:Nat->YM
 | 0=>abj
 | m+1=>fun x0 x1 x2 x3 x4 x5 k0 =>
  gX m m (T.i 0) (T.i 0) x0 x1 x2 (wL x3) (wL x4) x5 (T.l [])
  (fun y1=>k0 (wL y1))
def Kk:PS CX aD:=eF NZ (FN 115 adi 6 1 tq UZ) Tryz.f115 ⟨115,1,23,4⟩ [L1 jT ⟨[(1,EP 0),(3,.one (LA (KI 1) tW)),(4,.one (LI))],[U0,Hz,iB]⟩ 9 1 gX (.exit 0) agV]
def sP:Nat->T->T->T->T->T->T->T->(T->T->T->T->T->T->T->An)->(T->T->T->T->T->T->T->T->An)->An
 | 0,_,_,_,_,_,_,_,_,_=>.bad
 | m+1,x0,x1,x2,x3,x4,x5,x6,k0,k1 =>
  cond (x1.int==900)
  (k0 (T.b false) x0 x1 x2 (wL x3) (wL x4) x5)
  (jn (fun (j3:T->An) =>
  cond (decide (x6.int<0))
  (j3 (T.i 0))
  (j3 x6))
  (fun y0=>jn (fun (j2:T->An) =>
  cond (decide (y0.int > (IntKind.i64.wrap ((x4.rows.length:Int)-x5.int))))
  (j2 (T.i (IntKind.i64.wrap ((x4.rows.length:Int)-x5.int))))
  (j2 y0))
  (fun y1=>cond (decide ((0:Int)<=(IntKind.i64.wrap (x5.int+y1.int))/\(IntKind.i64.wrap (x5.int+y1.int))<=(x4.rows.length:Int)))
  (cond (decide ((0:Int)<=0/\0<=(IntKind.i64.wrap (x5.int+y1.int))))
  (k1 (T.b true) (wL x3) x0 (aT x1) (T.i 0) (T.l []) (T.l (x4.rows.take (Int.toNat (IntKind.i64.wrap (x5.int+y1.int))))) (T.i ((x4.rows.take (Int.toNat (IntKind.i64.wrap (x5.int+y1.int)))).length:Int)))
  (.bad))
  (.bad))))
def N7:PS CX aD:=eF Kk (F2 116 [agP,.one (AI)] 7 7 8 sP ⟨[.one (RB)],agC,agU⟩ ⟨[.one (RB)],[[none,none,none,some (tJ,m4,[]),none,none],[none]],agU⟩) Tryz.f116 ⟨116,2,71,17⟩
def zR:Nat->amu
 | 0=>ao5
 | m+1=>fun x0 x1 x2 x3 x4 x5 x6 x7 x8 x9 x10 bC dw dO k0 k1 k2 =>
  cond (x10.int==1)
  (wH m x0 x1 x2 (wL x3) (wL x4) x5 (wL x6) (wL x7) (wL x8) (wL x9) (wL dO)
  (fun y0 y1 y2 y3 y4 y5 y6 y7 y8 y9 mF=>k0 y0 y1 y2 y3 (wL y4) (wL y5) y6 (wL y7) (wL y8) (wL y9) (wL mF)))
  (jn (fun (j90:T->An) =>
  cond (x10.int==2)
  (j90 (T.b true))
  (cond (x10.int==3)
  (j90 (T.b true))
  (j90 (T.b (x10.int==4)))))
  (fun mK=>cond mK.bool
  (Bt m x0 x1 x2 (wL x3) (wL x4) x5 (wL x6) (wL x7) (wL x8) (wL x9) x10 bC dw (wL dO)
  (fun mM y13 nS qo sF qU su xJ y20 y21 y22=>k0 mM y13 nS qo (wL sF) (wL qU) su (wL xJ) (wL y20) (wL y21) (wL y22)))
  (jn (fun (j89:T->An) =>
  cond (x10.int==5)
  (j89 (T.b true))
  (cond (x10.int==8)
  (j89 (T.b true))
  (j89 (T.b (x10.int==9)))))
  (fun y23=>cond y23.bool
  (gH m bC (T.i 0) (T.i (IntKind.i64.wrap ((x6.rows.length:Int)-1)))
  (fun y24=>cond (!y24.bool)
  (k0 (T.b false) x0 x1 x2 (wL x3) (wL x4) x5 (wL x6) (wL x7) (wL x8) (wL x9))
  (wK m x0 x1 x2 (wL x3) (wL x4) x5 (wL x6) (wL x7) (wL x8) (wL x9) x10 bC dw (wL dO)
  (fun y25 EX y27 y28 y29 EY y31 y32 EZ y34 H7=>k1 (T.b true) (wL y25) EX y27 y28 (wL y29) (wL EY) y31 (wL y32) (wL EZ) (wL y34) (wL H7))
  (fun GN GQ y38 y39 H8 M4 NU Q9 Ra LU=>k0 (T.b true) GN GQ y38 (wL y39) (wL H8) M4 (wL NU) (wL Q9) (wL Ra) (wL LU)))))
  (cond (x10.int==6)
  (k0 (T.b true) x0 x1 x2 (wL x3) (wL x4) (T.i (x4.rows.length:Int)) (wL x6) (wL x7) (wL x8) (wL x9))
  (cond (x10.int==7)
  (tq m x0 x1 x2 (wL x3) (wL x4) x5
  (fun y56=>jU m x0 x1 x2 (wL x3) (wL x4) x5 (wL x6) (wL x7) (wL x8) (wL x9) (wL y56)
  (fun y57 Y3 y59 y60 y61 y62 y63 y64 Y4 Y5=>k0 (T.b true) y62 y63 y64 (wL y57) (wL Y3) Y4 (wL y59) (wL Y5) (wL y60) (wL y61))))
  (cond (x10.int==10)
  (sP m x0 x1 x2 (wL x3) (wL x4) x5 dw
  (fun y67 y68 y69 y70 y71 y72 y73=>k0 y67 y68 y69 y70 (wL y71) (wL y72) y73 (wL x6) (wL x7) (wL x8) (wL x9))
  (fun y74 y75 y76 y77 y78 y79 y80 y81=>k2 y74 (wL y75) y76 y77 y78 (wL y79) (wL y80) y81 (wL x6) (wL x7) (wL x8) (wL x9)))
  (k0 (T.b false) x0 x1 x2 (wL x3) (wL x4) x5 (wL x6) (wL x7) (wL x8) (wL x9)))))))))
def Xh:PS CX aD:=eF N7 (⟨64,amG,fun m vs k=>ap 14 (zR m) vs (lm 11 fun z=>k (Tm apk z)) (lm 12 fun z=>k (Tm ⟨[.one (RB)],agT,abk⟩ z)) (lm 12 fun z=>k (Tm ⟨[.one (RB)],[[none,none,none,some (tJ,m4,[]),none,none,none,none,none,none],ac1],abk⟩ z))⟩) Tryz.f64 ⟨64,2,66,17⟩
def iD (m:Nat):Nat->T->T->T->T->T->T->T->T->T->T->T->T->T->T->T->T->T->T->T->T->T->T->T->T->T->T->T->(T->T->T->T->T->T->T->T->T->T->T->T->T->T->T->T->T->T->T->T->T->T->T->T->T->T->An)->An
 | 0,_,_,_,_,_,_,_,_,_,_,_,_,_,_,_,_,_,_,_,_,_,_,_,_,_,_,_,_=>.bad
 | n+1,x0,x1,x2,x3,x4,x5,x6,x7,x8,x9,x10,bC,dw,dO,fO,kF,mO,mY,x18,nC,x20,x21,vg,x23,x24,x25,TN,k0 =>
  cond (decide (x3.int > 0))
  (jn (fun (j86:T->T->T->T->T->T->T->T->T->T->T->T->T->An) =>
  nU m (wL x4) x5 x6 bC dw dO (wL x21) (wL vg) fO (wL x23) (wL x24) (wL x25) (wL TN)
  (fun su xJ y20 y21 y22 y23 y24=>zR m bC dw dO (wL x21) (wL vg) fO (wL x23) (wL x24) (wL x25) (wL TN) su xJ y20 (wL y21)
  (fun y25 EX y27 y28 y29 EY y31 y32 EZ y34 H7=>j86 (wL y22) y23 y24 EX y27 y28 y31 (wL y29) (wL EY) (wL y32) (wL EZ) (wL y34) (wL H7))
  (fun GN GQ y38 y39 H8 M4 NU Q9 Ra LU NV XL=>j86 (wL y22) y23 y24 y38 y39 H8 Q9 (wL M4) (wL NU) (wL Ra) (wL LU) (wL NV) (wL XL))
  (fun y48 y49 y50 Y0 y52 Y1 Y2 y55 y56 y57 Y3 y59=>j86 (wL y22) y23 y24 y50 Y0 y52 y55 (wL Y1) (wL Y2) (wL y56) (wL y57) (wL Y3) (wL y59))))
  (fun y73 y74 y75 y76 y77 y78 y79 y80 y81 y82 y83 y84 y85=>iD m n (T.i (x0.int.toNat:Int)) (T.i (x1.int.toNat:Int)) (T.i (x2.int.toNat:Int)) (T.i (IntKind.i64.wrap (x3.int-1))) y73 y74 y75 x7 x8 x9 x10 y76 y77 y78 y79 (wL kF) (wL mO) (wL mY) (wL x18) (wL nC) (wL x20) (wL y80) (wL y81) (wL y82) (wL y83) (wL y84) (wL y85) k0))
  (k0 (T.i (x0.int.toNat:Int)) (T.i (x1.int.toNat:Int)) (T.i (x2.int.toNat:Int)) x4 x5 x6 x7 x8 x9 x10 bC dw dO fO (wL kF) (wL mO) (wL mY) (wL x18) (wL nC) (wL x20) (wL x21) (wL vg) (wL x23) (wL x24) (wL x25) (wL TN))
def yL:Nat->T->T->T->T->(T->T->T->T->T->T->T->T->T->T->T->T->T->An)->An
 | 0,_,_,_,_,_=>.bad
 | m+1,x0,x1,x2,x3,k0 =>
  vW m (wL x0) x1 x2 (T.l [[(T.i 3)],[(T.i 2)],[(T.i 3)],[(T.i 1)]])
  (fun y0 y1 y2 y3=>wF m y0
  (fun y4 y5 y6 y7 y8 y9 mF mK mM y13=>bY m (wL y1) y2 y3 x3
  (fun nS qo sF qU=>iD m m (T.i 0) (T.i 0) (T.i 0) nS (wL qo) sF qU (T.i 0) (T.i 0) (T.i 0) (T.i 0) y4 y5 y6 y9 (T.l []) (T.l []) (T.l []) (T.l []) (T.l []) (T.l []) (wL y7) (wL y8) (wL mF) (wL mK) (wL mM) (wL y13)
  (fun y87 y88 y89 y90 y91 y92 y93 y94 y95 y96 y97 y98 y99 Y6 y101 y102 ag4 y104 ai8 apx amK ag5 ag6 ag7 ag8 y112=>k0 y97 y98 y99 (wL amK) (wL ag5) Y6 (wL ag6) (wL ag7) (wL ag8) (wL y112) (wL y90) y91 y92))))
def Rb:PS CX aD:=eF Xh (F1 56 agD 4 13 yL ⟨ag0,ac2,YO⟩) Tryz.f56 ⟨56,2,23,17⟩ [L1 jT ⟨[(0,.ptr [0,999999] 0 0 0),(4,EP 1),(5,EP 2),(6,.one (LI))],apq⟩ 27 26 iD (.exit 0) ⟨[(0,.ptr [0,999999] 0 0 0),(4,EP 1),(5,EP 2)],apq⟩]
def kN (m:Nat):Nat->T->T->T->T->T->T->T->T->T->T->T->T->T->T->T->T->T->T->T->T->T->T->(T->T->T->T->T->T->T->T->T->T->T->T->T->T->An)->An
 | 0,_,_,_,_,_,_,_,_,_,_,_,_,_,_,_,_,_,_,_,_,_,_,_=>.bad
 | n+1,x0,x1,x2,x3,x4,x5,x6,x7,x8,x9,x10,bC,dw,dO,fO,kF,mO,mY,x18,nC,x20,x21,k0 =>
  jl x3 x7
  (aQ x3 x7
  (gK m (wL (aG x7 x3 1))
  (fun y0=>cond (decide ((0+(aG x7 x3 3).rows.length) * 1<=ak))
  (cond (decide ((x20.rows.length+1) * 4<=ak))
  (kN m n (T.i (x0.int.toNat:Int)) (T.i (x1.int.toNat:Int)) (T.i (x2.int.toNat:Int)) (aT x3) x4 x5 x6 x7 x8 x9 x10 bC dw dO fO kF mO mY (wL x18) (wL nC) (T.l (x20.rows++[[(aG x7 x3 0),(wL y0),(aG x7 x3 2),(wL (aG x7 x3 3))]])) (wL x21) k0)
  (.bad))
  (.bad))))
  (k0 (T.i (x1.int.toNat:Int)) (T.i (x2.int.toNat:Int)) x10 bC dw dO fO kF mO mY (wL x18) (wL nC) (wL x20) (wL x21))
def yM:Nat->amv
 | 0=>ao6
 | m+1=>fun x0 x1 x2 x3 x4 x5 k0 =>
  cond (decide ((0+x4.rows.length) * 2<=ak))
  (kN m m (T.i 0) (T.i 0) (T.i 0) (T.i 0) x0 x1 x2 (wL x3) (wL x4) x5 (T.i 0) (T.i 0) (T.i 0) (T.i 0) x0 x1 x2 x5 (T.l []) (T.l []) (T.l []) (wL x4)
  (fun y1 y2 y3 y4 y5 y6 y7 y8 y9 mF mK mM y13 nS=>k0 y7 y8 y9 (wL y13) (wL nS) mF))
  (.bad)
def Rc:PS CX aD:=eF Rb (FN 104 adi 6 6 yM akx) Tryz.f104 ⟨104,1,42,4⟩ [L1 [0,1,0,1,1,1,1] ⟨[(1,EP 0),(2,EP 1),(3,EP 2),(4,.one (LI))],[U0,adj,((KI 2),.box [LI,LI,LI,LA (KI 6) tJ,LA (KI 7) tC,LI]),iB,((KI 4),.row tJ m4 []),UR,((KI 6),.row tJ m4 []),((KI 7),.row tC m2 [])]⟩ 22 14 kN (.exit 0) ⟨[(2,EP 0),(3,EP 1)],[((KI 0),.box [LI,LI,LI,LA (KI 2) tJ,LA (KI 3) tC,LI]),adj,((KI 2),.row tJ m4 []),((KI 3),.row tC m2 []),((KI 4),.row tJ m4 []),UR]⟩]
def fT (m:Nat):Nat->SS
 | 0=>Tv
 | n+1=>fun x0 x1 x2 k0 =>
  jl x1 x0
  (aQ x1 x0
  (rG m (aG x0 x1 0) (aG x0 x1 1) (aG x0 x1 2) (wL (aG x0 x1 3)) (aG x0 x1 4)
  (fun y0 y1 y2 y3 y4=>cond (decide ((x2.rows.length+1) * 5<=ak))
  (fT m n x0 (aT x1) (T.l (x2.rows++[[y0,y1,y2,(wL y3),y4]])) k0)
  (.bad))))
  (k0 (wL x2))
def nP:Nat->K7
 | 0=>Lx
 | m+1=>fun x0 k0 =>
  fT m m (wL x0) (T.i 0) (T.l [])
  (fun y5=>k0 (wL y5))
def GR:PS CX aD:=eF Rc (FN 105 [.one (.dz tW [])] 1 1 nP UZ) Tryz.f105 ⟨105,1,21,4⟩ [L1 jT ⟨[(0,.one (LD tW)),(3,.one (LA (KI 1) tW)),(4,.one (LI))],[iB,Hz]⟩ 3 1 fT (.exit 0) agV]
def gY (m:Nat):Nat->SS
 | 0=>Tv
 | n+1=>fun x0 x1 x2 k0 =>
  jl x1 x0
  (aQ x1 x0
  (iC m (aG x0 x1 0) (aG x0 x1 1) (wL (aG x0 x1 2))
  (fun y0 y1 y2=>cond (decide ((x2.rows.length+1) * 3<=ak))
  (gY m n x0 (aT x1) (T.l (x2.rows++[[y0,y1,(wL y2)]])) k0)
  (.bad))))
  (k0 (wL x2))
def pO:Nat->K7
 | 0=>Lx
 | m+1=>fun x0 k0 =>
  gY m m (wL x0) (T.i 0) (T.l [])
  (fun y3=>k0 (wL y3))
def Kl:PS CX aD:=eF GR (FN 161 [CS] 1 1 pO [.one (.own (KR 0 0) tR m3 [])]) Tryz.f161 ⟨161,1,21,4⟩ [L1 jT ⟨[(0,.one (LD tR)),(3,.one (LA (KI 1) tR)),(4,.one (LI))],[iB,((KI 1),.row tR m3 [])]⟩ 3 1 gY (.exit 0) ⟨[(3,.one (LA (KI 0) tR))],[((KI 0),.row tR m3 [])]⟩]
def Bu:Nat->ai2
 | 0=>amB
 | m+1=>fun x0 x1 x2 x3 x4 k0 =>
  pO m (wL x1)
  (fun y0=>cond (decide ((0+x3.rows.length) * 2<=ak))
  (pO m (wL x4)
  (fun y1=>k0 x0 (wL y0) x2 (wL x3) (wL y1)))
  (.bad))
def TP:PS CX aD:=eF Kl (FN 106 agS 5 5 Bu akK) Tryz.f106 ⟨106,1,18,4⟩
def kR (m:Nat):Nat->T->T->T->T->T->T->T->T->T->T->T->T->T->T->T->T->T->T->T->T->T->T->T->T->T->T->T->T->T->T->T->T->T->T->(T->T->T->T->T->T->T->T->T->T->T->T->T->T->T->T->T->T->T->T->T->T->An)->An
 | 0,_,_,_,_,_,_,_,_,_,_,_,_,_,_,_,_,_,_,_,_,_,_,_,_,_,_,_,_,_,_,_,_,_,_,_=>.bad
 | n+1,x0,x1,x2,x3,x4,x5,x6,x7,x8,x9,x10,bC,dw,dO,fO,kF,mO,mY,x18,nC,x20,x21,vg,x23,x24,x25,TN,x27,x28,x29,x30,x31,x32,x33,k0 =>
  jl x3 dO
  (aQ x3 dO
  (aQ x3 dO
  (gK m (wL (uM dO x3 1))
  (fun NV=>cond (decide ((x33.rows.length+1) * 2<=ak))
  (kR m n (T.i (x0.int.toNat:Int)) (T.i (x1.int.toNat:Int)) (T.i (x2.int.toNat:Int)) (aT x3) x4 x5 x6 x7 x8 x9 x10 bC dw dO fO kF mO mY x18 nC x20 x21 (wL vg) (wL x23) (wL x24) (wL x25) (wL TN) (wL x27) (wL x28) (wL x29) (wL x30) (wL x31) (wL x32) (T.l (x33.rows++[[(aG dO x3 0),(wL NV)]])) k0)
  (.bad)))))
  (k0 (T.i (x1.int.toNat:Int)) (T.i (x2.int.toNat:Int)) fO kF mO mY x18 nC x20 x21 (wL vg) (wL x23) (wL x24) (wL x25) (wL TN) (wL x27) (wL x28) (wL x29) (wL x30) (wL x31) (wL x32) (wL x33))
def kS (m:Nat):Nat->T->T->T->T->T->T->T->T->T->T->T->T->T->T->T->T->T->T->T->T->T->T->T->T->T->T->T->T->T->T->T->T->T->T->(T->T->T->T->T->T->T->T->T->T->T->T->T->T->T->T->T->T->T->T->T->T->T->T->T->T->T->T->T->T->T->T->T->An)->An
 | 0,_,_,_,_,_,_,_,_,_,_,_,_,_,_,_,_,_,_,_,_,_,_,_,_,_,_,_,_,_,_,_,_,_,_,_=>.bad
 | n+1,x0,x1,x2,x3,x4,x5,x6,x7,x8,x9,x10,bC,dw,dO,fO,kF,mO,mY,x18,nC,x20,x21,vg,x23,x24,x25,TN,x27,x28,x29,x30,x31,x32,x33,k0 =>
  jl x3 x10
  (aQ x3 x10
  (Bu m (aG x10 x3 0) (wL (aG x10 x3 1)) (aG x10 x3 2) (wL (aG x10 x3 3)) (wL (aG x10 x3 4))
  (fun y8 y9 mF mK mM=>cond (decide ((x30.rows.length+1) * 5<=ak))
  (kS m n (T.i (x0.int.toNat:Int)) (T.i (x1.int.toNat:Int)) (T.i (x2.int.toNat:Int)) (aT x3) x4 x5 x6 x7 x8 x9 x10 bC dw dO fO kF mO mY x18 nC x20 x21 (wL vg) (wL x23) (wL x24) (wL x25) (wL TN) (wL x27) (wL x28) (wL x29) (T.l (x30.rows++[[y8,(wL y9),mF,(wL mK),(wL mM)]])) (wL x31) (wL x32) (wL x33) k0)
  (.bad))))
  (k0 (T.i (x0.int.toNat:Int)) (T.i (x1.int.toNat:Int)) (T.i (x2.int.toNat:Int)) x4 x5 x6 x7 x8 x9 x10 bC dw dO fO kF mO mY x18 nC x20 x21 (wL vg) (wL x23) (wL x24) (wL x25) (wL TN) (wL x27) (wL x28) (wL x29) (wL x30) (wL x31) (wL x32) (wL x33))
def yN:Nat->amw
 | 0=>ao7
 | m+1=>fun x0 x1 x2 x3 x4 x5 x6 x7 x8 x9 k0 =>
  yM m x0 x1 x2 (wL x3) (wL x4) x5
  (fun y0 y1 y2 y3 y4 y5=>nP m (wL x7)
  (fun y6=>nP m (wL x8)
  (fun y7=>kS m m (T.i 0) (T.i 0) (T.i 0) (T.i 0) x0 x1 x2 (wL x3) (wL x4) x5 (wL x6) (wL x7) (wL x8) (wL x9) (T.i 0) (T.i 0) (T.i 0) (T.i 0) y0 y1 y2 y5 (T.l []) (T.l []) (T.l []) (T.l []) (T.l []) (T.l []) (wL y3) (wL y4) (T.l []) (wL y6) (wL y7) (T.l [])
  (fun y13 nS qo sF qU su xJ y20 y21 y22 y23 y24 y25 EX y27 y28 y29 EY y31 y32 EZ y34 H7 GN GQ y38 y39 H8 M4 NU Q9 Ra LU=>kR m m (T.i (y13.int.toNat:Int)) (T.i (nS.int.toNat:Int)) (T.i (qo.int.toNat:Int)) (T.i 0) sF qU su xJ y20 y21 y22 y23 y24 y25 EX y27 y28 y29 EY y31 y32 EZ (wL y34) (wL H7) (wL GN) (wL GQ) (wL y38) (wL y39) (wL H8) (wL M4) (wL NU) (wL Q9) (wL Ra) (wL LU)
  (fun XL y48 y49 y50 Y0 y52 Y1 Y2 y55 y56 y57 Y3 y59 y60 y61 y62 y63 y64 Y4 Y5 y67 y68=>k0 Y1 Y2 y55 (wL y63) (wL y64) y56 (wL Y4) (wL Y5) (wL y67) (wL y68))))))
def Rf:PS CX aD:=eF TP (FN 61 Qz 10 10 yN ag0) Tryz.f61 ⟨61,1,61,4⟩ [L1 Bc ⟨[(1,EP 0),(2,EP 1),(3,EP 2),(5,.one (LI))],yG8⟩ 34 22 kR (.exit 2) apo,L1 jT ⟨[(1,EP 0),(2,EP 1),(3,EP 2),(4,.one (LI))],yG8⟩ 34 33 kS (.exit 0) ⟨[(1,EP 0),(2,EP 1),(3,EP 2)],yG8⟩]
def xB:Nat->EF
 | 0=>ES
 | m+1=>fun x0 x1 k0 =>
  cond (decide ((IntKind.i64.wrap (3+(IntKind.i64.wrap (Int.tdiv (x0.rows.length:Int) 12)))) > x1.int))
  (k0 x1)
  (k0 (T.i (IntKind.i64.wrap (3+(IntKind.i64.wrap (Int.tdiv (x0.rows.length:Int) 12))))))
def TQ:PS CX aD:=eF Rf (FN 57 [.one (.fz tU []),.one (AI)] 2 1 xB [.one (RI)]) Tryz.f57 ⟨57,2,15,16⟩
def gT (m:Nat):Nat->T->T->T->T->T->T->T->T->T->T->T->T->T->T->T->T->T->T->T->T->T->T->T->T->T->T->T->T->T->T->T->T->T->T->T->T->T->T->T->(T->T->T->T->T->T->T->T->T->T->T->T->T->T->T->T->T->T->T->T->T->T->T->An)->An
 | 0,_,_,_,_,_,_,_,_,_,_,_,_,_,_,_,_,_,_,_,_,_,_,_,_,_,_,_,_,_,_,_,_,_,_,_,_,_,_,_,_=>.bad
 | n+1,x0,x1,x2,x3,x4,x5,x6,x7,x8,x9,x10,bC,dw,dO,fO,kF,mO,mY,x18,nC,x20,x21,vg,x23,x24,x25,TN,x27,x28,x29,x30,x31,x32,x33,x34,x35,x36,x37,x38,k0 =>
  cond (decide (x4.int > 0))
  (jn (fun (amL:T->T->T->T->T->T->T->T->T->T->T->T->T->T->An) =>
  nU m (wL x9) x10 bC mO mY x18 (wL x33) (wL x34) nC (wL x35) (wL x36) (wL x37) (wL x38)
  (fun y31 y32 EZ y34 H7 GN GQ=>zR m mO mY x18 (wL x33) (wL x34) nC (wL x35) (wL x36) (wL x37) (wL x38) y31 y32 EZ (wL y34)
  (fun y38 y39 H8 M4 NU Q9 Ra LU NV XL y48=>cond (decide ((x20.rows.length+1) * 4<=ak))
  (amL (wL H7) GN GQ y39 H8 M4 Ra (T.l (x20.rows++[[y31,y32,EZ,(wL y34)]])) (wL NU) (wL Q9) (wL LU) (wL NV) (wL XL) (wL y48))
  (.bad))
  (fun y49 y50 Y0 y52 Y1 Y2 y55 y56 y57 Y3 y59 y60=>cond (decide ((x20.rows.length+1) * 4<=ak))
  (amL (wL H7) GN GQ Y0 y52 Y1 y56 (T.l (x20.rows++[[y31,y32,EZ,(wL y34)]])) (wL Y2) (wL y55) (wL y57) (wL Y3) (wL y59) (wL y60))
  (.bad))
  (fun y61 y62 y63 y64 Y4 Y5 y67 y68 y69 y70 y71 y72=>cond (decide ((x20.rows.length+1) * 4<=ak))
  (amL (wL H7) GN GQ y63 y64 Y4 y68 (T.l (x20.rows++[[y31,y32,EZ,(wL y34)]])) (wL Y5) (wL y67) (wL y69) (wL y70) (wL y71) (wL y72))
  (.bad))))
  (fun y97 y98 y99 Y6 y101 y102 ag4 y104 ai8 apx amK ag5 ag6 ag7=>gT m n (T.i (x0.int.toNat:Int)) (T.i (x1.int.toNat:Int)) (T.i (x2.int.toNat:Int)) (T.i (x3.int.toNat:Int)) (T.i (IntKind.i64.wrap (x4.int-1))) x5 x6 x7 x8 y97 y98 y99 dw dO fO kF Y6 y101 y102 ag4 (wL y104) (wL x21) (wL vg) (wL x23) (wL x24) (wL x25) (wL TN) (wL x27) (wL x28) (wL x29) (wL x30) (wL x31) (wL x32) (wL ai8) (wL apx) (wL amK) (wL ag5) (wL ag6) (wL ag7) k0))
  (k0 (T.i (x0.int.toNat:Int)) (T.i (x2.int.toNat:Int)) x5 x6 x7 x8 dw dO fO kF (wL x20) (wL x21) (wL vg) (wL x23) (wL x24) (wL x25) (wL TN) (wL x27) (wL x28) (wL x29) (wL x30) (wL x31) (wL x32))
def wN:Nat->T->(T->T->T->T->T->T->T->T->T->T->T->An)->An
 | 0,_,_=>.bad
 | m+1,x0,k0 =>
  Ed m (wL x0)
  (fun y0 y1 y2=>yL m (wL y0) y1 y2 (T.i 2)
  (fun y3 y4 y5 y6 y7 y8 y9 mF mK mM y13 nS qo=>yN m y3 y4 y5 (wL y6) (wL y7) y8 (wL y9) (wL mF) (wL mK) (wL mM)
  (fun sF qU su xJ y20 y21 y22 y23 y24 y25=>xB m (wL x0) (T.i 24)
  (fun EX=>bY m (wL y13) nS qo EX
  (fun y27 y28 y29 EY=>gT m m (T.i 0) (T.i 0) (T.i 0) (T.i 0) y27 (T.i 0) (T.i 0) (T.i 0) (T.i 0) (wL y28) y29 EY y3 y4 y5 y8 sF qU su y21 (T.l []) (T.l []) (T.l []) (T.l []) (T.l []) (T.l []) (T.l []) (wL y6) (wL y7) (wL y9) (wL mF) (wL mK) (wL mM) (wL xJ) (wL y20) (wL y22) (wL y23) (wL y24) (wL y25)
  (fun y112 y113 y114 y115 ai9 aja ag9 aha ahb amM amN ajb ajc ajd aje ajf ajg abu abv abw abx ahc ahd=>k0 ag9 aha ahb (wL abu) (wL abv) amM (wL abw) (wL abx) (wL ahc) (wL ahd) (wL amN)))))))
def N8:PS CX aD:=eF TQ (FN 26 [.one (.fz tU [])] 1 11 wN [ak5,.one (.own (KR 1 0) [.sc (.int .i64),.sc (.int .i64),.sc (.int .i64),.sl tO] m4 [])]) Tryz.f26 ⟨26,1,36,12⟩ [L1 [0,1,0,1,1,1,1,1] ⟨[(2,EP 0),(4,EP 1),(5,EP 2),(6,EP 3),(7,.one (LA (KI 4) [.sc (.int .i64),.sc (.int .i64),.sc (.int .i64),.sl tO])),(8,.one (LI))],[((KI 0),.box [LI,LI,LI,LA (KI 5) tJ,LA (KI 6) tC,LI,LA (KI 7) tS,LA (KI 8) tW,LA (KI 9) tW,LA (KI 10) tB]),((KI 1),.box [LZ tU,LI,LI]),((KI 2),.box [LI,LI,LI,LA (KI 11) tJ,LA (KI 12) tC,LI,LA (KI 13) tS,LA (KI 14) tW,LA (KI 15) tW,LA (KI 16) tB]),((KI 3),.box [LI,LI,LI,LA (KI 17) tJ,LA (KI 18) tC,LI,LA (KI 19) tS,LA (KI 20) tW,LA (KI 21) tW,LA (KI 22) tB]),((KI 4),.row [.sc (.int .i64),.sc (.int .i64),.sc (.int .i64),.sl tO] m4 []),((KI 5),.row tJ m4 []),((KI 6),.row tC m2 []),((KI 7),.row tS mS []),((KI 8),.row tW m5 []),((KI 9),.row tW m5 []),((KI 10),.row tB m2 []),((KI 11),.row tJ m4 []),((KI 12),.row tC m2 []),((KI 13),.row tS mS []),((KI 14),.row tW m5 []),((KI 15),.row tW m5 []),((KI 16),.row tB m2 []),((KI 17),.row tJ m4 []),((KI 18),.row tC m2 []),((KI 19),.row tS mS []),((KI 20),.row tW m5 []),((KI 21),.row tW m5 []),((KI 22),.row tB m2 [])]⟩ 39 23 gT (.exit 0) ⟨[(2,EP 0),(5,EP 1),(7,.one (LA (KI 2) [.sc (.int .i64),.sc (.int .i64),.sc (.int .i64),.sl tO]))],[ads,adt,((KI 2),.row [.sc (.int .i64),.sc (.int .i64),.sc (.int .i64),.sl tO] m4 []),((KI 3),.row tJ m4 []),YP,ado,UY,Qy,ac9,((KI 9),.row tJ m4 []),YQ,((KI 11),.row tS mS []),adg,adf,((KI 14),.row tB m2 [])]⟩]
def iK (m:Nat):Nat->T->T->T->T->T->T->T->T->T->T->T->T->T->T->T->T->T->T->T->T->T->T->T->T->(T->T->T->T->T->T->T->T->T->T->T->T->T->T->T->T->T->T->T->T->T->An)->(T->T->T->T->T->T->T->T->T->T->T->T->T->T->T->T->T->T->T->T->An)->An
 | 0,_,_,_,_,_,_,_,_,_,_,_,_,_,_,_,_,_,_,_,_,_,_,_,_,_,_=>.bad
 | n+1,x0,x1,x2,x3,x4,x5,x6,x7,x8,x9,x10,bC,dw,dO,fO,kF,mO,mY,x18,nC,x20,x21,vg,x23,k0,k1 =>
  cond (decide (x5.int<x4.int))
  (aQ x5 x3
  (aL m (wL (aG x3 x5 1))
  (fun y2=>gW m (wL (aG x3 x5 3))
  (fun y3=>cond (decide ((x23.rows.length+1) * 4<=ak))
  (iK m n (T.i (x0.int.toNat:Int)) (T.i (x1.int.toNat:Int)) (T.i (x2.int.toNat:Int)) x3 x4 (aT x5) x6 x7 x8 x9 x10 bC dw dO fO kF mO mY x18 nC x20 (wL x21) (wL vg) (T.l (x23.rows++[[(aG x3 x5 0),(wL y2),(aG x3 x5 2),(wL y3)]])) k0 k1)
  (.bad)))))
  (k0 (T.i (x0.int.toNat:Int)) (T.i (x1.int.toNat:Int)) (T.i (x2.int.toNat:Int)) x6 x7 x8 x9 x10 bC dw dO fO kF mO mY x18 nC x20 (wL x21) (wL vg) (wL x23))
def sG (m:Nat):Nat->T->T->T->T->T->T->T->T->T->T->T->T->T->T->T->T->T->T->T->T->T->T->T->(T->T->T->T->T->T->T->T->T->T->T->T->T->T->T->T->T->T->T->T->T->An)->(T->T->T->T->T->T->T->T->T->T->T->T->T->T->T->T->T->T->T->T->An)->An
 | 0,_,_,_,_,_,_,_,_,_,_,_,_,_,_,_,_,_,_,_,_,_,_,_,_,_=>.bad
 | n+1,x0,x1,x2,x3,x4,x5,x6,x7,x8,x9,x10,bC,dw,dO,fO,kF,mO,mY,x18,nC,x20,x21,vg,k0,k1 =>
  cond (decide (x5.int<x4.int))
  (aQ x5 x3
  (aL m (wL (aG x3 x5 1))
  (fun y0=>gW m (wL (aG x3 x5 3))
  (fun y1=>iK m n (T.i (x0.int.toNat:Int)) (T.i (x1.int.toNat:Int)) (T.i (x2.int.toNat:Int)) x3 x4 (aT x5) x6 x7 x8 x9 x10 bC dw dO fO kF mO mY x18 nC x20 (wL x21) (wL vg) (T.l [[(aG x3 x5 0),(wL y0),(aG x3 x5 2),(wL y1)]]) k0 k1))))
  (k1 (T.i (x0.int.toNat:Int)) (T.i (x1.int.toNat:Int)) (T.i (x2.int.toNat:Int)) x6 x7 x8 x9 x10 bC dw dO fO kF mO mY x18 nC x20 (wL x21) (wL vg))
def yj:Pack:=⟨[(1,EP 0),(2,EP 1),(3,EP 2)],[((KI 0),.box [LI,LI,LI,LD tJ,LD tC,LI]),((KI 1),.box [LI,LI,LI,LA (KI 4) tJ,LA (KI 5) tC,LI]),((KI 2),.box [LI,LI,LI,LA (KI 6) tJ,LD tC,LI]),([4000000],.gone),((KI 4),.row tJ [.F,.O m3,.F,.O [.F]] []),((KI 5),.row tC m2 []),((KI 6),.row tJ [.F,.O m3,.F,.O [.F]] [])]⟩
def yt:Pack:=⟨[(1,EP 0),(2,EP 1),(3,EP 2)],[((KI 0),.box [LI,LI,LI,LD tJ,LD tC,LI]),((KI 1),.box [LI,LI,LI,LA (KI 4) tJ,LA (KI 5) tC,LI]),((KI 2),.box [LI,LI,LI,LN tJ,LD tC,LI]),([4000000],.gone),((KI 4),.row tJ [.F,.O m3,.F,.O [.F]] []),((KI 5),.row tC m2 [])]⟩
def vk:Nat->amv
 | 0=>ao6
 | m+1=>fun x0 x1 x2 x3 x4 x5 k0 =>
  sG m m (T.i 0) (T.i 0) (T.i 0) (wL x3) (T.i (x3.rows.length:Int)) (T.i 0) x0 x1 x2 (wL x3) (wL x4) x5 (T.i 0) (T.i 0) (T.i 0) (T.i 0) x0 x1 x2 (wL x4) x5 (T.l []) (T.l [])
  (fun y4 y5 y6 y7 y8 y9 mF mK mM y13 nS qo sF qU su xJ y20 y21 y22 y23 y24=>bV m (wL mK)
  (fun LU=>k0 qU su xJ (wL y24) (wL LU) y21))
  (fun y25 EX y27 y28 y29 EY y31 y32 EZ y34 H7 GN GQ y38 y39 H8 M4 NU Q9 Ra=>bV m (wL y32)
  (fun NV=>k0 y38 y39 H8 (T.l []) (wL NV) NU))
def LV:PS CX aD:=eF N8 (FN 73 adi 6 6 vk [.agg [RI,RI,RI,.own (KR 0 3) tJ [.F,.O m3,.F,.O [.F]] [],.own (KR 0 4) tC m2 [],RI]]) Tryz.f73 ⟨73,1,35,4⟩ [L2 Bc ⟨akp,[U0,adj,((KI 2),.box [LI,LI,LI,LA (KI 6) tJ,LD tC,LI]),iB,agK,UR,((KI 6),.row tJ [.F,.O m3,.F,.O [.F]] [])]⟩ 24 21 20 iK (.exit 0) yj (.exit 0) yt,L2 Bc ⟨akp,[U0,adj,((KI 2),.box [LI,LI,LI,LN tJ,LD tC,LI]),iB,agK,UR]⟩ 23 21 20 sG (.exit 0) yj (.exit 0) yt]
def iL (m:Nat):Nat->yA7
 | 0=>yZ7
 | n+1=>fun x0 x1 x2 x3 k0 =>
  cond (decide (x2.int<x1.int))
  (aQ x2 x0
  (aL m (wL (aG x0 x2 3))
  (fun y0=>cond (decide ((x3.rows.length+1) * 5<=ak))
  (iL m n x0 x1 (aT x2) (T.l (x3.rows++[[(aG x0 x2 0),(aG x0 x2 1),(aG x0 x2 2),(wL y0),(aG x0 x2 4)]])) k0)
  (.bad))))
  (k0 (wL x3))
def qK:Nat->K7
 | 0=>Lx
 | m+1=>fun x0 k0 =>
  iL m m (wL x0) (T.i (x0.rows.length:Int)) (T.i 0) (T.l [])
  (fun y1=>k0 (wL y1))
def LW:PS CX aD:=eF LV (FN 74 [.one (.dz tW [])] 1 1 qK [.one (.own (KR 0 0) tW [.F,.F,.F,.O m3,.F] [])]) Tryz.f74 ⟨74,1,22,4⟩ [L1 jT ⟨[(3,.one (LA (KI 0) tW)),(6,.one (LD tW)),(7,.one (LI)),(8,.one (LI))],[((KI 0),.row tW [.F,.F,.F,.O m3,.F] []),iB]⟩ 4 1 iL (.exit 0) ⟨[(3,.one (LA (KI 0) tW))],[((KI 0),.row tW [.F,.F,.F,.O m3,.F] [])]⟩]
def jE (m:Nat):Nat->yA7
 | 0=>yZ7
 | n+1=>fun x0 x1 x2 x3 k0 =>
  cond (decide (x2.int<x1.int))
  (aQ x2 x0
  (aL m (wL (aG x0 x2 2))
  (fun y0=>cond (decide ((x3.rows.length+1) * 3<=ak))
  (jE m n x0 x1 (aT x2) (T.l (x3.rows++[[(aG x0 x2 0),(aG x0 x2 1),(wL y0)]])) k0)
  (.bad))))
  (k0 (wL x3))
def sQ:Nat->K7
 | 0=>Lx
 | m+1=>fun x0 k0 =>
  jE m m (wL x0) (T.i (x0.rows.length:Int)) (T.i 0) (T.l [])
  (fun y1=>k0 (wL y1))
def N9:PS CX aD:=eF LW (FN 120 [CS] 1 1 sQ [.one (.own (KR 0 0) tR [.F,.F,.O m3] [])]) Tryz.f120 ⟨120,1,22,4⟩ [L1 jT ⟨[(3,.one (LA (KI 0) tR)),(6,.one (LD tR)),(7,.one (LI)),(8,.one (LI))],[((KI 0),.row tR [.F,.F,.O m3] []),iB]⟩ 4 1 jE (.exit 0) ⟨[(3,.one (LA (KI 0) tR))],[((KI 0),.row tR [.F,.F,.O m3] [])]⟩]
def vv:Nat->ai2
 | 0=>amB
 | m+1=>fun x0 x1 x2 x3 x4 k0 =>
  sQ m (wL x1)
  (fun y0=>bM m (wL x3)
  (fun y1=>sQ m (wL x4)
  (fun y2=>k0 x0 (wL y0) x2 (wL y1) (wL y2))))
def LX:PS CX aD:=eF N9 (FN 75 agS 5 5 vv [.agg [RI,.own (KR 0 1) tR [.F,.F,.O m3] [],RI,.own (KR 0 3) tP m2 [],.own (KR 0 4) tR [.F,.F,.O m3] []]]) Tryz.f75 ⟨75,1,17,4⟩
def iM (m:Nat):Nat->T->T->T->T->T->T->T->T->T->T->T->T->T->T->T->T->T->T->T->T->T->T->T->T->T->(T->T->T->T->T->T->T->T->T->T->T->T->T->T->T->T->T->T->T->T->T->T->An)->An
 | 0,_,_,_,_,_,_,_,_,_,_,_,_,_,_,_,_,_,_,_,_,_,_,_,_,_,_=>.bad
 | n+1,x0,x1,x2,x3,x4,x5,x6,x7,x8,x9,x10,bC,dw,dO,fO,kF,mO,mY,x18,nC,x20,x21,vg,x23,x24,k0 =>
  cond (decide (x4.int<x3.int))
  (aQ x4 x2
  (aL m (wL (aG x2 x4 1))
  (fun NV=>cond (decide ((x24.rows.length+1) * 2<=ak))
  (iM m n (T.i (x0.int.toNat:Int)) (T.i (x1.int.toNat:Int)) x2 x3 (aT x4) x5 x6 x7 x8 x9 x10 bC dw (wL dO) (wL fO) (wL kF) (wL mO) (wL mY) (wL x18) (wL nC) (wL x20) (wL x21) (wL vg) (wL x23) (T.l (x24.rows++[[(aG x2 x4 0),(wL NV)]])) k0)
  (.bad))))
  (k0 (T.i (x0.int.toNat:Int)) (T.i (x1.int.toNat:Int)) x5 x6 x7 x8 x9 x10 bC dw (wL dO) (wL fO) (wL kF) (wL mO) (wL mY) (wL x18) (wL nC) (wL x20) (wL x21) (wL vg) (wL x23) (wL x24))
def iN (m:Nat):Nat->T->T->T->T->T->T->T->T->T->T->T->T->T->T->T->T->T->T->T->T->T->T->T->T->T->T->T->T->T->T->T->T->T->T->T->T->(T->T->T->T->T->T->T->T->T->T->T->T->T->T->T->T->T->T->T->T->T->T->T->T->T->T->T->T->T->T->T->T->T->An)->An
 | 0,_,_,_,_,_,_,_,_,_,_,_,_,_,_,_,_,_,_,_,_,_,_,_,_,_,_,_,_,_,_,_,_,_,_,_,_,_=>.bad
 | n+1,x0,x1,x2,x3,x4,x5,x6,x7,x8,x9,x10,bC,dw,dO,fO,kF,mO,mY,x18,nC,x20,x21,vg,x23,x24,x25,TN,x27,x28,x29,x30,x31,x32,x33,x34,x35,k0 =>
  cond (decide (x5.int<x4.int))
  (aQ x5 x3
  (vv m (aG x3 x5 0) (wL (aG x3 x5 1)) (aG x3 x5 2) (wL (aG x3 x5 3)) (wL (aG x3 x5 4))
  (fun y8 y9 mF mK mM=>cond (decide ((x32.rows.length+1) * 5<=ak))
  (iN m n (T.i (x0.int.toNat:Int)) (T.i (x1.int.toNat:Int)) (T.i (x2.int.toNat:Int)) x3 x4 (aT x5) x6 x7 x8 x9 x10 bC dw dO fO kF mO mY x18 nC x20 x21 vg x23 (wL x24) (wL x25) (wL TN) (wL x27) (wL x28) (wL x29) (wL x30) (wL x31) (T.l (x32.rows++[[y8,(wL y9),mF,(wL mK),(wL mM)]])) (wL x33) (wL x34) (wL x35) k0)
  (.bad))))
  (k0 (T.i (x0.int.toNat:Int)) (T.i (x1.int.toNat:Int)) (T.i (x2.int.toNat:Int)) x6 x7 x8 x9 x10 bC dw dO fO kF mO mY x18 nC x20 x21 vg x23 (wL x24) (wL x25) (wL TN) (wL x27) (wL x28) (wL x29) (wL x30) (wL x31) (wL x32) (wL x33) (wL x34) (wL x35))
def dP:Nat->amw
 | 0=>ao7
 | m+1=>fun x0 x1 x2 x3 x4 x5 x6 x7 x8 x9 k0 =>
  vk m x0 x1 x2 (wL x3) (wL x4) x5
  (fun y0 y1 y2 y3 y4 y5=>qK m (wL x7)
  (fun y6=>qK m (wL x8)
  (fun y7=>iN m m (T.i 0) (T.i 0) (T.i 0) (wL x6) (T.i (x6.rows.length:Int)) (T.i 0) x0 x1 x2 (wL x3) (wL x4) x5 (wL x6) (wL x7) (wL x8) (wL x9) (T.i 0) (T.i 0) (T.i 0) (T.i 0) y0 y1 y2 y5 (T.l []) (T.l []) (T.l []) (T.l []) (T.l []) (T.l []) (wL y3) (wL y4) (T.l []) (wL y6) (wL y7) (T.l [])
  (fun y13 nS qo sF qU su xJ y20 y21 y22 y23 y24 y25 EX y27 y28 y29 EY y31 y32 EZ y34 H7 GN GQ y38 y39 H8 M4 NU Q9 Ra LU=>iM m m (T.i (nS.int.toNat:Int)) (T.i (qo.int.toNat:Int)) y25 (T.i (y25.rows.length:Int)) (T.i 0) EX y27 y28 y29 EY y31 y32 EZ (wL y34) (wL H7) (wL GN) (wL GQ) (wL y38) (wL y39) (wL H8) (wL M4) (wL NU) (wL Q9) (wL Ra) (wL LU)
  (fun XL y48 y49 y50 Y0 y52 Y1 Y2 y55 y56 y57 Y3 y59 y60 y61 y62 y63 y64 Y4 Y5 y67 y68=>k0 Y1 Y2 y55 (wL y63) (wL y64) y56 (wL Y4) (wL Y5) (wL y67) (wL y68))))))
def LY:PS CX aD:=eF LX (FN 36 Qz 10 10 dP [.agg [RI,RI,RI,.own (KR 0 3) tJ [.F,.O m3,.F,.O [.F]] [],.own (KR 0 4) tC m2 [],RI,.own (KR 0 6) tS [.F,.O [.F,.F,.O m3],.F,.O m2,.O [.F,.F,.O m3]] [],.own (KR 0 7) tW [.F,.F,.F,.O m3,.F] [],.own (KR 0 8) tW [.F,.F,.F,.O m3,.F] [],.own (KR 0 9) tB [.F,.O m3] []]]) Tryz.f36 ⟨36,1,53,4⟩ [L1 Bc ⟨[(2,EP 0),(3,EP 1),(34,.one (LD tB)),(35,.one (LI)),(36,.one (LI))],[ads,adt,iB,((KI 3),.row tJ [.F,.O m3,.F,.O [.F]] []),YP,((KI 5),.row tS [.F,.O [.F,.F,.O m3],.F,.O m2,.O [.F,.F,.O m3]] []),((KI 6),.row tW [.F,.F,.F,.O m3,.F] []),((KI 7),.row tW [.F,.F,.F,.O m3,.F] []),((KI 8),.row tB [.F,.O m3] []),((KI 9),.row tJ [.F,.O m3,.F,.O [.F]] []),YQ,akO,agM,agL,((KI 14),.row tB [.F,.O m3] [])]⟩ 25 22 iM (.exit 2) ⟨[(2,EP 0),(3,EP 1)],[akY,akZ,((KI 2),.row tJ [.F,.O m3,.F,.O [.F]] []),((KI 3),.row tC m2 []),((KI 4),.row tS [.F,.O [.F,.F,.O m3],.F,.O m2,.O [.F,.F,.O m3]] []),((KI 5),.row tW [.F,.F,.F,.O m3,.F] []),((KI 6),.row tW [.F,.F,.F,.O m3,.F] []),((KI 7),.row tB [.F,.O m3] []),((KI 8),.row tJ [.F,.O m3,.F,.O [.F]] []),((KI 9),.row tC m2 []),((KI 10),.row tS [.F,.O [.F,.F,.O m3],.F,.O m2,.O [.F,.F,.O m3]] []),((KI 11),.row tW [.F,.F,.F,.O m3,.F] []),agM,((KI 13),.row tB [.F,.O m3] [])]⟩,L1 jT ⟨[(1,EP 0),(2,EP 1),(3,EP 2),(19,.one (LD tS)),(20,.one (LI)),(21,.one (LI))],yG4⟩ 36 33 iN (.exit 0) ⟨[(1,EP 0),(2,EP 1),(3,EP 2)],yG4⟩]
def dD:Nat->SS
 | 0=>Tv
 | m+1=>fun x0 x1 x2 k0 =>
  cond ((decide (x0.int>=x1.int))==true)
  (k0 (T.b (decide (x0.int<=x2.int))))
  (k0 (T.b false))
def Rh:PS CX aD:=eF LY (FN 33 [.one (AI),.one (AI),.one (AI)] 3 1 dD [.one (RB)]) Tryz.f33 ⟨33,3,15,64⟩
def iE:Nat->K7
 | 0=>Lx
 | m+1=>fun x0 k0 =>
  k0 (T.i (IntKind.i64.wrap ((IntKind.i64.wrap ((((bJ x0).drop 1).getD 0 dflt).int * 1000))+(((bJ x0).drop 2).getD 0 dflt).int)))
def GU:PS CX aD:=eF Rh (FN 121 aky 1 1 iE [.one (RI)]) Tryz.f121 ⟨121,1,13,4⟩
def p8:Nat->SS
 | 0=>Tv
 | m+1=>fun x0 x1 x2 k0 =>
  k0 (T.b (x0.int==((bJ x2).getD 0 dflt).int))
def CY:PS CX aD:=eF GU (FN 168 [.agg [AI,AB],.Ie tI []] 3 1 p8 [.one (RB)]) Tryz.f168 ⟨168,2,8,8⟩
def aU (m:Nat):Nat->Lv
 | 0=>NC
 | n+1=>fun x0 x1 x2 x3 k0 k1 =>
  cond (decide (x3.int<x2.int))
  (aQ x3 x0
  (p8 m (aG x0 x3 0) (aG x0 x3 1) (T.l [(bJ x1)])
  (fun y0=>cond y0.bool
  (k0 x3)
  (aU m n x0 (T.l [(bJ x1)]) x2 (aT x3) k0 k1))))
  (k1 )
def dV:Nat->EF
 | 0=>ES
 | m+1=>fun x0 x1 k0 =>
  aU m m (wL x0) (T.l [(bJ x1)]) (T.i (x0.rows.length:Int)) (T.i 0)
  (fun y1=>k0 y1)
  (k0 (T.i (-1)))
def oh:PS CX aD:=eF CY (FN 167 [.one (.dz tC []),.fn 168 [.Ie tI []]] 2 1 dV [.one (RI)]) Tryz.f167 ⟨167,2,19,16⟩ [L2 [0,1,0,1] ⟨[(0,.one (LD tC)),(1,.fn 168 [.rp [([4000000],0)] tI []]),(7,.one (LI)),(8,.one (LI))],iV⟩ 4 1 0 aU .ret Hu (.exit 0) ⟨[],[]⟩]
def iO:Nat->EF
 | 0=>ES
 | m+1=>fun x0 x1 k0 =>
  dV m (T.l (((bJ x0).drop 4).getD 0 dflt).rows) (T.l [[x1]])
  (fun y0=>k0 y0)
def ET:PS CX aD:=eF oh (FN 122 akC 2 1 iO [.one (RI)]) Tryz.f122 ⟨122,2,11,16⟩
def vw:Nat->K7
 | 0=>Lx
 | m+1=>fun x0 k0 =>
  cond ((decide (x0.int>=97))==true)
  (cond ((decide (x0.int<=122))==false)
  (cond ((decide (x0.int>=48))==true)
  (k0 (T.b (decide (x0.int<=57))))
  (k0 (T.b false)))
  (k0 (T.b true)))
  (cond ((decide (x0.int>=48))==true)
  (k0 (T.b (decide (x0.int<=57))))
  (k0 (T.b false)))
def L6:PS CX aD:=eF ET (FN 220 [.one (.sc (.int .u8) (.l []))] 1 1 vw [.one (RB)]) Tryz.f220 ⟨220,1,17,4⟩
def mg (m:Nat):Nat->T->T->(T->An)->An->An
 | 0,_,_,_,_=>.bad
 | n+1,x0,x1,k0,k1 =>
  cond (decide (x1.int<(x0.str.size:Int)))
  (cond (decide ((0:Int)<=x1.int/\x1.int<(x0.str.size:Int)))
  (vw m (T.i ((x0.str.data.toList.getD (Int.toNat x1.int) 0).toNat:Int))
  (fun y0=>cond (!y0.bool)
  (k0 (T.b false))
  (mg m n x0 (aT x1) k0 k1)))
  (.bad))
  (k1 )
def FR:Nat->K7
 | 0=>Lx
 | m+1=>fun x0 k0 =>
  mg m m x0 (T.i 0)
  (fun y1=>k0 y1)
  (k0 (T.b true))
def TR:PS CX aD:=eF L6 (FN 212 [.one (AS)] 1 1 FR [.one (RB)]) Tryz.f212 ⟨212,1,15,4⟩ [L2 [0,1,0,1] ⟨[(0,.one (LS)),(3,.one (LI))],[]⟩ 2 1 0 mg .ret yh (.exit 0) ⟨[],[]⟩]
def zS:Nat->K7
 | 0=>Lx
 | m+1=>fun x0 k0 =>
  dD m (T.i (x0.str.size:Int)) (T.i 1) (T.i 12)
  (fun y0=>cond (y0.bool==true)
  (FR m x0
  (fun y1=>k0 (T.b y1.bool)))
  (k0 (T.b false)))
def Xi:PS CX aD:=eF TR (FN 197 [.one (AS)] 1 1 zS [.one (RB)]) Tryz.f197 ⟨197,1,10,4⟩
def Gu:Nat->SS
 | 0=>Tv
 | m+1=>fun x0 x1 x2 k0 =>
  jn (fun (j5:T->An) =>
  cond (x0.int==1)
  (j5 (T.b true))
  (j5 (T.b (x0.int==3))))
  (fun y0=>cond y0.bool
  (zS m x1
  (fun y1=>cond (y1.bool==true)
  (k0 (T.b (decide ((x2.str.size:Int)<=20))))
  (k0 (T.b false))))
  (cond (x0.int==2)
  (zS m x1
  (fun y3=>cond (y3.bool==true)
  (k0 (T.b (x2.str.toList==(⟨#[]⟩:ByteArray).toList)))
  (k0 (T.b false))))
  (k0 (T.b false))))
def Y7:PS CX aD:=eF Xi (FN 172 [.agg [AI,AS,AS]] 3 1 Gu [.one (RB)]) Tryz.f172 ⟨172,1,27,4⟩
def lF (m:Nat):Nat->abg
 | 0=>aer
 | n+1=>fun x0 x1 x2 x3 k0 k1 =>
  cond (decide (x3.int<x2.int))
  (aQ x3 x1
  (Gu m (aG x1 x3 0) (aG x1 x3 1) (aG x1 x3 2)
  (fun y0=>cond ((!y0.bool)==false)
  (cond ((decide (x3.int > 0))==true)
  (cond (decide ((0:Int)<=(IntKind.i64.wrap (x3.int-1))/\(IntKind.i64.wrap (x3.int-1))<(x0.rows.length:Int)))
  (cond ((Op.bytesLess (aG x1 x3 1).str.toList (((x0.rows.getD (Int.toNat (IntKind.i64.wrap (x3.int-1))) []).drop 1).getD 0 dflt).str.toList)||((aG x1 x3 1).str.toList==(((x0.rows.getD (Int.toNat (IntKind.i64.wrap (x3.int-1))) []).drop 1).getD 0 dflt).str.toList))
  (k0 (T.b false))
  (lF m n x0 x1 x2 (aT x3) k0 k1))
  (.bad))
  (lF m n x0 x1 x2 (aT x3) k0 k1))
  (k0 (T.b false)))))
  (k1 x0)
def o7:Nat->K7
 | 0=>Lx
 | m+1=>fun x0 k0 =>
  lF m m (wL x0) (wL x0) (T.i (x0.rows.length:Int)) (T.i 0)
  (fun y2=>k0 y2)
  (fun y3=>dD m (T.i (y3.rows.length:Int)) (T.i 1) (T.i 8)
  (fun y4=>k0 y4))
def Xj:PS CX aD:=eF Y7 (FN 129 [qE] 1 1 o7 [.one (RB)]) Tryz.f129 ⟨129,1,34,4⟩ [L2 [0,1,0,1] ⟨[(0,.one (LD tO)),(5,.one (LD tO)),(6,.one (LI)),(7,.one (LI))],iV⟩ 4 1 1 lF .ret yh (.exit 0) ⟨[(0,.one (LD tO))],iV⟩]
def oH (m:Nat):Nat->SS
 | 0=>Tv
 | n+1=>fun x0 x1 x2 k0 =>
  cond (decide (x2.int<(x0.str.size:Int)))
  (cond (decide ((0:Int)<=x2.int/\x2.int<(x0.str.size:Int)))
  (oH m n x0 (T.i (IntKind.u32.wrap ((kX .u32 (BitVec.ofInt IntKind.u32.bits x1.int ^^^ BitVec.ofInt IntKind.u32.bits (IntKind.u32.wrap ((x0.str.data.toList.getD (Int.toNat x2.int) 0).toNat:Int)))).int * 16777619))) (aT x2) k0)
  (.bad))
  (k0 x1)
def L8:Nat->K7
 | 0=>Lx
 | m+1=>fun x0 k0 =>
  oH m m x0 (T.i 2166136261) (T.i 0)
  (fun y0=>k0 (T.i (IntKind.i64.wrap y0.int)))
def Y8:PS CX aD:=eF Xj (FN 87 [.one (AS)] 1 1 L8 [.one (RI)]) Tryz.f87 ⟨87,1,21,4⟩ [L1 jT ⟨[(0,.one (LS)),(3,.one (⟨.sc,.sc (.int .u32),.l []⟩)),(4,.one (LI))],[]⟩ 3 1 oH (.exit 0) ⟨[(3,.one (⟨.sc,.sc (.int .u32),.l []⟩))],[]⟩]
def vB:Nat->EF
 | 0=>ES
 | m+1=>fun x0 x1 k0 =>
  cond (decide (x1.int<1))
  (k0 (T.i 0))
  (L8 m x0
  (fun y0=>cond (!decide (x1.int=0))
  (k0 (T.i (Int.tmod y0.int x1.int)))
  (.bad)))
def Ri:PS CX aD:=eF Y8 (FN 39 [.one (AS),.one (AI)] 2 1 vB [.one (RI)]) Tryz.f39 ⟨39,2,11,16⟩
def o8:Nat->K7
 | 0=>Lx
 | m+1=>fun x0 k0 =>
  cond (decide ((0:Int)<=(x0.rows.length:Int)/\(x0.rows.length:Int)<=(x0.rows.length:Int)/\(x0.rows.length:Int)<=(x0.rows.length:Int)))
  (cond (decide ((0:Int)<=0/\0<=(x0.rows.length:Int)))
  (k0 (T.l (x0.rows.take (Int.toNat (x0.rows.length:Int)))))
  (.bad))
  (.bad)
def Cm:PS CX aD:=eF Ri (FN 41 [.one (.fz tI [])] 1 1 o8 [.one (.fz tI [])]) Tryz.f41 ⟨41,1,9,4⟩
def jF (m:Nat):Nat->YL
 | 0=>abh
 | n+1=>fun x0 x1 x2 x3 x4 k0 =>
  cond (decide (x3.int<x2.int))
  (aQ x3 x1
  (vB m (aG x1 x3 1) x0
  (fun y0=>cond (decide ((x4.rows.length+1) * 1<=ak))
  (jF m n x0 x1 x2 (aT x3) (T.l (x4.rows++[[y0]])) k0)
  (.bad))))
  (k0 (wL x4))
def jV:Nat->EF
 | 0=>ES
 | m+1=>fun x0 x1 k0 =>
  jF m m x1 (wL x0) (T.i (x0.rows.length:Int)) (T.i 0) (T.l [])
  (fun y1=>uO m (wL y1)
  (fun y2=>slices_Compact m (wL y2)
  (fun y3=>o8 m (wL y3)
  (fun y4=>k0 (wL y4)))))
def Oa:PS CX aD:=eF Cm (FN 12 [qE,.one (AI)] 2 1 jV [.one (.fz tI [])]) Tryz.f12 ⟨12,2,27,16⟩ [L1 jT ⟨[(1,.one (LI)),(5,.one (LA (KI 0) tI)),(8,.one (LD tO)),(9,.one (LI)),(10,.one (LI))],[((KI 0),.row tI [.F] []),iB]⟩ 5 1 jF (.exit 0) ⟨[(5,.one (LA (KI 0) tI))],[((KI 0),.row tI [.F] [])]⟩]
def dH (m:Nat):Nat->Lv
 | 0=>NC
 | n+1=>fun x0 x1 x2 x3 k0 k1 =>
  cond (decide (x3.int<x2.int))
  (aQ x3 x0
  (cond (x1.int==(aG x0 x3 0).int)
  (k0 x3)
  (dH m n x0 x1 x2 (aT x3) k0 k1)))
  (k1 )
def oI:Nat->EF
 | 0=>ES
 | m+1=>fun x0 x1 k0 =>
  dH m m (wL x0) x1 (T.i (x0.rows.length:Int)) (T.i 0)
  (fun y0=>k0 y0)
  (k0 (T.i (-1)))
def Aq:PS CX aD:=eF Oa (FN 173 agB 2 1 oI [.one (RI)]) Tryz.f173 ⟨173,2,19,16⟩ [L2 [0,1,0,1] ⟨[(0,.one (LD tI)),(1,.one (LI)),(7,.one (LI)),(8,.one (LI))],iV⟩ 4 1 0 dH .ret Hu (.exit 0) ⟨[],[]⟩]
def dA:Nat->EF
 | 0=>ES
 | m+1=>fun x0 x1 k0 =>
  oI m (wL x0) x1
  (fun y0=>k0 (T.b (decide (y0.int>=0))))
def xV:PS CX aD:=eF Aq (FN 136 agB 2 1 dA [.one (RB)]) Tryz.f136 ⟨136,2,9,16⟩
def gI (m:Nat):Nat->T->T->T->T->T->T->T->T->T->T->(T->An)->(T->T->T->T->T->T->An)->An
 | 0,_,_,_,_,_,_,_,_,_,_,_,_=>.bad
 | n+1,x0,x1,x2,x3,x4,x5,x6,x7,x8,x9,k0,k1 =>
  cond (decide (x5.int<x4.int))
  ((fun (j10:T->An) =>
  aQ x5 x3
  (dA m (wL x2) (aG x3 x5 0)
  (fun y6=>cond ((!y6.bool)==false)
  (cond ((decide (x5.int > 0))==true)
  (cond (decide ((0:Int)<=(IntKind.i64.wrap (x5.int-1))/\(IntKind.i64.wrap (x5.int-1))<(x9.rows.length:Int)))
  (cond (decide ((aG x3 x5 0).int<=((x9.rows.getD (Int.toNat (IntKind.i64.wrap (x5.int-1))) []).getD 0 dflt).int))
  (k0 (T.b false))
  (j10 (T.l [(bJ x0)])))
  (.bad))
  (j10 (T.l [(bJ x0)])))
  (k0 (T.b false)))))
  (fun y9=>gI m n (T.l [(bJ y9)]) (T.i (x1.int.toNat:Int)) x2 x3 x4 (aT x5) x6 x7 x8 x9 k0 k1))
  (k1 (T.l [(bJ x0)]) (T.i (x1.int.toNat:Int)) x6 x7 x8 x9)
def rH:Nat->YL
 | 0=>abh
 | m+1=>fun x0 x1 x2 x3 x4 k0 =>
  jn (fun (j21:T->An) =>
  iE m (T.l [((bJ x0).take 6)])
  (fun y0=>dD m x1 (T.i (IntKind.i64.wrap ((((bJ x0).drop 1).getD 0 dflt).int * 1000))) (T.i (IntKind.i64.wrap (y0.int-1)))
  (fun y1=>cond ((!y1.bool)==false)
  (o7 m (wL x2)
  (fun y2=>cond (!y2.bool)
  (k0 (T.b false))
  (j21 (T.l [(bJ x0)]))))
  (k0 (T.b false)))))
  (fun y4=>jV m (wL x2) ((bJ y4).getD 0 dflt)
  (fun y5=>gI m m (T.l [(bJ y4)]) (T.i 0) (wL y5) (wL x4) (T.i (x4.rows.length:Int)) (T.i 0) x1 (wL x2) x3 (wL x4)
  (fun mK=>k0 mK)
  (fun mM y13 nS qo sF qU=>iO m (T.l [((bJ mM).take 6)]) nS
  (fun su=>cond (sF.int==1)
  (k0 (T.b (decide (su.int<0))))
  (cond (sF.int==2)
  (cond ((decide (su.int>=0))==true)
  (aQ su (((bJ mM).drop 4).getD 0 dflt)
  (k0 (T.b ((((((bJ mM).drop 4).getD 0 dflt).rows.getD (Int.toNat su.int) []).drop 1).getD 0 dflt).bool)))
  (k0 (T.b false)))
  (cond (sF.int==3)
  (cond ((decide (su.int>=0))==true)
  (aQ su (((bJ mM).drop 4).getD 0 dflt)
  (k0 (T.b (!((((((bJ mM).drop 4).getD 0 dflt).rows.getD (Int.toNat su.int) []).drop 1).getD 0 dflt).bool))))
  (k0 (T.b false)))
  (k0 (T.b false))))))))
def IJ:PS CX aD:=eF xV (FN 123 [adl,agH] 5 1 rH [.one (RB)]) Tryz.f123 ⟨123,2,100,16⟩ [L2 Bc ⟨[(0,.rp [([4000000],0)] [.sc (.int .i64),.sc (.int .i64),.sc (.int .i64),.sl tJ,.sl tC,.sc (.int .i64)] []),(3,EP 1),(5,.one (LZ tI)),(35,.one (LD tI)),(36,.one (LI)),(37,.one (LI))],akg⟩ 10 1 6 gI .ret xw (.exit 0) ⟨[(0,.rp [([4000000],0)] [.sc (.int .i64),.sc (.int .i64),.sc (.int .i64),.sl tJ,.sl tC,.sc (.int .i64)] []),(3,EP 1)],akg⟩]
def iF (m:Nat):Nat->T->T->T->T->T->T->T->T->T->T->(T->An)->An->An
 | 0,_,_,_,_,_,_,_,_,_,_,_,_=>.bad
 | n+1,x0,x1,x2,x3,x4,x5,x6,x7,x8,x9,k0,k1 =>
  cond (decide (x3.int<x2.int))
  (aQ x3 x1
  (rH m (T.l [[x4,x5,x6,(wL x7),(wL x8),x9]]) (aG x1 x3 0) (wL (aG x1 x3 1)) (aG x1 x3 2) (wL (aG x1 x3 3))
  (fun qU=>cond ((!qU.bool)==false)
  (cond ((decide (x3.int > 0))==true)
  (cond (decide ((0:Int)<=(IntKind.i64.wrap (x3.int-1))/\(IntKind.i64.wrap (x3.int-1))<(x7.rows.length:Int)))
  (cond (decide ((aG x1 x3 0).int<=((x7.rows.getD (Int.toNat (IntKind.i64.wrap (x3.int-1))) []).getD 0 dflt).int))
  (k0 (T.b false))
  (iF m n (T.i (x0.int.toNat:Int)) x1 x2 (aT x3) x4 x5 x6 x7 x8 x9 k0 k1))
  (.bad))
  (iF m n (T.i (x0.int.toNat:Int)) x1 x2 (aT x3) x4 x5 x6 x7 x8 x9 k0 k1))
  (k0 (T.b false)))))
  (k1 )
def kT (m:Nat):Nat->T->T->T->T->T->T->T->T->T->T->(T->An)->(T->T->T->T->T->T->T->An)->An
 | 0,_,_,_,_,_,_,_,_,_,_,_,_=>.bad
 | n+1,x0,x1,x2,x3,x4,x5,x6,x7,x8,x9,k0,k1 =>
  cond (decide (x3.int<x2.int))
  (aQ x3 x1
  (iE m (T.l [[x4,x5,x6,(wL x7),(wL x8),x9]])
  (fun y5=>dD m (aG x1 x3 0) (T.i 1000) (T.i (IntKind.i64.wrap (y5.int-1)))
  (fun y6=>cond ((!y6.bool)==false)
  (iO m (T.l [[x4,x5,x6,(wL x7),(wL x8),x9]]) (aG x1 x3 0)
  (fun y7=>cond (y7.int != x3.int)
  (k0 (T.b false))
  (kT m n (T.i (x0.int.toNat:Int)) x1 x2 (aT x3) x4 x5 x6 x7 x8 x9 k0 k1)))
  (k0 (T.b false))))))
  (k1 (T.i (x0.int.toNat:Int)) x4 x5 x6 x7 x8 x9)
def yO:Nat->YM
 | 0=>abj
 | m+1=>fun x0 x1 x2 x3 x4 x5 k0 =>
  jn (fun (j20:An) =>
  dD m x0 (T.i 1) (T.i 8)
  (fun y0=>cond ((!y0.bool)==false)
  (dD m x1 (T.i 1) (T.i 900)
  (fun y1=>cond ((!y1.bool)==false)
  (dD m x2 (T.i 0) (T.i 999)
  (fun y2=>cond ((!y2.bool)==false)
  (cond ((decide ((x4.rows.length:Int) > 1000))==false)
  (dD m x5 (T.i 0) (T.i (x4.rows.length:Int))
  (fun y3=>cond (!y3.bool)
  (k0 (T.b false))
  (j20)))
  (k0 (T.b false)))
  (k0 (T.b false))))
  (k0 (T.b false))))
  (k0 (T.b false))))
  (kT m m (T.i 0) (wL x4) (T.i (x4.rows.length:Int)) (T.i 0) x0 x1 x2 (wL x3) (wL x4) x5
  (fun y9=>k0 y9)
  (fun mF mK mM y13 nS qo sF=>iF m m (T.i (mF.int.toNat:Int)) nS (T.i (nS.rows.length:Int)) (T.i 0) mK mM y13 nS qo sF
  (fun xJ=>k0 xJ)
  (k0 (T.b true))))
def Rj:PS CX aD:=eF IJ (FN 77 adi 6 1 yO [.one (RB)]) Tryz.f77 ⟨77,1,88,4⟩ [L2 Bc ⟨[(1,EP 0),(61,.one (LD tJ)),(62,.one (LI)),(63,.one (LI))],adk⟩ 10 1 0 iF .ret yh (.exit 2) ⟨[],[]⟩,L2 jT ⟨[(1,EP 0),(39,.one (LD tC)),(40,.one (LI)),(41,.one (LI))],adk⟩ 10 1 7 kT .ret yh (.exit 0) ⟨[(1,EP 0)],adk⟩]
def vY:Nat->K7
 | 0=>Lx
 | m+1=>fun x0 k0 =>
  dD m x0 (T.i 0) (T.i 7)
  (fun y0=>k0 y0)
def Y9:PS CX aD:=eF Rj (FN 72 [.one (AI)] 1 1 vY [.one (RB)]) Tryz.f72 ⟨72,1,5,4⟩
def mh:Nat->K7
 | 0=>Lx
 | m+1=>fun x0 k0 =>
  dD m x0 (T.i 1) (T.i 1000000)
  (fun y0=>k0 y0)
def Za:PS CX aD:=eF Y9 (FN 171 [.one (AI)] 1 1 mh [.one (RB)]) Tryz.f171 ⟨171,1,5,4⟩
def Ej:Nat->SS
 | 0=>Tv
 | m+1=>fun x0 x1 x2 k0 =>
  cond (x0.int==1)
  (mh m x1
  (fun y0=>cond (y0.bool==true)
  (o7 m (wL x2)
  (fun y1=>k0 (T.b y1.bool)))
  (k0 (T.b false))))
  (cond (x0.int==2)
  (mh m x1
  (fun y6=>cond (y6.bool==true)
  (k0 (T.b ((x2.rows.length:Int)==0)))
  (k0 (T.b false))))
  (cond (x0.int==3)
  (mh m x1
  (fun y8=>cond (y8.bool==true)
  (k0 (T.b ((x2.rows.length:Int)==0)))
  (k0 (T.b false))))
  (k0 (T.b false))))
def Xk:PS CX aD:=eF Za (FN 169 [Hw] 3 1 Ej [.one (RB)]) Tryz.f169 ⟨169,1,27,4⟩
def nH (m:Nat):Nat->yA9
 | 0=>yZ9
 | n+1=>fun x0 x1 x2 k0 k1 =>
  cond (decide (x2.int>=0))
  (aQ x2 x0
  (cond ((uM x0 x2 1).int==x1.int)
  (k0 x2)
  (nH m n x0 x1 (T.i (IntKind.i64.wrap (x2.int-1))) k0 k1)))
  (k1 )
def o9:Nat->EF
 | 0=>ES
 | m+1=>fun x0 x1 k0 =>
  nH m m (wL x0) x1 (T.i (IntKind.i64.wrap ((x0.rows.length:Int)-1)))
  (fun y0=>k0 y0)
  (k0 (T.i (-1)))
def Xl:PS CX aD:=eF Xk (FN 182 [CS,.one (AI)] 2 1 o9 [.one (RI)]) Tryz.f182 ⟨182,2,21,16⟩ [L2 [0,1,0,1] akm 3 1 0 nH .ret Hu (.exit 0) ⟨[],[]⟩]
def iP (m:Nat):Nat->T->T->T->T->T->T->T->T->T->T->T->T->T->T->(T->An)->(T->T->T->T->T->T->T->An)->An
 | 0,_,_,_,_,_,_,_,_,_,_,_,_,_,_,_,_=>.bad
 | n+1,x0,x1,x2,x3,x4,x5,x6,x7,x8,x9,x10,bC,dw,dO,k0,k1 =>
  cond (decide (x10.int<x9.int))
  (aQ x10 x8
  (cond ((aG x8 x10 1).str.toList==dw.str.toList)
  (k0 (T.b true))
  (iP m n x0 (T.i (x1.int.toNat:Int)) x2 x3 x4 x5 x6 x7 x8 x9 (aT x10) bC dw dO k0 k1)))
  (k1 x0 x2 x3 x4 x5 x6 x7)
def iQ (m:Nat):Nat->T->T->T->T->T->T->T->(T->An)->(T->T->T->T->An)->An
 | 0,_,_,_,_,_,_,_,_,_=>.bad
 | n+1,x0,x1,x2,x3,x4,x5,x6,k0,k1 =>
  cond (decide (x6.int<x5.int))
  (aQ x6 x4
  (iP m n x0 (T.i 0) x1 x2 x3 x4 x5 x6 x0 (T.i (x0.rows.length:Int)) (T.i 0) (aG x4 x6 0) (aG x4 x6 1) (aG x4 x6 2)
  (fun y0=>k0 y0)
  (fun y1 y2 y3 y4 y5 y6 y7=>iQ m n y1 y2 y3 y4 y5 y6 (aT y7) k0 k1)))
  (k1 x0 x1 x2 x3)
def iR (m:Nat):Nat->Lv
 | 0=>NC
 | n+1=>fun x0 x1 x2 x3 k0 k1 =>
  cond (decide (x3.int<x2.int))
  (aQ x3 x1
  (iQ m n x0 x1 x2 x3 (aG x1 x3 2) (T.i ((aG x1 x3 2).rows.length:Int)) (T.i 0)
  (fun y8=>k0 y8)
  (fun y9 mF mK mM=>iR m n y9 mF mK (aT mM) k0 k1)))
  (k1 )
def qL:Nat->EF
 | 0=>ES
 | m+1=>fun x0 x1 k0 =>
  iR m m (wL x1) (wL x0) (T.i (x0.rows.length:Int)) (T.i 0)
  (fun y13=>k0 y13)
  (k0 (T.b false))
def L9:PS CX aD:=eF Xl (FN 196 [CS,qE] 2 1 qL [.one (RB)]) Tryz.f196 ⟨196,2,38,16⟩ [L2 [0,1,1,0,0,1,1,0,0,1,1,0,0,1,1,0,0,1,0,1] ⟨[(1,.one (LD tO)),(8,EP 1),(11,.one (LD tR)),(12,.one (LI)),(13,.one (LI)),(18,.one (LD tO)),(19,.one (LI)),(20,.one (LI)),(24,.one (LD tO)),(25,.one (LI)),(26,.one (LI))],[iB,((KI 1),.box [LI,LS,LS])]⟩ 14 1 7 iP .ret xw (.exit 4) akM,L2 agA akM 7 1 4 iQ .ret xw (.exit 2) akv,L2 [0,1,0,1] akv 4 1 0 iR .ret xw (.exit 0) ⟨[],[]⟩]
def Cn:Nat->SS
 | 0=>Tv
 | m+1=>fun x0 x1 x2 k0 =>
  k0 (T.b (x0.str.toList==((bJ x2).getD 0 dflt).str.toList))
def Ob:PS CX aD:=eF L9 (FN 150 [.agg [AS,AS],.Ie tT []] 3 1 Cn [.one (RB)]) Tryz.f150 ⟨150,2,8,8⟩
def bB (m:Nat):Nat->Lv
 | 0=>NC
 | n+1=>fun x0 x1 x2 x3 k0 k1 =>
  cond (decide (x3.int<x2.int))
  (aQ x3 x0
  (Cn m (aG x0 x3 0) (aG x0 x3 1) (T.l [(bJ x1)])
  (fun y0=>cond y0.bool
  (k0 x3)
  (bB m n x0 (T.l [(bJ x1)]) x2 (aT x3) k0 k1))))
  (k1 )
def eP:Nat->EF
 | 0=>ES
 | m+1=>fun x0 x1 k0 =>
  bB m m (wL x0) (T.l [(bJ x1)]) (T.i (x0.rows.length:Int)) (T.i 0)
  (fun y1=>k0 y1)
  (k0 (T.i (-1)))
def pQ:PS CX aD:=eF Ob (FN 149 [UQ,.fn 150 [.Ie tT []]] 2 1 eP [.one (RI)]) Tryz.f149 ⟨149,2,19,16⟩ [L2 [0,1,0,1] ⟨[(0,.one (LD tP)),(1,.fn 150 [.rp [([4000000],0)] tT []]),(7,.one (LI)),(8,.one (LI))],iV⟩ 4 1 0 bB .ret Hu (.exit 0) ⟨[],[]⟩]
def xC:Nat->EF
 | 0=>ES
 | m+1=>fun x0 x1 k0 =>
  eP m (wL x0) (T.l [[x1]])
  (fun y0=>k0 y0)
def TS:PS CX aD:=eF pQ (FN 91 ac7 2 1 xC [.one (RI)]) Tryz.f91 ⟨91,2,8,16⟩
def Bv:Nat->ai3
 | 0=>amC
 | m+1=>fun x0 x1 k0 =>
  xC m (wL x0) x1
  (fun y0=>cond (decide (y0.int<0))
  (k0 (T.s (⟨#[]⟩:ByteArray)) (T.b false))
  (aQ y0 x0
  (k0 (uM x0 y0 1) (T.b true))))
def TT:PS CX aD:=eF TS (FN 46 ac7 2 2 Bv [.one (RS),.one (RB)]) Tryz.f46 ⟨46,2,17,48⟩
def lG (m:Nat):Nat->Lv
 | 0=>NC
 | n+1=>fun x0 x1 x2 x3 k0 k1 =>
  cond (decide (x3.int<x2.int))
  (aQ x3 x1
  (cond ((aG x1 x3 0).int != 3)
  (lG m n x0 x1 x2 (aT x3) k0 k1)
  (Bv m (wL x0) (aG x1 x3 1)
  (fun y0 y1=>cond ((!(y1.bool==(!((aG x1 x3 2).str.toList==(⟨#[]⟩:ByteArray).toList))))==false)
  (cond (!(y0.str.toList==(aG x1 x3 2).str.toList))
  (k0 (T.b false))
  (lG m n x0 x1 x2 (aT x3) k0 k1))
  (k0 (T.b false))))))
  (k1 )
def zT:Nat->EF
 | 0=>ES
 | m+1=>fun x0 x1 k0 =>
  lG m m (wL x0) (wL x1) (T.i (x1.rows.length:Int)) (T.i 0)
  (fun y3=>k0 y3)
  (k0 (T.b true))
def Xm:PS CX aD:=eF TT (FN 16 ada 2 1 zT [.one (RB)]) Tryz.f16 ⟨16,2,37,16⟩ [L2 [0,1,0,1] ⟨[(0,.one (LD tP)),(9,.one (LD tO)),(10,.one (LI)),(11,.one (LI))],iV⟩ 4 1 0 lG .ret xw (.exit 0) ⟨[],[]⟩]
def mo (m:Nat):Nat->yA6
 | 0=>yZ6
 | n+1=>fun x0 x1 x2 x3 k0 =>
  cond ((decide (x2.int<(x3.rows.length:Int)))==true)
  (aQ x2 x3
  (cond (decide ((Int.toNat x2.int)<x3.rows.length))
  (cond ((Op.bytesLess (aG x3 x2 0).str.toList x0.str.toList)||((aG x3 x2 0).str.toList==x0.str.toList))
  (mo m n x0 x1 (aT x2) (wL x3) k0)
  (k0 x0 x1 x2 (wL x3)))
  (.bad)))
  (k0 x0 x1 x2 (wL x3))
def Bw:Nat->SS
 | 0=>Tv
 | m+1=>fun x0 x1 x2 k0 =>
  xC m (wL x0) x1
  (fun y0=>cond (decide (y0.int>=0))
  (aQ y0 x0
  (cond (decide ((Int.toNat y0.int)<x0.rows.length))
  (k0 (T.l (x0.rows.set (Int.toNat y0.int) ((x0.rows.getD (Int.toNat y0.int) []).set 1 x2))))
  (.bad)))
  (mo m m x1 x2 (T.i 0) (wL x0)
  (fun y2 y3 y4 y5=>gy m (wL y5) y4 (T.l [[y2,y3]])
  (fun y6=>k0 (wL y6)))))
def TU:PS CX aD:=eF Xm (FN 48 [.one (.own tP m2 []),.one (AS),.one (AS)] 3 1 Bw YR) Tryz.f48 ⟨48,3,42,65⟩ [L1 [0,0,1,1,1] akl 4 4 mo (.exit 0) akl]
def iZ (m:Nat):Nat->yA7
 | 0=>yZ7
 | n+1=>fun x0 x1 x2 x3 k0 =>
  cond (decide (x2.int<x1.int))
  (aQ x2 x0
  (cond ((aG x0 x2 0).int==1)
  (Bw m (wL x3) (aG x0 x2 1) (aG x0 x2 2)
  (fun y1=>iZ m n x0 x1 (aT x2) (wL y1) k0))
  (cond ((aG x0 x2 0).int==2)
  (Bd m (wL x3) (aG x0 x2 1)
  (fun y2=>iZ m n x0 x1 (aT x2) (wL y2) k0))
  (iZ m n x0 x1 (aT x2) (wL x3) k0))))
  (k0 (wL x3))
def vZ:Nat->EF
 | 0=>ES
 | m+1=>fun x0 x1 k0 =>
  bM m (wL x0)
  (fun y0=>iZ m m (wL x1) (T.i (x1.rows.length:Int)) (T.i 0) (wL y0)
  (fun y6=>k0 (wL y6)))
def Xn:PS CX aD:=eF TU (FN 17 ada 2 1 vZ YR) Tryz.f17 ⟨17,2,34,16⟩ [L1 jT ⟨[(5,.one (LA (KI 0) tP)),(10,.one (LD tO)),(11,.one (LI)),(12,.one (LI))],[ac6,iB]⟩ 4 1 iZ (.exit 0) agI]
def tu:Nat->amr
 | 0=>ao2
 | m+1=>fun x0 x1 x2 x3 x4 x5 k0 k1 =>
  o9 m (wL x5) x3
  (fun y0=>cond (x2.int==1)
  ((fun (j5:An) =>
  cond ((decide (y0.int>=0))==false)
  (qL m (wL x1) (wL x4)
  (fun y1=>cond (y1.bool==false)
  (zT m (wL x0) (wL x4)
  (fun y2=>cond (!y2.bool)
  (k0 (T.b false) (wL x0) (wL x1))
  (j5)))
  (k0 (T.b false) (wL x0) (wL x1))))
  (k0 (T.b false) (wL x0) (wL x1)))
  (aL m (wL x4)
  (fun y4=>cond (decide ((x1.rows.length+1) * 3<=ak))
  (k0 (T.b true) (wL x0) (T.l (x1.rows++[[(T.i 1),x3,(wL y4)]])))
  (.bad))))
  (o9 m (wL x1) x3
  (fun y6=>cond (decide (y6.int<0))
  (cond ((x2.int==3)==true)
  (k0 (T.b (!(decide (y0.int>=0)))) (wL x0) (wL x1))
  (k0 (T.b false) (wL x0) (wL x1)))
  (cond (x2.int==2)
  (aQ y6 x1
  (cond (decide ((Int.toNat y6.int)<x1.rows.length))
  (vZ m (wL x0) (wL (aG x1 y6 2))
  (fun y8=>aX m (wL x1) y6 (aT y6)
  (fun y9=>k1 (T.b (decide ((y8.rows.length:Int)<=60))) (wL x0) (wL y8) (wL y9))))
  (.bad)))
  (aX m (wL x1) y6 (aT y6)
  (fun mF=>k0 (T.b (decide ((x0.rows.length:Int)<=60))) (wL x0) (wL mF)))))))
def Km:PS CX aD:=eF Xn (F2 170 [.bx [.own tP m2 [],.own tR m3 []],Hw,CS] 6 3 4 tu ⟨[.one (RB)],[[none,none],CR,[none]],akq⟩ ⟨[.one (RB)],[[some (tP,m2,[]),none],CR,[none]],akq⟩) Tryz.f170 ⟨170,3,104,65⟩
def fI (m:Nat):Nat->T->T->T->T->T->T->T->(T->T->T->An)->(T->T->T->An)->An
 | 0,_,_,_,_,_,_,_,_,_=>.bad
 | n+1,x0,x1,x2,x3,x4,x5,x6,k0,k1 =>
  cond (decide (x4.int<x3.int))
  ((fun (j15:T->T->An) =>
  aQ x4 x2
  (Ej m (aG x2 x4 0) (aG x2 x4 1) (wL (aG x2 x4 2))
  (fun y0=>cond ((!y0.bool)==false)
  (cond (decide ((0:Int)<=x4.int/\x4.int<=(x0.rows.length:Int)))
  (cond (decide ((0:Int)<=0/\0<=x4.int))
  (tu m (wL x5) (wL x6) (aG x2 x4 0) (aG x2 x4 1) (wL (aG x2 x4 2)) (T.l (x0.rows.take (Int.toNat x4.int)))
  (fun y1 y2 y3=>cond (!y1.bool)
  (k0 (T.b false) (T.l []) (T.l []))
  (j15 (wL y2) (wL y3)))
  (fun y4 y5 y6 y7=>cond (!y4.bool)
  (k0 (T.b false) (T.l []) (T.l []))
  (j15 (wL y6) (wL y7))))
  (.bad))
  (.bad))
  (k0 (T.b false) (T.l []) (T.l [])))))
  (fun y13 nS=>fI m n x0 (T.i (x1.int.toNat:Int)) x2 x3 (aT x4) (wL y13) (wL nS) k0 k1))
  (k1 (T.i (x1.int.toNat:Int)) (wL x5) (wL x6))
def pR:Nat->yA4
 | 0=>yZ4
 | m+1=>fun x0 k0 =>
  fI m m (wL x0) (T.i 0) (wL x0) (T.i (x0.rows.length:Int)) (T.i 0) (T.l []) (T.l [])
  (fun sF qU su=>k0 (wL qU) (wL su) sF)
  (fun xJ y20 y21=>k0 (wL y20) (wL y21) (T.b true))
def Kn:PS CX aD:=eF Km (FN 124 [CS] 1 3 pR akr) Tryz.f124 ⟨124,1,31,28⟩ [L2 jT ⟨[(0,.one (LD tR)),(5,EP 1),(8,.one (LD tR)),(9,.one (LI)),(10,.one (LI))],[iB,((KI 1),.box [LA (KI 2) tP,LA (KI 3) tR]),((KI 2),.row tP m2 []),((KI 3),.row tR m3 [])]⟩ 7 3 3 fI .ret akP (.exit 0) ⟨[(5,EP 0)],[((KI 0),.box [LA (KI 1) tP,LA (KI 2) tR]),((KI 1),.row tP m2 []),((KI 2),.row tR m3 [])]⟩]
def bL (m:Nat):Nat->Lv
 | 0=>NC
 | n+1=>fun x0 x1 x2 x3 k0 k1 =>
  cond (decide (x3.int<x2.int))
  (aQ x3 x0
  (aQ x3 x1
  (cond (!(((aG x0 x3 0).str.toList==(aG x1 x3 0).str.toList)&&(((aG x0 x3 1).str.toList==(aG x1 x3 1).str.toList)&&true)))
  (k0 (T.b false))
  (bL m n x0 x1 x2 (aT x3) k0 k1))))
  (k1 )
def dU:Nat->EF
 | 0=>ES
 | m+1=>fun x0 x1 k0 =>
  cond ((x0.rows.length:Int) != (x1.rows.length:Int))
  (k0 (T.b false))
  (bL m m (wL x0) (wL x1) (T.i (x0.rows.length:Int)) (T.i 0)
  (fun y0=>k0 y0)
  (k0 (T.b true)))
def rM:PS CX aD:=eF Kn (FN 125 [UQ,UQ] 2 1 dU [.one (RB)]) Tryz.f125 ⟨125,2,26,16⟩ [L2 jT ⟨[(0,.one (LD tP)),(1,.one (LD tP)),(12,.one (LI)),(13,.one (LI))],iV⟩ 4 1 0 bL .ret xw (.exit 0) ⟨[],[]⟩]
def bS (m:Nat):Nat->Lv
 | 0=>NC
 | n+1=>fun x0 x1 x2 x3 k0 k1 =>
  cond (decide (x3.int<x2.int))
  (aQ x3 x0
  (aQ x3 x1
  (cond (!(((aG x0 x3 0).int==(aG x1 x3 0).int)&&(((aG x0 x3 1).str.toList==(aG x1 x3 1).str.toList)&&(((aG x0 x3 2).str.toList==(aG x1 x3 2).str.toList)&&true))))
  (k0 (T.b false))
  (bS m n x0 x1 x2 (aT x3) k0 k1))))
  (k1 )
def bZ:Nat->EF
 | 0=>ES
 | m+1=>fun x0 x1 k0 =>
  cond ((x0.rows.length:Int) != (x1.rows.length:Int))
  (k0 (T.b false))
  (bS m m (wL x0) (wL x1) (T.i (x0.rows.length:Int)) (T.i 0)
  (fun y0=>k0 y0)
  (k0 (T.b true)))
def uR:PS CX aD:=eF rM (FN 97 [qE,qE] 2 1 bZ [.one (RB)]) Tryz.f97 ⟨97,2,26,16⟩ [L2 jT ⟨[(0,.one (LD tO)),(1,.one (LD tO)),(12,.one (LI)),(13,.one (LI))],iV⟩ 4 1 0 bS .ret xw (.exit 0) ⟨[],[]⟩]
def yP:Nat->YM
 | 0=>abj
 | m+1=>fun x0 x1 x2 x3 x4 x5 k0 =>
  cond ((x0.int==x3.int)==true)
  (cond ((x1.int==x4.int)==true)
  (bZ m (wL x2) (wL x5)
  (fun y0=>k0 (T.b y0.bool)))
  (k0 (T.b false)))
  (k0 (T.b false))
def Rk:PS CX aD:=eF uR (FN 127 [Hw,Hw] 6 1 yP [.one (RB)]) Tryz.f127 ⟨127,2,24,16⟩
def aM (m:Nat):Nat->Lv
 | 0=>NC
 | n+1=>fun x0 x1 x2 x3 k0 k1 =>
  cond (decide (x3.int<x2.int))
  (aQ x3 x1
  (aQ x3 x0
  (yP m (aG x1 x3 0) (aG x1 x3 1) (wL (aG x1 x3 2)) (aG x0 x3 0) (aG x0 x3 1) (wL (aG x0 x3 2))
  (fun y0=>cond (!y0.bool)
  (k0 (T.b false))
  (aM m n x0 x1 x2 (aT x3) k0 k1)))))
  (k1 )
def bI:Nat->EF
 | 0=>ES
 | m+1=>fun x0 x1 k0 =>
  cond ((x0.rows.length:Int) != (x1.rows.length:Int))
  (k0 (T.b false))
  (aM m m (wL x1) (wL x0) (T.i (x0.rows.length:Int)) (T.i 0)
  (fun y1=>k0 y1)
  (k0 (T.b true)))
def jk:PS CX aD:=eF Rk (FN 126 [CS,CS,.fn 127 []] 2 1 bI [.one (RB)]) Tryz.f126 ⟨126,3,32,64⟩ [L2 jT ⟨[(1,.one (LD tR)),(2,.fn 127 []),(15,.one (LD tR)),(16,.one (LI)),(17,.one (LI))],iV⟩ 4 1 0 aM .ret ⟨[(6,.one (LB))],[]⟩ (.exit 0) ⟨[],[]⟩]
def yQ:Nat->YL
 | 0=>abh
 | m+1=>fun x0 x1 x2 x3 x4 k0 =>
  jn (fun (j9:An) =>
  vY m x0
  (fun y0=>cond ((!y0.bool)==false)
  (dD m x2 (T.i 0) (T.i (x1.rows.length:Int))
  (fun y1=>cond ((!y1.bool)==false)
  (cond (decide ((IntKind.i64.wrap ((x1.rows.length:Int)+(x4.rows.length:Int))) > 300))
  (k0 (T.b false))
  (j9))
  (k0 (T.b false))))
  (k0 (T.b false))))
  (pR m (wL x1)
  (fun y3 y4 y5=>cond (y5.bool==true)
  (dU m (wL y3) (wL x3)
  (fun y6=>cond (y6.bool==true)
  (bI m (wL y4) (wL x4)
  (fun y7=>k0 (T.b y7.bool)))
  (k0 (T.b false))))
  (k0 (T.b false))))
def Rl:PS CX aD:=eF jk (FN 78 agS 5 1 yQ [.one (RB)]) Tryz.f78 ⟨78,1,49,4⟩
def Bz:Nat->YL
 | 0=>abh
 | m+1=>fun x0 x1 x2 x3 x4 k0 =>
  jn (fun (j8:An) =>
  vY m x1
  (fun y0=>cond ((!y0.bool)==false)
  (mh m x2
  (fun y1=>cond (!y1.bool)
  (k0 (T.b false))
  (j8)))
  (k0 (T.b false))))
  (cond (x0.int==1)
  (o7 m (wL x3)
  (fun y3=>cond (y3.bool==true)
  (k0 (T.b (!x4.bool)))
  (k0 (T.b false))))
  ((fun (j7:T->An) =>
  cond (x0.int==2)
  (j7 (T.b true))
  (j7 (T.b (x0.int==3))))
  (fun y5=>cond y5.bool
  (k0 (T.b ((x3.rows.length:Int)==0)))
  (cond (x0.int==4)
  (cond (((x3.rows.length:Int)==0)==true)
  (k0 (T.b (!x4.bool)))
  (k0 (T.b false)))
  (k0 (T.b false))))))
def TV:PS CX aD:=eF Rl (FN 128 [UU] 5 1 Bz [.one (RB)]) Tryz.f128 ⟨128,1,43,4⟩
def eY (m:Nat):Nat->T->T->T->T->T->(T->An)->(T->An)->An
 | 0,_,_,_,_,_,_,_=>.bad
 | n+1,x0,x1,x2,x3,x4,k0,k1 =>
  cond (decide (x4.int<x3.int))
  (aQ x4 x2
  (Bz m (aG x2 x4 0) (aG x2 x4 1) (aG x2 x4 2) (wL (aG x2 x4 3)) (aG x2 x4 4)
  (fun y0=>cond ((!y0.bool)==false)
  (cond (decide ((aG x2 x4 1).int>=((((bJ x0).drop 6).getD 0 dflt).rows.length:Int)))
  (k0 (T.b false))
  (eY m n (T.l [(bJ x0)]) x1 x2 x3 (aT x4) k0 k1))
  (k0 (T.b false)))))
  (k1 x1)
def mP:Nat->EF
 | 0=>ES
 | m+1=>fun x0 x1 k0 =>
  eY m m (T.l [(bJ x0)]) (wL x1) (wL x1) (T.i (x1.rows.length:Int)) (T.i 0)
  (fun y4=>k0 y4)
  (fun y5=>k0 (T.b (decide ((y5.rows.length:Int)<=400))))
def FT:PS CX aD:=eF TV (FN 79 [agX,.one (.dz tW [])] 2 1 mP [.one (RB)]) Tryz.f79 ⟨79,2,30,16⟩ [L2 [0,1,0,1] ⟨[(0,.rp [([4000000],0)] [.sc (.int .i64),.sc (.int .i64),.sc (.int .i64),.sl tJ,.sl tC,.sc (.int .i64),.sl tS,.sl tW,.sl tW,.sl tB] []),(1,.one (LD tW)),(7,.one (LD tW)),(8,.one (LI)),(9,.one (LI))],iV⟩ 5 1 1 eY .ret xw (.exit 0) ⟨[(1,.one (LD tW))],iV⟩]
def qM:Nat->SS
 | 0=>Tv
 | m+1=>fun x0 x1 x2 k0 =>
  k0 (T.b (x0.int==((bJ x2).getD 0 dflt).int))
def El:PS CX aD:=eF FT (FN 154 [.agg [AI,.dz tO []],.Ie tI []] 3 1 qM [.one (RB)]) Tryz.f154 ⟨154,2,8,8⟩
def aZ (m:Nat):Nat->Lv
 | 0=>NC
 | n+1=>fun x0 x1 x2 x3 k0 k1 =>
  cond (decide (x3.int<x2.int))
  (aQ x3 x0
  (qM m (aG x0 x3 0) (wL (aG x0 x3 1)) (T.l [(bJ x1)])
  (fun y0=>cond y0.bool
  (k0 x3)
  (aZ m n x0 (T.l [(bJ x1)]) x2 (aT x3) k0 k1))))
  (k1 )
def dZ:Nat->EF
 | 0=>ES
 | m+1=>fun x0 x1 k0 =>
  aZ m m (wL x0) (T.l [(bJ x1)]) (T.i (x0.rows.length:Int)) (T.i 0)
  (fun y1=>k0 y1)
  (k0 (T.i (-1)))
def oK:PS CX aD:=eF El (FN 153 [.one (.dz tB []),.fn 154 [.Ie tI []]] 2 1 dZ [.one (RI)]) Tryz.f153 ⟨153,2,19,16⟩ [L2 [0,1,0,1] ⟨[(0,.one (LD tB)),(1,.fn 154 [.rp [([4000000],0)] tI []]),(7,.one (LI)),(8,.one (LI))],iV⟩ 4 1 0 aZ .ret Hu (.exit 0) ⟨[],[]⟩]
def fJ:Nat->EF
 | 0=>ES
 | m+1=>fun x0 x1 k0 =>
  dZ m (T.l (((bJ x0).drop 9).getD 0 dflt).rows) (T.l [[x1]])
  (fun y0=>k0 y0)
def FU:PS CX aD:=eF oK (FN 96 ak2 2 1 fJ [.one (RI)]) Tryz.f96 ⟨96,2,11,16⟩
def eZ (m:Nat):Nat->abg
 | 0=>aer
 | n+1=>fun x0 x1 x2 x3 k0 k1 =>
  cond (decide (x3.int<x2.int))
  (aQ x3 x1
  (fJ m (T.l [((bJ x0).take 10)]) (aG x1 x3 0)
  (fun mM=>cond ((decide (mM.int<0))==false)
  (aQ mM (((bJ x0).drop 9).getD 0 dflt)
  (bZ m (T.l ((((((bJ x0).drop 9).getD 0 dflt).rows.getD (Int.toNat mM.int) []).drop 1).getD 0 dflt).rows) (wL (aG x1 x3 1))
  (fun y13=>cond (!y13.bool)
  (k0 (T.b false))
  (eZ m n (T.l [(bJ x0)]) x1 x2 (aT x3) k0 k1))))
  (k0 (T.b false)))))
  (k1 (T.l [(bJ x0)]))
def fq (m:Nat):Nat->abg
 | 0=>aer
 | n+1=>fun x0 x1 x2 x3 k0 k1 =>
  cond (decide (x3.int<x2.int))
  (aQ x3 x1
  (fJ m (T.l [((bJ x0).take 10)]) (aG x1 x3 0)
  (fun y9=>cond (decide (y9.int<0))
  (k0 (T.b false))
  (fq m n (T.l [(bJ x0)]) x1 x2 (aT x3) k0 k1))))
  (k1 (T.l [(bJ x0)]))
def fu (m:Nat):Nat->abg
 | 0=>aer
 | n+1=>fun x0 x1 x2 x3 k0 k1 =>
  cond (decide (x3.int<x2.int))
  (aQ x3 x1
  (o7 m (wL (aG x1 x3 1))
  (fun y0=>cond ((!y0.bool)==false)
  (iE m (T.l [((bJ x0).take 6)])
  (fun y1=>dD m (aG x1 x3 0) (T.i 1000) (T.i (IntKind.i64.wrap (y1.int-1)))
  (fun y2=>cond ((!y2.bool)==false)
  (fJ m (T.l [((bJ x0).take 10)]) (aG x1 x3 0)
  (fun y3=>cond (y3.int != x3.int)
  (k0 (T.b false))
  (fu m n (T.l [(bJ x0)]) x1 x2 (aT x3) k0 k1)))
  (k0 (T.b false)))))
  (k0 (T.b false)))))
  (k1 (T.l [(bJ x0)]))
def pq:Nat->K7
 | 0=>Lx
 | m+1=>fun x0 k0 =>
  fu m m (T.l [(bJ x0)]) (((bJ x0).drop 9).getD 0 dflt) (T.i ((((bJ x0).drop 9).getD 0 dflt).rows.length:Int)) (T.i 0)
  (fun y7=>k0 y7)
  (fun y8=>fq m m (T.l [(bJ y8)]) (((bJ y8).drop 4).getD 0 dflt) (T.i ((((bJ y8).drop 4).getD 0 dflt).rows.length:Int)) (T.i 0)
  (fun mF=>k0 mF)
  (fun mK=>eZ m m (T.l [(bJ mK)]) (((bJ mK).drop 3).getD 0 dflt) (T.i ((((bJ mK).drop 3).getD 0 dflt).rows.length:Int)) (T.i 0)
  (fun qU=>k0 qU)
  (fun su=>k0 (T.b (decide (((((bJ su).drop 9).getD 0 dflt).rows.length:Int)<=1000))))))
def FV:PS CX aD:=eF FU (FN 80 [agX] 1 1 pq [.one (RB)]) Tryz.f80 ⟨80,1,97,4⟩ [L2 Bc ⟨[(0,.rp [([4000000],0)] [.sc (.int .i64),.sc (.int .i64),.sc (.int .i64),.sl tJ,.sl tC,.sc (.int .i64),.sl tS,.sl tW,.sl tW,.sl tB] []),(64,.one (LD tJ)),(65,.one (LI)),(66,.one (LI))],iV⟩ 4 1 1 eZ .ret yh (.exit 4) agY,L2 jT ⟨[(0,.rp [([4000000],0)] [.sc (.int .i64),.sc (.int .i64),.sc (.int .i64),.sl tJ,.sl tC,.sc (.int .i64),.sl tS,.sl tW,.sl tW,.sl tB] []),(48,.one (LD tC)),(49,.one (LI)),(50,.one (LI))],iV⟩ 4 1 1 fq .ret yh (.exit 2) agY,L2 [0,1,0,1] ⟨[(0,.rp [([4000000],0)] [.sc (.int .i64),.sc (.int .i64),.sc (.int .i64),.sl tJ,.sl tC,.sc (.int .i64),.sl tS,.sl tW,.sl tW,.sl tB] []),(13,.one (LD tB)),(14,.one (LI)),(15,.one (LI))],iV⟩ 4 1 1 fu .ret yh (.exit 0) agY]
def kU (m:Nat):Nat->T->T->T->T->T->T->T->T->T->T->T->T->T->T->(T->An)->(T->T->T->T->T->T->T->T->T->T->T->An)->An
 | 0,_,_,_,_,_,_,_,_,_,_,_,_,_,_,_,_=>.bad
 | n+1,x0,x1,x2,x3,x4,x5,x6,x7,x8,x9,x10,bC,dw,dO,k0,k1 =>
  cond (decide (x3.int<x2.int))
  ((fun (j4:An) =>
  aQ x3 x1
  (cond (((aG x1 x3 0).int != x3.int)==false)
  (yQ m (aG x1 x3 0) (wL (aG x1 x3 1)) (aG x1 x3 2) (wL (aG x1 x3 3)) (wL (aG x1 x3 4))
  (fun y2=>cond (!y2.bool)
  (k0 (T.b false))
  (j4)))
  (k0 (T.b false))))
  (kU m n (T.i (x0.int.toNat:Int)) x1 x2 (aT x3) x4 x5 x6 x7 x8 x9 x10 bC dw dO k0 k1))
  (k1 (T.i (x0.int.toNat:Int)) x4 x5 x6 x7 x8 x9 x10 bC dw dO)
def rQ:Nat->yA3
 | 0=>yZ3
 | m+1=>fun x0 x1 x2 x3 x4 x5 x6 x7 x8 x9 k0 =>
  jn (fun (j21:An) =>
  yO m x0 x1 x2 (wL x3) (wL x4) x5
  (fun y0=>cond ((!y0.bool)==false)
  (cond ((x6.rows.length:Int) != x0.int)
  (k0 (T.b false))
  (j21))
  (k0 (T.b false))))
  (kU m m (T.i 0) (wL x6) (T.i (x6.rows.length:Int)) (T.i 0) x0 x1 x2 (wL x3) (wL x4) x5 (wL x6) (wL x7) (wL x8) (wL x9)
  (fun y5=>k0 y5)
  (fun y6 y7 y8 y9 mF mK mM y13 nS qo sF=>mP m (T.l [[y7,y8,y9,(wL mF),(wL mK),mM,(wL y13),(wL nS),(wL qo),(wL sF)]]) (wL nS)
  (fun qU=>cond (qU.bool==true)
  (mP m (T.l [[y7,y8,y9,(wL mF),(wL mK),mM,(wL y13),(wL nS),(wL qo),(wL sF)]]) (wL qo)
  (fun su=>cond (su.bool==true)
  (pq m (T.l [[y7,y8,y9,(wL mF),(wL mK),mM,(wL y13),(wL nS),(wL qo),(wL sF)]])
  (fun xJ=>k0 (T.b xJ.bool)))
  (k0 (T.b false))))
  (k0 (T.b false)))))
def Rm:PS CX aD:=eF FV (FN 37 Qz 10 1 rQ [.one (RB)]) Tryz.f37 ⟨37,1,47,4⟩ [L2 jT ⟨[(1,EP 0),(19,.one (LD tS)),(20,.one (LI)),(21,.one (LI))],U1⟩ 14 1 11 kU .ret yh (.exit 0) ⟨[(1,EP 0)],U1⟩]
def jG (m:Nat):Nat->YM
 | 0=>abj
 | n+1=>fun x0 x1 x2 x3 x4 x5 k0 =>
  cond (decide (x4.int<x3.int))
  (aQ x4 x2
  (vB m (aG x2 x4 1) x1
  (fun y0=>cond (y0.int==x0.int)
  (cond (decide ((x5.rows.length+1) * 3<=ak))
  (jG m n x0 x1 x2 x3 (aT x4) (T.l (x5.rows++[[(aG x2 x4 0),(aG x2 x4 1),(aG x2 x4 2)]])) k0)
  (.bad))
  (jG m n x0 x1 x2 x3 (aT x4) (wL x5) k0))))
  (k0 (wL x5))
def xD:Nat->SS
 | 0=>Tv
 | m+1=>fun x0 x1 x2 k0 =>
  jG m m x1 x2 (wL x0) (T.i (x0.rows.length:Int)) (T.i 0) (T.l [])
  (fun y3=>k0 (wL y3))
def TW:PS CX aD:=eF Rm (FN 98 [qE,.one (AI),.one (AI)] 3 1 xD YT) Tryz.f98 ⟨98,3,28,64⟩ [L1 jT ⟨[(1,.one (LI)),(2,.one (LI)),(7,.one (LA (KI 0) tO)),(10,.one (LD tO)),(11,.one (LI)),(12,.one (LI))],[((KI 0),.row tO m3 []),iB]⟩ 6 1 jG (.exit 0) akk]
def lN:Nat->T->T->T->T->(T->T->T->T->T->An)->An
 | 0,_,_,_,_,_=>.bad
 | m+1,x0,x1,x2,x3,k0 =>
  xD m (wL x2) x3 ((bJ x0).getD 0 dflt)
  (fun y0=>k0 (T.i 1) x3 x1 (wL y0) (T.b false))
def EU:PS CX aD:=eF TW (FN 137 [adl,.one (AI),qE,.one (AI)] 4 5 lN [.agg [RI,RI,RI,.own (KR 0 3) tO m3 [],RB]]) Tryz.f137 ⟨137,4,19,256⟩
def gJ (m:Nat):Nat->T->T->T->T->T->T->T->T->T->T->T->T->T->(T->T->T->T->T->T->T->T->T->An)->An
 | 0,_,_,_,_,_,_,_,_,_,_,_,_,_,_=>.bad
 | n+1,x0,x1,x2,x3,x4,x5,x6,x7,x8,x9,x10,bC,dw,k0 =>
  cond (decide (x5.int<x4.int))
  (aQ x5 x3
  (lN m (T.l [[x6,x7,x8,(wL bC),(wL dw),x9]]) x2 (wL x1) (aG x3 x5 0)
  (fun y5 y6 y7 y8 y9=>cond (decide ((x10.rows.length+1) * 5<=ak))
  (gJ m n (T.i (x0.int.toNat:Int)) x1 x2 x3 x4 (aT x5) x6 x7 x8 x9 (T.l (x10.rows++[[y5,y6,y7,(wL y8),y9]])) (wL bC) (wL dw) k0)
  (.bad))))
  (k0 (T.i (x0.int.toNat:Int)) x2 x6 x7 x8 x9 (wL x10) (wL bC) (wL dw))
def rT:Nat->ami
 | 0=>aoU
 | m+1=>fun x0 x1 x2 x3 x4 x5 x6 k0 =>
  jn (fun (j19:An) =>
  o7 m (wL x6)
  (fun y0=>cond ((!y0.bool)==false)
  (cond ((x2.int==999)==false)
  (cond (decide ((x4.rows.length:Int)>=1000))
  (k0 (T.l []) (T.i 0) x0 x1 x2 (wL x3) (wL x4) x5)
  (j19))
  (k0 (T.l []) (T.i 0) x0 x1 x2 (wL x3) (wL x4) x5))
  (k0 (T.l []) (T.i 0) x0 x1 x2 (wL x3) (wL x4) x5)))
  (iE m (T.l [[x0,x1,x2,(wL x3),(wL x4),x5]])
  (fun y2=>aL m (wL x6)
  (fun y3=>cond (decide ((x3.rows.length+1) * 4<=ak))
  (jV m (wL x6) x0
  (fun y4=>gJ m m (T.i 0) (wL x6) y2 (wL y4) (T.i (y4.rows.length:Int)) (T.i 0) x0 x1 (aT x2) x5 (T.l []) (T.l (x3.rows++[[y2,(wL y3),(T.i 1),(T.l [])]])) (wL x4)
  (fun mF mK mM y13 nS qo sF qU su=>k0 (wL sF) mK mM y13 nS (wL qU) (wL su) qo)))
  (.bad))))
def IK:PS CX aD:=eF EU (F1 130 [agQ,qE] 7 8 rT ⟨[adh,.one (RI)],agC,akD⟩) Tryz.f130 ⟨130,2,72,49⟩ [L1 [0,1,0,1,1,1,1,1,1] ⟨[(0,.ptr [0,999999] 0 0 0),(1,.one (LD tO)),(6,.one (LI)),(7,.one (LA (KI 2) tW)),(55,.one (LZ tI)),(56,.one (LI)),(57,.one (LI))],[([0,999999],.box [LI,LI,LI,LA (KI 3) tJ,LA [0,4] tC,LI]),iB,ade,agJ,EG]⟩ 13 9 gJ (.exit 0) ⟨[(0,.ptr [0,999999] 0 0 0),(6,.one (LI)),(7,.one (LA (KI 1) tW))],[([0,999999],.box [LI,LI,LI,LA (KI 2) tJ,LA [0,4] tC,LI]),Hz,((KI 2),.row tJ [.F,.F,.F,.O [.F]] []),EG]⟩]
def kr:Nat->aep
 | 0=>agz
 | m+1=>fun x0 x1 x2 x3 x4 x5 x6 x7 x8 x9 x10 k0 =>
  cond (decide ((0:Int)<=(ow (x10.rows.length:Int) (qX (IntKind.i64.wrap (400-(x7.rows.length:Int))) 0))/\(ow (x10.rows.length:Int) (qX (IntKind.i64.wrap (400-(x7.rows.length:Int))) 0))<=(x10.rows.length:Int)))
  (cond (decide ((0:Int)<=0/\0<=(ow (x10.rows.length:Int) (qX (IntKind.i64.wrap (400-(x7.rows.length:Int))) 0))))
  (cond (decide ((x7.rows.length+(x10.rows.take (Int.toNat (ow (x10.rows.length:Int) (qX (IntKind.i64.wrap (400-(x7.rows.length:Int))) 0)))).length) * 5<=ak))
  (k0 (wL x3) (wL x4) (wL x6) (wL x8) (wL x9) x0 x1 x2 x5 (T.l (x7.rows++(x10.rows.take (Int.toNat (ow (x10.rows.length:Int) (qX (IntKind.i64.wrap (400-(x7.rows.length:Int))) 0)))))))
  (.bad))
  (.bad))
  (.bad)
def Ma:PS CX aD:=eF IK (F1 84 [U3,.one (.fz tW [])] 11 10 kr ⟨[],[[none,none,none,some (tJ,[.F,.F,.F,.O [.F]],[]),some (tC,m2,[]),none,some (tS,mS,[]),none,some (tW,m5,[]),some (tB,m2,[])],[none]],akB⟩) Tryz.f84 ⟨84,2,26,1⟩
def rU:Nat->amk
 | 0=>aoW
 | m+1=>fun x0 x1 x2 x3 x4 x5 x6 x7 x8 x9 x10 k0 =>
  cond (decide ((x9.rows.length:Int)>=1000))
  (k0 (T.b false) x0 x1 x2 (wL x3) (wL x4) x5 (wL x6) (wL x7) (wL x8) (wL x9))
  (rT m x0 x1 x2 (wL x3) (wL x4) x5 (wL x10)
  (fun y0 y1 y2 y3 y4 y5 y6 y7=>cond (y1.int==0)
  (k0 (T.b false) y2 y3 y4 (wL y5) (wL y6) y7 (wL x6) (wL x7) (wL x8) (wL x9))
  (kr m y2 y3 y4 (wL y5) (wL y6) y7 (wL x6) (wL x7) (wL x8) (wL x9) (wL y0)
  (fun y8 y9 mF mK mM y13 nS qo sF qU=>aL m (wL x10)
  (fun su=>cond (decide ((mM.rows.length+1) * 2<=ak))
  (k0 (T.b true) y13 nS qo (wL y8) (wL y9) sF (wL mF) (wL qU) (wL mK) (T.l (mM.rows++[[y1,(wL su)]])))
  (.bad))))))
def IL:PS CX aD:=eF Ma (F1 81 [U3,qE] 11 11 rU ⟨[.one (RB)],agE,abl⟩) Tryz.f81 ⟨81,2,39,17⟩
def jH:Nat->EF
 | 0=>ES
 | m+1=>fun x0 x1 k0 =>
  o9 m (T.l (((bJ x0).drop 1).getD 0 dflt).rows) x1
  (fun y0=>o9 m (T.l (((bJ x0).drop 4).getD 0 dflt).rows) x1
  (fun y1=>cond (decide (y1.int>=0))
  (k0 (T.i 1))
  (cond (decide (y0.int<0))
  (k0 (T.i 2))
  (aQ y0 (((bJ x0).drop 1).getD 0 dflt)
  (cond ((((((bJ x0).drop 1).getD 0 dflt).rows.getD (Int.toNat y0.int) []).getD 0 dflt).int==2)
  (k0 (T.i 3))
  (k0 (T.i 4)))))))
def FW:PS CX aD:=eF IL (FN 183 [.Ie tS [],.one (AI)] 2 1 jH [.one (RI)]) Tryz.f183 ⟨183,2,33,16⟩
def gZ (m:Nat):Nat->T->T->T->T->T->T->(T->T->T->An)->An
 | 0,_,_,_,_,_,_,_=>.bad
 | n+1,x0,x1,x2,x3,x4,x5,k0 =>
  cond (decide (x5.int<x4.int))
  (aQ x5 x3
  (gZ m n (T.l [(bJ x0)]) x1 (T.i (IntKind.i64.wrap (x2.int+((aG x3 x5 2).rows.length:Int)))) x3 x4 (aT x5) k0))
  (k0 (T.l [(bJ x0)]) x1 x2)
def tF:Nat->EF
 | 0=>ES
 | m+1=>fun x0 x1 k0 =>
  gZ m m (T.l [(bJ x0)]) (wL x1) (T.i (IntKind.i64.wrap (((((bJ x0).drop 3).getD 0 dflt).rows.length:Int)+(x1.rows.length:Int)))) (((bJ x0).drop 4).getD 0 dflt) (T.i ((((bJ x0).drop 4).getD 0 dflt).rows.length:Int)) (T.i 0)
  (fun y0 y1 y2=>qL m (T.l (((bJ y0).drop 4).getD 0 dflt).rows) (wL y1)
  (fun y3=>cond ((!y3.bool)==true)
  (zT m (T.l (((bJ y0).drop 3).getD 0 dflt).rows) (wL y1)
  (fun y4=>cond (y4.bool==true)
  (cond ((decide (y2.int<=60))==true)
  (k0 (T.b (decide ((IntKind.i64.wrap ((IntKind.i64.wrap (((((bJ y0).drop 1).getD 0 dflt).rows.length:Int)+((((bJ y0).drop 4).getD 0 dflt).rows.length:Int)))+2))<=300))))
  (k0 (T.b false)))
  (k0 (T.b false))))
  (k0 (T.b false))))
def Ko:PS CX aD:=eF FW (FN 200 [.Ie tS [],qE] 2 1 tF [.one (RB)]) Tryz.f200 ⟨200,2,65,16⟩ [L1 jT ⟨[(0,.rp [([4000000],0)] tS []),(1,.one (LD tO)),(5,.one (LI)),(19,.one (LD tR)),(20,.one (LI)),(21,.one (LI))],iV⟩ 6 3 gZ (.exit 0) ⟨[(0,.rp [([4000000],0)] tS []),(1,.one (LD tO)),(5,.one (LI))],iV⟩]
def tH:Nat->T->T->T->T->T->T->T->(T->T->T->T->T->T->An)->An
 | 0,_,_,_,_,_,_,_,_=>.bad
 | m+1,x0,x1,x2,x3,x4,x5,x6,k0 =>
  jn (fun (j7:An) =>
  mh m x5
  (fun y0=>cond ((!y0.bool)==false)
  (o7 m (wL x6)
  (fun y1=>cond (!y1.bool)
  (k0 (T.i 5) x0 (wL x1) x2 (wL x3) (wL x4))
  (j7)))
  (k0 (T.i 5) x0 (wL x1) x2 (wL x3) (wL x4))))
  (jH m (T.l [[x0,(wL x1),x2,(wL x3),(wL x4)]]) x5
  (fun y3=>cond (y3.int != 2)
  (k0 y3 x0 (wL x1) x2 (wL x3) (wL x4))
  (tF m (T.l [[x0,(wL x1),x2,(wL x3),(wL x4)]]) (wL x6)
  (fun y4=>cond (!y4.bool)
  (k0 (T.i 2) x0 (wL x1) x2 (wL x3) (wL x4))
  (aL m (wL x6)
  (fun y5=>cond (decide ((x1.rows.length+1) * 3<=ak))
  (aL m (wL x6)
  (fun y6=>cond (decide ((x4.rows.length+1) * 3<=ak))
  (k0 (T.i 1) x0 (T.l (x1.rows++[[(T.i 1),x5,(wL y5)]])) x2 (wL x3) (T.l (x4.rows++[[(T.i 1),x5,(wL y6)]])))
  (.bad)))
  (.bad)))))))
def Kq:PS CX aD:=eF Ko (F1 181 akN 7 6 tH akR) Tryz.f181 ⟨181,3,54,65⟩
def tK:Nat->ai5
 | 0=>amE
 | m+1=>fun x0 x1 x2 x3 x4 x5 x6 x7 x8 x9 x10 bC dw dO fO k0 =>
  aQ bC x6
  (cond (decide ((Int.toNat bC.int)<x6.rows.length))
  (tH m ((x6.rows.getD (Int.toNat bC.int) []).headD dflt) (T.l ((x6.rows.getD (Int.toNat bC.int) []).tail.headD dflt).rows) ((x6.rows.getD (Int.toNat bC.int) []).tail.tail.headD dflt) (T.l ((x6.rows.getD (Int.toNat bC.int) []).tail.tail.tail.headD dflt).rows) (T.l ((x6.rows.getD (Int.toNat bC.int) []).tail.tail.tail.tail.headD dflt).rows) dw (wL dO)
  (fun y0 y1 y2 y3 y4 y5=>jn (fun (j11:T->An) =>
  cond ((y0.int==5)==false)
  (cond (decide ((x8.rows.length:Int)>=400))
  (k0 x0 x1 x2 (wL x3) (wL x4) x5 (T.l (x6.rows.set (Int.toNat bC.int) [y1,(wL y2),y3,(wL y4),(wL y5)])) (wL x7) (wL x8) (wL x9))
  (j11 (T.l (x6.rows.set (Int.toNat bC.int) [y1,(wL y2),y3,(wL y4),(wL y5)]))))
  (k0 x0 x1 x2 (wL x3) (wL x4) x5 (T.l (x6.rows.set (Int.toNat bC.int) [y1,(wL y2),y3,(wL y4),(wL y5)])) (wL x7) (wL x8) (wL x9)))
  (fun y8=>(fun (j10:T->An) =>
  cond ((y0.int==1)==false)
  (j10 (T.b (y0.int==3)))
  (j10 (T.b true)))
  (fun y9=>cond (decide ((x8.rows.length+1) * 5<=ak))
  (k0 x0 x1 x2 (wL x3) (wL x4) x5 (wL y8) (wL x7) (T.l (x8.rows++[[(T.i 2),bC,dw,(T.l []),y9]])) (wL x9))
  (.bad)))))
  (.bad))
def Kr:PS CX aD:=eF Kq (F1 157 [U3,UU] 15 10 tK ⟨[],akf,abl⟩) Tryz.f157 ⟨157,2,49,1⟩
def qg:Nat->ai4
 | 0=>amD
 | m+1=>fun x0 x1 x2 x3 x4 x5 x6 k0 k1 =>
  mh m x5
  (fun y0=>cond (!y0.bool)
  (k0 (T.b false) x0 (wL x1) x2 (wL x3) (wL x4))
  (jn (fun (j9:T->An) =>
  cond x6.bool
  (j9 (T.i 2))
  (j9 (T.i 3)))
  (fun y1=>o9 m (wL x4) x5
  (fun y2=>(fun (j8:An) =>
  jH m (T.l [[x0,(wL x1),x2,(wL x3),(wL x4)]]) x5
  (fun y3=>cond (y3.int==1)
  (cond x6.bool
  (aQ y2 x4
  (cond (decide ((Int.toNat y2.int)<x4.rows.length))
  (vZ m (wL x3) (wL (aG x4 y2 2))
  (fun y4=>aX m (wL x4) y2 (aT y2)
  (fun y5=>cond (decide ((x1.rows.length+1) * 3<=ak))
  (k1 (T.b true) (wL x3) x0 (T.l (x1.rows++[[y1,x5,(T.l [])]])) x2 (wL y4) (wL y5))
  (.bad))))
  (.bad)))
  (aX m (wL x4) y2 (aT y2)
  (fun y6=>cond (decide ((x1.rows.length+1) * 3<=ak))
  (k0 (T.b true) x0 (T.l (x1.rows++[[y1,x5,(T.l [])]])) x2 (wL x3) (wL y6))
  (.bad))))
  (cond (y3.int==3)
  (k0 x6 x0 (wL x1) x2 (wL x3) (wL x4))
  (cond (y3.int==4)
  (k0 (T.b (!x6.bool)) x0 (wL x1) x2 (wL x3) (wL x4))
  (cond (x6.bool==false)
  (cond (decide ((IntKind.i64.wrap ((x1.rows.length:Int)+(x4.rows.length:Int)))>=300))
  (k0 (T.b false) x0 (wL x1) x2 (wL x3) (wL x4))
  (j8))
  (k0 (T.b false) x0 (wL x1) x2 (wL x3) (wL x4)))))))
  (cond (decide ((x1.rows.length+1) * 3<=ak))
  (k0 (T.b true) x0 (T.l (x1.rows++[[y1,x5,(T.l [])]])) x2 (wL x3) (wL x4))
  (.bad))))))
def GV:PS CX aD:=eF Kr (F2 158 akI 7 6 7 qg akQ akS) Tryz.f158 ⟨158,3,86,65⟩
def qh:Nat->YL
 | 0=>abh
 | m+1=>fun x0 x1 x2 x3 x4 k0 =>
  cond ((x0.int==((bJ x4).getD 0 dflt).int)==true)
  (k0 (T.b (x2.int==1)))
  (k0 (T.b false))
def GX:PS CX aD:=eF GV (FN 186 [agH,.Ie tI []] 5 1 qh [.one (RB)]) Tryz.f186 ⟨186,2,13,8⟩
def bF (m:Nat):Nat->Lv
 | 0=>NC
 | n+1=>fun x0 x1 x2 x3 k0 k1 =>
  cond (decide (x3.int<x2.int))
  (aQ x3 x0
  (qh m (aG x0 x3 0) (wL (aG x0 x3 1)) (aG x0 x3 2) (wL (aG x0 x3 3)) (T.l [(bJ x1)])
  (fun y0=>cond y0.bool
  (k0 x3)
  (bF m n x0 (T.l [(bJ x1)]) x2 (aT x3) k0 k1))))
  (k1 )
def dJ:Nat->EF
 | 0=>ES
 | m+1=>fun x0 x1 k0 =>
  bF m m (wL x0) (T.l [(bJ x1)]) (T.i (x0.rows.length:Int)) (T.i 0)
  (fun y1=>k0 y1)
  (k0 (T.i (-1)))
def qp:PS CX aD:=eF GX (FN 185 [.one (.dz tJ []),.fn 186 [.Ie tI []]] 2 1 dJ [.one (RI)]) Tryz.f185 ⟨185,2,19,16⟩ [L2 [0,1,0,1] ⟨[(0,.one (LD tJ)),(1,.fn 186 [.rp [([4000000],0)] tI []]),(7,.one (LI)),(8,.one (LI))],iV⟩ 4 1 0 bF .ret Hu (.exit 0) ⟨[],[]⟩]
def tL:Nat->amo
 | 0=>ao0
 | m+1=>fun x0 x1 x2 x3 x4 x5 x6 x7 x8 k0 =>
  dJ m (wL x3) (T.l [[x7]])
  (fun y0=>jn (fun (j8:An) =>
  cond ((decide (y0.int<0))==false)
  (cond (decide ((x4.rows.length:Int)>=1000))
  (k0 x0 x1 x2 (wL x3) (wL x4) x5)
  (j8))
  (k0 x0 x1 x2 (wL x3) (wL x4) x5))
  (aQ y0 x3
  (cond (decide ((Int.toNat y0.int)<x3.rows.length))
  (jV m (wL (aG x3 y0 1)) x0
  (fun y2=>dA m (wL y2) x6
  (fun y3=>cond (!y3.bool)
  (k0 x0 x1 x2 (wL x3) (wL x4) x5)
  (cond (!x8.bool)
  (cond (decide ((x4.rows.length+1) * 2<=ak))
  (cond (decide ((Int.toNat y0.int)<x3.rows.length))
  (k0 x0 x1 x2 (T.l (x3.rows.set (Int.toNat y0.int) ((x3.rows.getD (Int.toNat y0.int) []).set 2 (T.i 3)))) (T.l (x4.rows++[[x7,(T.b false)]])) x5)
  (.bad))
  (.bad))
  (jn (fun (j7:T->An) =>
  cond (decide ((Int.toNat y0.int)<x3.rows.length))
  (dA m (wL (aG x3 y0 3)) x6
  (fun y4=>cond (!y4.bool)
  (cond (decide ((Int.toNat y0.int)<x3.rows.length))
  (cond (decide ((Int.toNat y0.int)<x3.rows.length))
  (cond (decide ((((x3.rows.getD (Int.toNat y0.int) []).tail.tail.tail.headD dflt).rows.length+1) * 1<=ak))
  (cond (Nat.beq (Int.toNat y0.int) (Int.toNat y0.int))
  (cond (decide ((Int.toNat y0.int)<(x3.rows.set (Int.toNat y0.int) [((x3.rows.getD (Int.toNat y0.int) []).headD dflt),((x3.rows.getD (Int.toNat y0.int) []).tail.headD dflt),((x3.rows.getD (Int.toNat y0.int) []).tail.tail.headD dflt),(T.l (((x3.rows.getD (Int.toNat y0.int) []).tail.tail.tail.headD dflt).rows++[[x6]]))]).length))
  (cond (decide ((Int.toNat y0.int)<(x3.rows.set (Int.toNat y0.int) [((x3.rows.getD (Int.toNat y0.int) []).headD dflt),((x3.rows.getD (Int.toNat y0.int) []).tail.headD dflt),((x3.rows.getD (Int.toNat y0.int) []).tail.tail.headD dflt),(T.l (((x3.rows.getD (Int.toNat y0.int) []).tail.tail.tail.headD dflt).rows++[[x6]]))]).length))
  (uO m (T.l (((x3.rows.set (Int.toNat y0.int) [((x3.rows.getD (Int.toNat y0.int) []).headD dflt),((x3.rows.getD (Int.toNat y0.int) []).tail.headD dflt),((x3.rows.getD (Int.toNat y0.int) []).tail.tail.headD dflt),(T.l (((x3.rows.getD (Int.toNat y0.int) []).tail.tail.tail.headD dflt).rows++[[x6]]))]).getD (Int.toNat y0.int) []).tail.tail.tail.headD dflt).rows)
  (fun y5=>j7 (T.l ((x3.rows.set (Int.toNat y0.int) [((x3.rows.getD (Int.toNat y0.int) []).headD dflt),((x3.rows.getD (Int.toNat y0.int) []).tail.headD dflt),((x3.rows.getD (Int.toNat y0.int) []).tail.tail.headD dflt),(T.l (((x3.rows.getD (Int.toNat y0.int) []).tail.tail.tail.headD dflt).rows++[[x6]]))]).set (Int.toNat y0.int) [(((x3.rows.set (Int.toNat y0.int) [((x3.rows.getD (Int.toNat y0.int) []).headD dflt),((x3.rows.getD (Int.toNat y0.int) []).tail.headD dflt),((x3.rows.getD (Int.toNat y0.int) []).tail.tail.headD dflt),(T.l (((x3.rows.getD (Int.toNat y0.int) []).tail.tail.tail.headD dflt).rows++[[x6]]))]).getD (Int.toNat y0.int) []).headD dflt),(((x3.rows.set (Int.toNat y0.int) [((x3.rows.getD (Int.toNat y0.int) []).headD dflt),((x3.rows.getD (Int.toNat y0.int) []).tail.headD dflt),((x3.rows.getD (Int.toNat y0.int) []).tail.tail.headD dflt),(T.l (((x3.rows.getD (Int.toNat y0.int) []).tail.tail.tail.headD dflt).rows++[[x6]]))]).getD (Int.toNat y0.int) []).tail.headD dflt),(((x3.rows.set (Int.toNat y0.int) [((x3.rows.getD (Int.toNat y0.int) []).headD dflt),((x3.rows.getD (Int.toNat y0.int) []).tail.headD dflt),((x3.rows.getD (Int.toNat y0.int) []).tail.tail.headD dflt),(T.l (((x3.rows.getD (Int.toNat y0.int) []).tail.tail.tail.headD dflt).rows++[[x6]]))]).getD (Int.toNat y0.int) []).tail.tail.headD dflt),(wL y5)]))))
  (.bad))
  (.bad))
  (.bad))
  (.bad))
  (.bad))
  (.bad))
  (j7 (wL x3))))
  (.bad))
  (fun y6=>cond (decide ((Int.toNat y0.int)<y6.rows.length))
  (cond (((aG y6 y0 3).rows.length:Int)==(y2.rows.length:Int))
  (cond (decide ((x4.rows.length+1) * 2<=ak))
  (cond (decide ((Int.toNat y0.int)<y6.rows.length))
  (k0 x0 x1 x2 (T.l (y6.rows.set (Int.toNat y0.int) ((y6.rows.getD (Int.toNat y0.int) []).set 2 (T.i 2)))) (T.l (x4.rows++[[x7,(T.b true)]])) x5)
  (.bad))
  (.bad))
  (k0 x0 x1 x2 (wL y6) (wL x4) x5))
  (.bad)))))))
  (.bad))))
def Kt:PS CX aD:=eF qp (F1 159 [agQ,.one (AI),.one (AI),.one (AB)] 9 6 tL ⟨[],akb,[some akz,none,none,none]⟩) Tryz.f159 ⟨159,4,106,1⟩
def nQ:Nat->ai3
 | 0=>amC
 | m+1=>fun x0 x1 k0 =>
  cond (decide (x1.int<1000))
  (k0 (T.b false) (T.b false))
  (iO m (T.l [((bJ x0).take 6)]) x1
  (fun y0=>cond (decide (y0.int<0))
  (k0 (T.b false) (T.b (decide (x1.int<(IntKind.i64.wrap ((((bJ x0).drop 1).getD 0 dflt).int * 1000))))))
  (cond (decide (y0.int>=(((bJ x0).drop 5).getD 0 dflt).int))
  (k0 (T.b false) (T.b false))
  (aQ y0 (((bJ x0).drop 4).getD 0 dflt)
  (k0 ((((((bJ x0).drop 4).getD 0 dflt).rows.getD (Int.toNat y0.int) []).drop 1).getD 0 dflt) (T.b true))))))
def GY:PS CX aD:=eF Kt (FN 135 akC 2 2 nQ [.one (RB),.one (RB)]) Tryz.f135 ⟨135,2,35,48⟩
def tN:Nat->aep
 | 0=>agz
 | m+1=>fun x0 x1 x2 x3 x4 x5 x6 x7 x8 x9 x10 k0 =>
  aQ x10 x7
  (cond (decide ((Int.toNat x10.int)<x7.rows.length))
  (bR m (wL x7) x10 (aT x10)
  (fun y0=>cond ((aG x7 x10 0).int==1)
  (tK m x0 x1 x2 (wL x3) (wL x4) x5 (wL x6) (wL y0) (wL x8) (wL x9) (aG x7 x10 0) (aG x7 x10 1) (aG x7 x10 2) (wL (aG x7 x10 3)) (aG x7 x10 4)
  (fun y1 y2 y3 y4 y5 y6 y7 y8 y9 mF=>k0 y1 y2 y3 (wL y4) (wL y5) y6 (wL y7) (wL y8) (wL y9) (wL mF)))
  (cond ((aG x7 x10 0).int==3)
  (cond (decide ((0:Int)<=(aG x7 x10 1).int/\(aG x7 x10 1).int<(x6.rows.length:Int)))
  (cond (decide ((Int.toNat (aG x7 x10 1).int)<x6.rows.length))
  (qg m ((x6.rows.getD (Int.toNat (aG x7 x10 1).int) []).headD dflt) (T.l ((x6.rows.getD (Int.toNat (aG x7 x10 1).int) []).tail.headD dflt).rows) ((x6.rows.getD (Int.toNat (aG x7 x10 1).int) []).tail.tail.headD dflt) (T.l ((x6.rows.getD (Int.toNat (aG x7 x10 1).int) []).tail.tail.tail.headD dflt).rows) (T.l ((x6.rows.getD (Int.toNat (aG x7 x10 1).int) []).tail.tail.tail.tail.headD dflt).rows) (aG x7 x10 2) (aG x7 x10 4)
  (fun mK mM y13 nS qo sF=>k0 x0 x1 x2 (wL x3) (wL x4) x5 (T.l (x6.rows.set (Int.toNat (aG x7 x10 1).int) [mM,(wL y13),nS,(wL qo),(wL sF)])) (wL y0) (wL x8) (wL x9))
  (fun qU su xJ y20 y21 y22 y23=>k0 x0 x1 x2 (wL x3) (wL x4) x5 (T.l (x6.rows.set (Int.toNat (aG x7 x10 1).int) [xJ,(wL y20),y21,(wL y22),(wL y23)])) (wL y0) (wL x8) (wL x9)))
  (.bad))
  (.bad))
  (cond ((aG x7 x10 0).int==2)
  (tL m x0 x1 x2 (wL x3) (wL x4) x5 (aG x7 x10 1) (aG x7 x10 2) (aG x7 x10 4)
  (fun y24 y25 EX y27 y28 y29=>k0 y24 y25 EX (wL y27) (wL y28) y29 (wL x6) (wL y0) (wL x8) (wL x9)))
  (cond ((aG x7 x10 0).int==4)
  (nQ m (T.l [[x0,x1,x2,(wL x3),(wL x4),x5]]) (aG x7 x10 2)
  (fun EY y31=>cond y31.bool
  (kr m x0 x1 x2 (wL x3) (wL x4) x5 (wL x6) (wL y0) (wL x8) (wL x9) (T.l [[(T.i 3),(aG x7 x10 1),(aG x7 x10 2),(T.l []),EY]])
  (fun y32 EZ y34 H7 GN GQ y38 y39 H8 M4=>k0 GQ y38 y39 (wL y32) (wL EZ) H8 (wL y34) (wL M4) (wL H7) (wL GN)))
  (k0 x0 x1 x2 (wL x3) (wL x4) x5 (wL x6) (wL y0) (wL x8) (wL x9))))
  (k0 x0 x1 x2 (wL x3) (wL x4) x5 (wL x6) (wL y0) (wL x8) (wL x9)))))))
  (.bad))
def Ku:PS CX aD:=eF GY (F1 102 agZ 11 10 tN apf) Tryz.f102 ⟨102,2,79,1⟩
def tQ:Nat->T->T->T->T->T->T->T->T->T->T->T->T->(T->T->T->T->T->T->T->T->T->T->T->An)->An
 | 0,_,_,_,_,_,_,_,_,_,_,_,_,_=>.bad
 | m+1,x0,x1,x2,x3,x4,x5,x6,x7,x8,x9,x10,bC,k0 =>
  jn (fun (j16:An) =>
  dD m bC (T.i 0) (T.i (IntKind.i64.wrap ((x7.rows.length:Int)-1)))
  (fun y0=>cond ((!y0.bool)==false)
  (cond ((x10.int==4)==true)
  (cond (decide ((x7.rows.length:Int)>=400))
  (k0 (T.b false) x0 x1 x2 (wL x3) (wL x4) x5 (wL x6) (wL x7) (wL x8) (wL x9))
  (j16))
  (j16))
  (k0 (T.b false) x0 x1 x2 (wL x3) (wL x4) x5 (wL x6) (wL x7) (wL x8) (wL x9))))
  (cond (x10.int==2)
  (tN m x0 x1 x2 (wL x3) (wL x4) x5 (wL x6) (wL x7) (wL x8) (wL x9) bC
  (fun y2 y3 y4 y5 y6 y7 y8 y9 mF mK=>k0 (T.b true) y2 y3 y4 (wL y5) (wL y6) y7 (wL y8) (wL y9) (wL mF) (wL mK)))
  (cond (x10.int==3)
  (bR m (wL x7) bC (aT bC)
  (fun mM=>k0 (T.b true) x0 x1 x2 (wL x3) (wL x4) x5 (wL x6) (wL mM) (wL x8) (wL x9)))
  (aQ bC x7
  (cond (decide ((Int.toNat bC.int)<x7.rows.length))
  (aL m (wL (aG x7 bC 3))
  (fun y13=>cond (decide ((x7.rows.length+1) * 5<=ak))
  (k0 (T.b true) x0 x1 x2 (wL x3) (wL x4) x5 (wL x6) (T.l (x7.rows++[[(aG x7 bC 0),(aG x7 bC 1),(aG x7 bC 2),(wL y13),(aG x7 bC 4)]])) (wL x8) (wL x9))
  (.bad)))
  (.bad)))))
def Kv:PS CX aD:=eF Ku (F1 82 [U3,.one (AI),.one (AI)] 12 11 tQ ⟨[.one (RB)],[YS,[none],[none]],[some apc,none,none]⟩) Tryz.f82 ⟨82,3,69,65⟩
def fU (m:Nat):Nat->T->T->T->T->T->T->T->T->T->T->T->T->T->T->T->T->(T->T->T->T->T->T->T->T->T->T->T->T->T->An)->An
 | 0,_,_,_,_,_,_,_,_,_,_,_,_,_,_,_,_,_=>.bad
 | n+1,x0,x1,x2,x3,x4,x5,x6,x7,x8,x9,x10,bC,dw,dO,fO,kF,k0 =>
  cond (decide (x3.int<x2.int))
  (jn (fun (j4:T->T->An) =>
  aQ x3 x10
  (cond (decide ((Int.toNat x3.int)<x10.rows.length))
  (cond ((aG x10 x3 1).int==x1.int)
  (cond (decide ((x8.rows.length+1) * 5<=ak))
  (j4 (T.l (x8.rows++[[(aG x10 x3 0),(aG x10 x3 1),(aG x10 x3 2),(aG x10 x3 3),(aG x10 x3 4)]])) (wL x9))
  (.bad))
  (cond (decide ((x9.rows.length+1) * 5<=ak))
  (j4 (wL x8) (T.l (x9.rows++[[(aG x10 x3 0),(aG x10 x3 1),(aG x10 x3 2),(aG x10 x3 3),(aG x10 x3 4)]])))
  (.bad)))
  (.bad)))
  (fun y2 y3=>fU m n (T.i (x0.int.toNat:Int)) x1 x2 (aT x3) x4 x5 x6 x7 (wL y2) (wL y3) (wL x10) (wL bC) (wL dw) (wL dO) (wL fO) (wL kF) k0))
  (k0 (T.i (x0.int.toNat:Int)) x4 x5 x6 x7 (wL x8) (wL x9) (wL bC) (wL dw) (wL dO) (wL fO) (wL x10) (wL kF))
def nR:Nat->T->T->T->T->T->T->T->T->T->T->T->(T->T->T->T->T->T->T->T->T->T->T->T->An)->An
 | 0,_,_,_,_,_,_,_,_,_,_,_,_=>.bad
 | m+1,x0,x1,x2,x3,x4,x5,x6,x7,x8,x9,x10,k0 =>
  fU m m (T.i 0) x10 (T.i (x8.rows.length:Int)) (T.i 0) x0 x1 x2 x5 (T.l []) (T.l []) (wL x8) (wL x3) (wL x4) (wL x6) (wL x7) (wL x9)
  (fun y5 y6 y7 y8 y9 mF mK mM y13 nS qo sF qU=>k0 (wL mF) (wL sF) y6 y7 y8 (wL mM) (wL y13) y9 (wL nS) (wL qo) (wL mK) (wL qU))
def GZ:PS CX aD:=eF Kv (F1 132 agZ 11 12 nR ⟨UZ,[akt,[none]],abl⟩) Tryz.f132 ⟨132,2,36,17⟩ [L1 jT ⟨[(0,.ptr [0,999999] 0 0 0),(1,.one (LI)),(5,.one (LA (KI 1) tW)),(6,.one (LA (KI 2) tW)),(12,.one (LA [0,8] tW)),(13,.one (LI)),(14,.one (LI))],[U2,Hz,ade,HV,adb,EG,HY,M0,Hy]⟩ 16 13 fU (.exit 0) ⟨[(0,.ptr [0,999999] 0 0 0),(5,.one (LA (KI 1) tW)),(6,.one (LA (KI 2) tW))],[U2,Hz,ade,adb,EG,HY,M0,HV,Hy]⟩]
def iT (m:Nat):Nat->T->T->T->T->T->T->T->T->T->T->T->T->T->T->T->T->(T->T->T->T->T->T->T->T->T->T->T->T->An)->An
 | 0,_,_,_,_,_,_,_,_,_,_,_,_,_,_,_,_,_=>.bad
 | n+1,x0,x1,x2,x3,x4,x5,x6,x7,x8,x9,x10,bC,dw,dO,fO,kF,k0 =>
  cond (decide (x4.int<x3.int))
  (aQ x4 x2
  (cond (decide ((x9.rows.length+1) * 5<=ak))
  (iT m n (T.i (x0.int.toNat:Int)) x1 x2 x3 (aT x4) x5 x6 x7 x8 (T.l (x9.rows++[[(T.i 4),x1,(aG x2 x4 1),(T.l []),(T.b false)]])) (wL x10) (wL bC) (wL dw) (wL dO) (wL fO) (wL kF) k0)
  (.bad)))
  (k0 (T.i (x0.int.toNat:Int)) x5 x6 x7 x8 (wL x9) (wL bC) (wL dw) (wL x10) (wL dO) (wL fO) (wL kF))
def zU:Nat->aep
 | 0=>agz
 | m+1=>fun x0 x1 x2 x3 x4 x5 x6 x7 x8 x9 x10 k0 =>
  aQ x10 x6
  (cond (decide ((Int.toNat x10.int)<x6.rows.length))
  (iT m m (T.i 0) x10 (aG x6 x10 4) (T.i ((aG x6 x10 4).rows.length:Int)) (T.i 0) x0 x1 x2 x5 (T.l []) (wL x6) (wL x3) (wL x4) (wL x7) (wL x8) (wL x9)
  (fun y0 y1 y2 y3 y4 y5 y6 y7 y8 y9 mF mK=>kr m y1 y2 y3 (wL y6) (wL y7) y4 (wL y8) (wL y9) (wL mF) (wL mK) (wL y5)
  (fun mM y13 nS qo sF qU su xJ y20 y21=>k0 qU su xJ (wL mM) (wL y13) y20 (wL nS) (wL y21) (wL qo) (wL sF))))
  (.bad))
def Mc:PS CX aD:=eF GZ (F1 133 agZ 11 10 zU apf) Tryz.f133 ⟨133,2,31,1⟩ [L1 [0,1,0,1] ⟨[(0,.ptr [0,999999] 0 0 0),(1,.one (LI)),(4,.one (LA (KI 1) tW)),(14,.one (⟨.sn [([0,6],0)],.sl tR,.l []⟩)),(15,.one (LI)),(16,.one (LI))],[U2,Hz,HY,adb,EG,M0,HV,Hy]⟩ 16 12 iT (.exit 0) ⟨[(0,.ptr [0,999999] 0 0 0),(4,.one (LA (KI 1) tW))],[U2,Hz,adb,EG,HY,M0,HV,Hy]⟩]
def rV:Nat->ams
 | 0=>ao3
 | m+1=>fun x0 x1 x2 x3 x4 x5 k0 =>
  cond (decide ((0:Int)<=(IntKind.i64.wrap (x2.int+(ow (qX x5.int 0) (IntKind.i64.wrap ((x1.rows.length:Int)-x2.int)))))/\(IntKind.i64.wrap (x2.int+(ow (qX x5.int 0) (IntKind.i64.wrap ((x1.rows.length:Int)-x2.int)))))<=(x1.rows.length:Int)))
  (cond (decide ((0:Int)<=0/\0<=(IntKind.i64.wrap (x2.int+(ow (qX x5.int 0) (IntKind.i64.wrap ((x1.rows.length:Int)-x2.int)))))))
  (pR m (T.l (x1.rows.take (Int.toNat (IntKind.i64.wrap (x2.int+(ow (qX x5.int 0) (IntKind.i64.wrap ((x1.rows.length:Int)-x2.int))))))))
  (fun y0 y1 y2=>k0 (wL x3) (wL x4) x0 (T.l (x1.rows.take (Int.toNat (IntKind.i64.wrap (x2.int+(ow (qX x5.int 0) (IntKind.i64.wrap ((x1.rows.length:Int)-x2.int)))))))) (T.i (IntKind.i64.wrap (x2.int+(ow (qX x5.int 0) (IntKind.i64.wrap ((x1.rows.length:Int)-x2.int)))))) (wL y0) (wL y1)))
  (.bad))
  (.bad)
def IQ:PS CX aD:=eF Mc (F1 134 akH 6 7 rV akT) Tryz.f134 ⟨134,2,51,1⟩
def rX:Nat->T->T->T->T->T->T->T->T->T->T->T->T->T->T->(T->T->T->T->T->T->T->T->T->T->T->An)->(T->T->T->T->T->T->T->T->T->T->T->T->An)->An
 | 0,_,_,_,_,_,_,_,_,_,_,_,_,_,_,_,_=>.bad
 | m+1,x0,x1,x2,x3,x4,x5,x6,x7,x8,x9,x10,bC,dw,dO,k0,k1 =>
  dD m bC (T.i 0) (T.i (IntKind.i64.wrap ((x6.rows.length:Int)-1)))
  (fun y0=>cond (!y0.bool)
  (k0 (T.b false) x0 x1 x2 (wL x3) (wL x4) x5 (wL x6) (wL x7) (wL x8) (wL x9))
  (aQ bC x6
  (cond (x10.int==5)
  (cond (decide ((Int.toNat bC.int)<x6.rows.length))
  (cond (decide ((Int.toNat bC.int)<x6.rows.length))
  (nR m x0 x1 x2 (wL x3) (wL x4) x5 (T.l (x6.rows.set (Int.toNat bC.int) ((x6.rows.getD (Int.toNat bC.int) []).set 2 (T.i ((aG x6 bC 1).rows.length:Int))))) (wL x7) (wL x8) (wL x9) bC
  (fun y1 y2 y3 y4 y5 y6 y7 y8 y9 mF mK mM=>kr m y3 y4 y5 (wL y6) (wL y7) y8 (wL y9) (wL mF) (wL mK) (wL mM) (wL y1)
  (fun y13 nS qo sF qU su xJ y20 y21 y22=>k1 (T.b true) (wL y2) su xJ y20 (wL y13) (wL nS) y21 (wL qo) (wL y22) (wL sF) (wL qU))))
  (.bad))
  (.bad))
  (cond (x10.int==8)
  (zU m x0 x1 x2 (wL x3) (wL x4) x5 (wL x6) (wL x7) (wL x8) (wL x9) bC
  (fun y23 y24 y25 EX y27 y28 y29 EY y31 y32=>k0 (T.b true) y23 y24 y25 (wL EX) (wL y27) y28 (wL y29) (wL EY) (wL y31) (wL y32)))
  (cond (decide ((Int.toNat bC.int)<x6.rows.length))
  (rV m ((x6.rows.getD (Int.toNat bC.int) []).headD dflt) (T.l ((x6.rows.getD (Int.toNat bC.int) []).tail.headD dflt).rows) ((x6.rows.getD (Int.toNat bC.int) []).tail.tail.headD dflt) (T.l ((x6.rows.getD (Int.toNat bC.int) []).tail.tail.tail.headD dflt).rows) (T.l ((x6.rows.getD (Int.toNat bC.int) []).tail.tail.tail.tail.headD dflt).rows) dw
  (fun EZ y34 H7 GN GQ y38 y39=>nR m x0 x1 x2 (wL x3) (wL x4) x5 (T.l (x6.rows.set (Int.toNat bC.int) [H7,(wL GN),GQ,(wL y38),(wL y39)])) (wL x7) (wL x8) (wL x9) bC
  (fun H8 M4 NU Q9 Ra LU NV XL y48 y49 y50 Y0=>k1 (T.b true) (wL M4) NU Q9 Ra (wL LU) (wL NV) XL (wL y48) (wL y49) (wL y50) (wL Y0))))
  (.bad))))))
def IU:PS CX aD:=eF IQ (F2 83 ape 14 11 12 rX apl apm) Tryz.f83 ⟨83,2,57,17⟩
def fA (m:Nat):Nat->T->T->T->T->T->T->T->T->T->T->T->T->T->T->T->(T->T->T->T->T->An)->An
 | 0,_,_,_,_,_,_,_,_,_,_,_,_,_,_,_,_=>.bad
 | n+1,x0,x1,x2,x3,x4,x5,x6,x7,x8,x9,x10,bC,dw,dO,fO,k0 =>
  cond (decide (x9.int<x8.int))
  ((fun (j18:T->T->An) =>
  aQ x9 x7
  (cond x3.bool
  (cond (decide ((x10.rows.length+1) * 5<=ak))
  (j18 (T.l [(bJ x0)]) (T.l (x10.rows++[[(T.i 3),(aG x7 x9 0),bC,(T.l []),x2]])))
  (.bad))
  (jn (fun (j11:T->T->An) =>
  cond ((dO.int==1)==true)
  (dA m (wL fO) (aG x7 x9 0)
  (fun y3=>j11 (aG x7 x9 0) (T.b (!y3.bool))))
  (j11 (aG x7 x9 0) (T.b false)))
  (fun y4 y5=>cond y5.bool
  (lN m (T.l [((bJ (T.l [(bJ x0)])).take 6)]) bC (wL dw) y4
  (fun y6 y7 y8 y9 mF=>cond (decide ((x10.rows.length+1) * 5<=ak))
  (j18 (T.l [(bJ (T.l [(bJ x0)]))]) (T.l (x10.rows++[[y6,y7,y8,(wL y9),mF]])))
  (.bad)))
  (j18 (T.l [(bJ (T.l [(bJ x0)]))]) (wL x10))))))
  (fun sF qU=>fA m n (T.l [(bJ sF)]) (T.i (x1.int.toNat:Int)) x2 x3 x4 x5 x6 x7 x8 (aT x9) (wL qU) bC dw dO fO k0))
  (k0 (T.l [(bJ x0)]) x4 x5 x6 (wL x10))
def fB (m:Nat):Nat->YL
 | 0=>abh
 | n+1=>fun x0 x1 x2 x3 x4 k0 =>
  cond (decide (x3.int<x2.int))
  (aQ x3 x1
  (nQ m (T.l [((bJ x0).take 6)]) (aG x1 x3 0)
  (fun y0 y1=>jV m (wL (aG x1 x3 1)) ((bJ x0).getD 0 dflt)
  (fun y2=>fA m n (T.l [(bJ x0)]) (T.i 0) y0 y1 x1 x2 x3 (wL y2) (T.i (y2.rows.length:Int)) (T.i 0) (wL x4) (aG x1 x3 0) (aG x1 x3 1) (aG x1 x3 2) (aG x1 x3 3)
  (fun xJ y20 y21 y22 y23=>fB m n (T.l [(bJ xJ)]) y20 y21 (aT y22) (wL y23) k0)))))
  (k0 (wL x4))
def pz:Nat->K7
 | 0=>Lx
 | m+1=>fun x0 k0 =>
  fB m m (T.l [(bJ x0)]) (((bJ x0).drop 3).getD 0 dflt) (T.i ((((bJ x0).drop 3).getD 0 dflt).rows.length:Int)) (T.i 0) (T.l [])
  (fun y24=>k0 (wL y24))
def FX:PS CX aD:=eF IU (FN 85 aky 1 1 pz UZ) Tryz.f85 ⟨85,1,72,4⟩ [L1 [0,1,1,1,0,0,1,1,0,0,1,0,1,1] ⟨[(0,.rp [([4000000],0)] [.sc (.int .i64),.sc (.int .i64),.sc (.int .i64),.sl tJ,.sl tC,.sc (.int .i64)] []),(3,.one (LA (KI 1) tW)),(5,EP 2),(6,.one (LB)),(7,.one (LB)),(13,.one (LD tJ)),(14,.one (LI)),(15,.one (LI)),(32,.one (LZ tI)),(33,.one (LI)),(34,.one (LI))],[iB,Hz,((KI 2),.box ac8)]⟩ 15 5 fA (.exit 2) akU,L1 jT akU 5 1 fB (.exit 0) agV]
def rY:Nat->T->T->T->T->T->T->T->(T->T->T->T->T->T->T->An)->An
 | 0,_,_,_,_,_,_,_,_=>.bad
 | m+1,x0,x1,x2,x3,x4,x5,x6,k0 =>
  cond (decide ((0:Int)<=(IntKind.i64.wrap (x5.int+(ow (qX x6.int 0) (IntKind.i64.wrap ((x4.rows.length:Int)-x5.int)))))/\(IntKind.i64.wrap (x5.int+(ow (qX x6.int 0) (IntKind.i64.wrap ((x4.rows.length:Int)-x5.int)))))<=(x4.rows.length:Int)))
  (cond (decide ((0:Int)<=0/\0<=(IntKind.i64.wrap (x5.int+(ow (qX x6.int 0) (IntKind.i64.wrap ((x4.rows.length:Int)-x5.int)))))))
  (k0 (wL x3) x0 (aT x1) (T.i 0) (T.l []) (T.l (x4.rows.take (Int.toNat (IntKind.i64.wrap (x5.int+(ow (qX x6.int 0) (IntKind.i64.wrap ((x4.rows.length:Int)-x5.int)))))))) (T.i (IntKind.i64.wrap (x5.int+(ow (qX x6.int 0) (IntKind.i64.wrap ((x4.rows.length:Int)-x5.int)))))))
  (.bad))
  (.bad)
def IV:PS CX aD:=eF FX (F1 86 [agQ,.one (AI)] 7 7 rY ⟨[],[[none,none,none,some (tJ,[.F,.F,.F,.O [.F]],[]),none,none],[none]],akD⟩) Tryz.f86 ⟨86,2,49,1⟩
def pX:Nat->amu
 | 0=>ao5
 | m+1=>fun x0 x1 x2 x3 x4 x5 x6 x7 x8 x9 x10 bC dw dO k0 k1 k2 =>
  cond (x10.int==1)
  (rU m x0 x1 x2 (wL x3) (wL x4) x5 (wL x6) (wL x7) (wL x8) (wL x9) (wL dO)
  (fun y0 y1 y2 y3 y4 y5 y6 y7 y8 y9 mF=>k0 y0 y1 y2 y3 (wL y4) (wL y5) y6 (wL y7) (wL y8) (wL y9) (wL mF)))
  (jn (fun (j77:T->An) =>
  cond (x10.int==2)
  (j77 (T.b true))
  (cond (x10.int==3)
  (j77 (T.b true))
  (j77 (T.b (x10.int==4)))))
  (fun mK=>cond mK.bool
  (tQ m x0 x1 x2 (wL x3) (wL x4) x5 (wL x6) (wL x7) (wL x8) (wL x9) x10 bC
  (fun mM y13 nS qo sF qU su xJ y20 y21 y22=>k0 mM y13 nS qo (wL sF) (wL qU) su (wL xJ) (wL y20) (wL y21) (wL y22)))
  (jn (fun (j76:T->An) =>
  cond (x10.int==5)
  (j76 (T.b true))
  (cond (x10.int==8)
  (j76 (T.b true))
  (j76 (T.b (x10.int==9)))))
  (fun y23=>cond y23.bool
  (rX m x0 x1 x2 (wL x3) (wL x4) x5 (wL x6) (wL x7) (wL x8) (wL x9) x10 bC dw (wL dO)
  (fun y24 y25 EX y27 y28 y29 EY y31 y32 EZ y34=>k0 y24 y25 EX y27 (wL y28) (wL y29) EY (wL y31) (wL y32) (wL EZ) (wL y34))
  (fun H7 GN GQ y38 y39 H8 M4 NU Q9 Ra LU NV=>k1 H7 (wL GN) GQ y38 y39 (wL H8) (wL M4) NU (wL Q9) (wL Ra) (wL LU) (wL NV)))
  (cond (x10.int==6)
  (k0 (T.b true) x0 x1 x2 (wL x3) (wL x4) (T.i (x4.rows.length:Int)) (wL x6) (wL x7) (wL x8) (wL x9))
  (cond (x10.int==7)
  (pz m (T.l [[x0,x1,x2,(wL x3),(wL x4),x5]])
  (fun Y3=>kr m x0 x1 x2 (wL x3) (wL x4) x5 (wL x6) (wL x7) (wL x8) (wL x9) (wL Y3)
  (fun y59 y60 y61 y62 y63 y64 Y4 Y5 y67 y68=>k0 (T.b true) y64 Y4 Y5 (wL y59) (wL y60) y67 (wL y61) (wL y68) (wL y62) (wL y63))))
  (cond (x10.int==10)
  (cond (x1.int==900)
  (k0 (T.b false) x0 x1 x2 (wL x3) (wL x4) x5 (wL x6) (wL x7) (wL x8) (wL x9))
  (rY m x0 x1 x2 (wL x3) (wL x4) x5 dw
  (fun y69 y70 y71 y72 y73 y74 y75=>k2 (T.b true) (wL y69) y70 y71 y72 (wL y73) (wL y74) y75 (wL x6) (wL x7) (wL x8) (wL x9))))
  (k0 (T.b false) x0 x1 x2 (wL x3) (wL x4) x5 (wL x6) (wL x7) (wL x8) (wL x9)))))))))
def Oc:PS CX aD:=eF IV (⟨38,ape,fun m vs k=>ap 14 (pX m) vs (lm 11 fun z=>k (Tm apl z)) (lm 12 fun z=>k (Tm apm z)) (lm 12 fun z=>k (Tm ⟨[.one (RB)],[[none,none,none,some (tJ,[.F,.F,.F,.O [.F]],[]),none,none,none,none,none,none],ac1],abl⟩ z))⟩) Tryz.f38 ⟨38,2,64,17⟩
def ku (m:Nat):Nat->amx
 | 0=>ao8
 | n+1=>fun x0 x1 x2 x3 x4 x5 x6 x7 x8 x9 x10 bC dw dO fO kF mO mY x18 nC x20 x21 vg x23 x24 k0 k1 =>
  cond (decide (x4.int<x3.int))
  (jn (fun (amO:T->T->T->T->T->T->T->T->T->T->An) =>
  aQ x4 x2
  (pX m x9 x10 bC (wL nC) (wL x20) dw (wL x21) (wL vg) (wL x23) (wL x24) (aG x2 x4 0) (aG x2 x4 1) (aG x2 x4 2) (wL (aG x2 x4 3))
  (fun Y5 y67 y68 y69 y70 y71 y72 y73 y74 y75 y76=>amO y67 y68 y69 y72 (wL y70) (wL y71) (wL y73) (wL y74) (wL y75) (wL y76))
  (fun y77 y78 y79 y80 y81 y82 y83 y84 y85 y86 y87 y88=>amO y79 y80 y81 y84 (wL y82) (wL y83) (wL y85) (wL y86) (wL y87) (wL y88))
  (fun y89 y90 y91 y92 y93 y94 y95 y96 y97 y98 y99 Y6=>amO y91 y92 y93 y96 (wL y94) (wL y95) (wL y97) (wL y98) (wL y99) (wL Y6))))
  (fun ag8 y112 y113 y114 y115 ai9 aja ag9 aha ahb=>ku m n (T.i (x0.int.toNat:Int)) (T.i (x1.int.toNat:Int)) x2 x3 (aT x4) x5 x6 x7 x8 ag8 y112 y113 y114 (wL dO) (wL fO) (wL kF) (wL mO) (wL mY) (wL x18) (wL y115) (wL ai9) (wL aja) (wL ag9) (wL aha) (wL ahb) k0 k1))
  (k0 (T.i (x0.int.toNat:Int)) (T.i (x1.int.toNat:Int)) x5 x6 x7 x8 x9 x10 bC dw (wL dO) (wL fO) (wL kF) (wL mO) (wL mY) (wL x18) (wL nC) (wL x20) (wL x21) (wL vg) (wL x23) (wL x24))
def zV (m:Nat):Nat->amx
 | 0=>ao8
 | n+1=>fun x0 x1 x2 x3 x4 x5 x6 x7 x8 x9 x10 bC dw dO fO kF mO mY x18 nC x20 x21 vg x23 x24 k0 k1 =>
  cond (decide (x4.int<x3.int))
  (jn (fun (amP:T->T->T->T->T->T->T->T->T->T->An) =>
  aQ x4 x2
  (pX m x9 x10 bC (wL nC) (wL x20) dw (wL x21) (wL vg) (wL x23) (wL x24) (aG x2 x4 0) (aG x2 x4 1) (aG x2 x4 2) (wL (aG x2 x4 3))
  (fun mK mM y13 nS qo sF qU su xJ y20 y21=>amP mM y13 nS qU (wL qo) (wL sF) (wL su) (wL xJ) (wL y20) (wL y21))
  (fun y22 y23 y24 y25 EX y27 y28 y29 EY y31 y32 EZ=>amP y24 y25 EX y29 (wL y27) (wL y28) (wL EY) (wL y31) (wL y32) (wL EZ))
  (fun y34 H7 GN GQ y38 y39 H8 M4 NU Q9 Ra LU=>amP GN GQ y38 M4 (wL y39) (wL H8) (wL NU) (wL Q9) (wL Ra) (wL LU))))
  (fun y56 y57 Y3 y59 y60 y61 y62 y63 y64 Y4=>ku m n (T.i (x0.int.toNat:Int)) (T.i (x1.int.toNat:Int)) x2 x3 (aT x4) x5 x6 x7 x8 y56 y57 Y3 y59 (wL dO) (wL fO) (wL kF) (wL mO) (wL mY) (wL x18) (wL y60) (wL y61) (wL y62) (wL y63) (wL y64) (wL Y4) k0 k1))
  (k1 (T.i (x0.int.toNat:Int)) (T.i (x1.int.toNat:Int)) x5 x6 x7 x8 x9 x10 bC dw (wL dO) (wL fO) (wL kF) (wL mO) (wL mY) (wL x18) (wL nC) (wL x20) (wL x21) (wL vg) (wL x23) (wL x24))
def FY:Pack:=⟨[(4,EP 0),(5,EP 1)],[((KI 0),.box [LI,LI,LI,LA (KI 2) tJ,LA (KI 3) tC,LI,LA (KI 4) tS,LA (KI 5) tW,LA (KI 6) tW,LA (KI 7) tB]),((KI 1),.box [LI,LI,LI,LA (KI 8) tJ,LA (KI 9) tC,LI,LA (KI 10) tS,LA (KI 11) tW,LA (KI 12) tW,LA (KI 13) tB]),((KI 2),.row tJ [.F,.F,.F,.O [.F]] []),((KI 3),.row tC m2 []),((KI 4),.row tS mS []),((KI 5),.row tW m5 []),((KI 6),.row tW m5 []),((KI 7),.row tB m2 []),((KI 8),.row tJ [.F,.F,.F,.O [.F]] []),((KI 9),.row tC m2 []),((KI 10),.row tS mS []),((KI 11),.row tW m5 []),((KI 12),.row tW m5 []),((KI 13),.row tB m2 [])]⟩
def FZ:Pack:=⟨[(4,EP 0),(5,EP 1)],[((KI 0),.box [LI,LI,LI,LA (KI 2) tJ,LA (KI 3) tC,LI,LA (KI 4) tS,LA (KI 5) tW,LA (KI 6) tW,LA (KI 7) tB]),((KI 1),.box [LI,LI,LI,LA (KI 8) tJ,LA (KI 9) tC,LI,LA (KI 10) tS,LA (KI 11) tW,LA (KI 12) tW,LA (KI 13) tB]),((KI 2),.row tJ [.F,.F,.F,.O [.F]] []),((KI 3),.row tC m2 []),((KI 4),.row tS mS []),((KI 5),.row tW m5 []),((KI 6),.row tW m5 []),((KI 7),.row tB m2 []),((KI 8),.row tJ [.F,.O m3,.F,.O [.F]] []),((KI 9),.row tC m2 []),((KI 10),.row tS [.F,.O [.F,.F,.O m3],.F,.O m2,.O [.F,.F,.O m3]] []),((KI 11),.row tW [.F,.F,.F,.O m3,.F] []),((KI 12),.row tW [.F,.F,.F,.O m3,.F] []),((KI 13),.row tB [.F,.O m3] [])]⟩
def Gv:Nat->aep
 | 0=>agz
 | m+1=>fun x0 x1 x2 x3 x4 x5 x6 x7 x8 x9 x10 k0 =>
  dP m x0 x1 x2 (wL x3) (wL x4) x5 (wL x6) (wL x7) (wL x8) (wL x9)
  (fun y0 y1 y2 y3 y4 y5 y6 y7 y8 y9=>rQ m x0 x1 x2 (wL x3) (wL x4) x5 (wL x6) (wL x7) (wL x8) (wL x9)
  (fun mF=>cond (!mF.bool)
  (k0 y0 y1 y2 (wL y3) (wL y4) y5 (wL y6) (wL y7) (wL y8) (wL y9))
  (cond (decide ((0:Int)<=(ow (x10.rows.length:Int) 200)/\(ow (x10.rows.length:Int) 200)<=(x10.rows.length:Int)))
  (cond (decide ((0:Int)<=0/\0<=(ow (x10.rows.length:Int) 200)))
  (zV m m (T.i 0) (T.i 0) (T.l (x10.rows.take (Int.toNat (ow (x10.rows.length:Int) 200)))) (T.i ((x10.rows.take (Int.toNat (ow (x10.rows.length:Int) 200))).length:Int)) (T.i 0) (T.i 0) (T.i 0) (T.i 0) (T.i 0) y0 y1 y2 y5 (T.l []) (T.l []) (T.l []) (T.l []) (T.l []) (T.l []) (wL y3) (wL y4) (wL y6) (wL y7) (wL y8) (wL y9)
  (fun ajb ajc ajd aje ajf ajg abu abv abw abx ahc ahd amQ amR amS amT ahe ahf ahg ahh ahi ahj=>dP m abu abv abw (wL ahe) (wL ahf) abx (wL ahg) (wL ahh) (wL ahi) (wL ahj)
  (fun y167 y168 apz amU amV amW amX amY amZ am0=>k0 y167 y168 apz (wL amU) (wL amV) amW (wL amX) (wL amY) (wL amZ) (wL am0)))
  (fun am1 am2 am3 am4 am5 y150 y151 y152 y153 ahk apA am6 y157 y158 y159 y160 ahl ahm ahn aho ahp ahq=>dP m y151 y152 y153 (wL ahl) (wL ahm) ahk (wL ahn) (wL aho) (wL ahp) (wL ahq)
  (fun am7 am8 am9 ana arG arH anb arI arJ anc=>k0 am7 am8 am9 (wL ana) (wL arG) arH (wL anb) (wL arI) (wL arJ) (wL anc))))
  (.bad))
  (.bad))))
def Zb:PS CX aD:=eF Oc (FN 27 [adq,.one (.dz [.sc (.int .i64),.sc (.int .i64),.sc (.int .i64),.sl tO] [])] 11 10 Gv [apb]) Tryz.f27 ⟨27,2,29,16⟩ [L2 Bc ⟨akn,[ads,adt,iB,agJ,YP,ado,UY,Qy,ac9,((KI 9),.row tJ [.F,.F,.F,.O [.F]] []),YQ,((KI 11),.row tS mS []),adg,adf,((KI 14),.row tB m2 [])]⟩ 25 22 22 ku (.exit 0) FY (.exit 0) FZ,L2 Bc ⟨akn,[ads,adt,iB,agJ,YP,ado,UY,Qy,ac9,((KI 9),.row tJ [.F,.O m3,.F,.O [.F]] []),YQ,akO,agM,agL,((KI 14),.row tB [.F,.O m3] [])]⟩ 25 22 22 zV (.exit 0) FY (.exit 0) FZ]
def Kw:Nat->amq
 | 0=>ao1
 | m+1=>fun x0 x1 x2 x3 x4 x5 x6 x7 x8 x9 x10 bC dw dO k0 =>
  dP m x0 x1 x2 (wL x3) (wL x4) x5 (wL x6) (wL x7) (wL x8) (wL x9)
  (fun y0 y1 y2 y3 y4 y5 y6 y7 y8 y9=>jn (fun (j67:T->T->T->T->T->T->T->T->T->T->T->An) =>
  rQ m x0 x1 x2 (wL x3) (wL x4) x5 (wL x6) (wL x7) (wL x8) (wL x9)
  (fun mF=>cond (mF.bool==true)
  (pX m y0 y1 y2 (wL y3) (wL y4) y5 (wL y6) (wL y7) (wL y8) (wL y9) x10 bC dw (wL dO)
  (fun mK mM y13 nS qo sF qU su xJ y20 y21=>j67 (T.b mK.bool) mM y13 nS qU (wL qo) (wL sF) (wL su) (wL xJ) (wL y20) (wL y21))
  (fun y22 y23 y24 y25 EX y27 y28 y29 EY y31 y32 EZ=>j67 (T.b y22.bool) y24 y25 EX y29 (wL y27) (wL y28) (wL EY) (wL y31) (wL y32) (wL EZ))
  (fun y34 H7 GN GQ y38 y39 H8 M4 NU Q9 Ra LU=>j67 (T.b y34.bool) GN GQ y38 M4 (wL y39) (wL H8) (wL NU) (wL Q9) (wL Ra) (wL LU)))
  (dP m y0 y1 y2 (wL y3) (wL y4) y5 (wL y6) (wL y7) (wL y8) (wL y9)
  (fun y68 y69 y70 y71 y72 y73 y74 y75 y76 y77=>k0 y68 y69 y70 (wL y71) (wL y72) y73 (wL y74) (wL y75) (wL y76) (wL y77) (T.b false)))))
  (fun NV XL y48 y49 y50 Y0 y52 Y1 Y2 y55 y56=>dP m XL y48 y49 (wL Y0) (wL y52) y50 (wL Y1) (wL Y2) (wL y55) (wL y56)
  (fun y57 Y3 y59 y60 y61 y62 y63 y64 Y4 Y5=>k0 y57 Y3 y59 (wL y60) (wL y61) y62 (wL y63) (wL y64) (wL Y4) (wL Y5) NV)))
def aeu:PS CX aD:=eF Zb (FN 11 [adq,.agg [AI,AI,AI,.dz tO []]] 14 11 Kw [apb,.one (RB)]) Tryz.f11 ⟨11,2,19,48⟩
def kV (m:Nat):Nat->yA9
 | 0=>yZ9
 | n+1=>fun x0 x1 x2 k0 k1 =>
  jl x2 x0
  (aQ x2 x0
  (aQ x2 x1
  (cond (!(((aG x0 x2 0).int==(aG x1 x2 0).int)&&(((aG x0 x2 1).str.toList==(aG x1 x2 1).str.toList)&&(((aG x0 x2 2).str.toList==(aG x1 x2 2).str.toList)&&true))))
  (k0 (T.b false))
  (kV m n x0 x1 (aT x2) k0 k1))))
  (k1 )
def vC:Nat->EF
 | 0=>ES
 | m+1=>fun x0 x1 k0 =>
  cond ((x0.rows.length:Int) != (x1.rows.length:Int))
  (k0 (T.b false))
  (kV m m (wL x0) (wL x1) (T.i 0)
  (fun y0=>k0 y0)
  (k0 (T.b true)))
def Rn:PS CX aD:=eF aeu (FN 66 [qE,qE] 2 1 vC [.one (RB)]) Tryz.f66 ⟨66,2,26,16⟩ [L2 jT ⟨[(0,.one (LD tO)),(1,.one (LD tO)),(5,.one (LI))],iV⟩ 3 1 0 kV .ret xw (.exit 0) ⟨[],[]⟩]
def Em:Nat->YM
 | 0=>abj
 | m+1=>fun x0 x1 x2 x3 x4 x5 k0 =>
  cond ((x0.int==x3.int)==true)
  (cond ((x1.int==x4.int)==true)
  (vC m (wL x2) (wL x5)
  (fun y0=>k0 (T.b y0.bool)))
  (k0 (T.b false)))
  (k0 (T.b false))
def Ro:PS CX aD:=eF Rn (FN 65 [Hw,Hw] 6 1 Em [.one (RB)]) Tryz.f65 ⟨65,2,24,16⟩
def jI (m:Nat):Nat->yA9
 | 0=>yZ9
 | n+1=>fun x0 x1 x2 k0 k1 =>
  jl x2 x0
  (aQ x2 x0
  (aQ x2 x1
  (Em m (aG x0 x2 0) (aG x0 x2 1) (wL (aG x0 x2 2)) (aG x1 x2 0) (aG x1 x2 1) (wL (aG x1 x2 2))
  (fun y0=>cond (!y0.bool)
  (k0 (T.b false))
  (jI m n x0 x1 (aT x2) k0 k1)))))
  (k1 )
def sS:Nat->EF
 | 0=>ES
 | m+1=>fun x0 x1 k0 =>
  cond ((x0.rows.length:Int) != (x1.rows.length:Int))
  (k0 (T.b false))
  (jI m m (wL x0) (wL x1) (T.i 0)
  (fun y1=>k0 y1)
  (k0 (T.b true)))
def Od:PS CX aD:=eF Ro (FN 28 [CS,CS] 2 1 sS [.one (RB)]) Tryz.f28 ⟨28,2,27,16⟩ [L2 jT ⟨[(0,.one (LD tR)),(1,.one (LD tR)),(5,.one (LI))],iV⟩ 3 1 0 jI .ret xw (.exit 0) ⟨[],[]⟩]
def sU:Nat->yA3
 | 0=>yZ3
 | m+1=>fun x0 x1 x2 x3 x4 x5 x6 x7 x8 x9 k0 =>
  cond ((x0.int==x5.int)==true)
  (cond ((x1.int==x6.int)==true)
  (cond ((x2.int==x7.int)==true)
  (cond ((x4.bool==x9.bool)==true)
  (vC m (wL x3) (wL x8)
  (fun y0=>k0 (T.b y0.bool)))
  (k0 (T.b false)))
  (k0 (T.b false)))
  (k0 (T.b false)))
  (k0 (T.b false))
def Oe:PS CX aD:=eF Od (FN 29 [UU,UU] 10 1 sU [.one (RB)]) Tryz.f29 ⟨29,2,38,16⟩
def cO (m:Nat):Nat->T->T->T->T->T->(T->An)->An->An
 | 0,_,_,_,_,_,_,_=>.bad
 | n+1,x0,x1,x2,x3,x4,k0,k1 =>
  cond (decide (x4.int<x3.int))
  (aQ x4 x2
  (cond (((aG x2 x4 0).int==x1.int)==true)
  (cond ((aG x2 x4 1).bool==true)
  (cond (decide (x4.int<(((bJ x0).drop 5).getD 0 dflt).int))
  (k0 (T.b true))
  (cO m n (T.l [(bJ x0)]) x1 x2 x3 (aT x4) k0 k1))
  (cO m n (T.l [(bJ x0)]) x1 x2 x3 (aT x4) k0 k1))
  (cO m n (T.l [(bJ x0)]) x1 x2 x3 (aT x4) k0 k1)))
  (k1 )
def om:Nat->EF
 | 0=>ES
 | m+1=>fun x0 x1 k0 =>
  cO m m (T.l [(bJ x0)]) x1 (((bJ x0).drop 4).getD 0 dflt) (T.i ((((bJ x0).drop 4).getD 0 dflt).rows.length:Int)) (T.i 0)
  (fun y3=>k0 y3)
  (k0 (T.b false))
def EW:PS CX aD:=eF Oe (FN 95 ak2 2 1 om [.one (RB)]) Tryz.f95 ⟨95,2,36,16⟩ [L2 [0,1,0,1] ⟨[(0,.rp [([4000000],0)] [.sc (.int .i64),.sc (.int .i64),.sc (.int .i64),.sl tJ,.sl tC,.sc (.int .i64),.sl tS,.sl tW,.sl tW,.sl tB] []),(1,.one (LI)),(11,.one (LD tC)),(12,.one (LI)),(13,.one (LI))],iV⟩ 5 1 0 cO .ret xw (.exit 0) ⟨[],[]⟩]
def mq (m:Nat):Nat->T->T->T->T->T->T->T->T->T->T->T->T->T->T->T->T->T->(T->An)->(T->T->T->T->T->T->T->T->T->T->T->T->T->T->An)->An
 | 0,_,_,_,_,_,_,_,_,_,_,_,_,_,_,_,_,_,_,_=>.bad
 | n+1,x0,x1,x2,x3,x4,x5,x6,x7,x8,x9,x10,bC,dw,dO,fO,kF,mO,k0,k1 =>
  cond (decide (x6.int<x5.int))
  ((fun (j2:An) =>
  aQ x6 x4
  (cond (((aG x4 x6 0).int==2)==true)
  (om m (T.l [[x7,x8,x9,(wL x10),(wL bC),dw,(wL dO),(wL fO),(wL kF),(wL mO)]]) (aG x4 x6 1)
  (fun y0=>cond (!y0.bool)
  (k0 (T.b false))
  (j2)))
  (j2)))
  (mq m n (T.i (x0.int.toNat:Int)) x1 x2 x3 x4 x5 (aT x6) x7 x8 x9 x10 bC dw dO fO kF mO k0 k1))
  (k1 (T.i (x0.int.toNat:Int)) x1 x2 x3 x7 x8 x9 x10 bC dw dO fO kF mO)
def mD (m:Nat):Nat->ai6
 | 0=>amF
 | n+1=>fun x0 x1 x2 x3 x4 x5 x6 x7 x8 x9 x10 bC dw dO k0 k1 =>
  cond (decide (x3.int<x2.int))
  (aQ x3 x1
  (mq m n (T.i (x0.int.toNat:Int)) x1 x2 x3 (aG x1 x3 1) (T.i ((aG x1 x3 1).rows.length:Int)) (T.i 0) x4 x5 x6 x7 x8 x9 x10 bC dw dO
  (fun y3=>k0 y3)
  (fun y4 y5 y6 y7 y8 y9 mF mK mM y13 nS qo sF qU=>mD m n (T.i (y4.int.toNat:Int)) y5 y6 (aT y7) y8 y9 mF mK mM y13 nS qo sF qU k0 k1)))
  (k1 )
def BD:Nat->yA3
 | 0=>yZ3
 | m+1=>fun x0 x1 x2 x3 x4 x5 x6 x7 x8 x9 k0 =>
  mD m m (T.i 0) (wL x6) (T.i (x6.rows.length:Int)) (T.i 0) x0 x1 x2 (wL x3) (wL x4) x5 (wL x6) (wL x7) (wL x8) (wL x9)
  (fun su=>k0 su)
  (k0 (T.b true))
def TY:PS CX aD:=eF EW (FN 52 Qz 10 1 BD [.one (RB)]) Tryz.f52 ⟨52,1,32,4⟩ [L2 agA ⟨[(1,EP 0),(8,.one (LD tS)),(9,.one (LI)),(10,.one (LI)),(15,.one (LD tR)),(16,.one (LI)),(17,.one (LI))],U1⟩ 17 1 14 mq .ret yh (.exit 2) apg,L2 [0,1,0,1] apg 14 1 0 mD .ret yh (.exit 0) ⟨[],[]⟩]
def nI (m:Nat):Nat->T->T->T->T->T->T->T->T->T->T->T->T->T->T->T->T->T->T->T->T->T->T->T->(T->An)->(T->T->T->T->T->T->T->T->T->T->T->T->T->T->An)->An
 | 0,_,_,_,_,_,_,_,_,_,_,_,_,_,_,_,_,_,_,_,_,_,_,_,_,_=>.bad
 | n+1,x0,x1,x2,x3,x4,x5,x6,x7,x8,x9,x10,bC,dw,dO,fO,kF,mO,mY,x18,nC,x20,x21,vg,k0,k1 =>
  cond (decide (x7.int<x6.int))
  ((fun (j4:An) =>
  aQ x7 x5
  (cond ((aG x5 x7 0).int != 1)
  (j4)
  (fJ m (T.l [[x8,x9,x10,(wL bC),(wL dw),dO,(wL fO),(wL kF),(wL mO),(wL mY)]]) (aG x5 x7 1)
  (fun y0=>cond ((decide (y0.int<0))==false)
  (aQ y0 mY
  (xD m (wL (uM mY y0 1)) x18 x8
  (fun y1=>bZ m (wL y1) (wL (aG x5 x7 2))
  (fun y2=>cond (!y2.bool)
  (k0 (T.b false))
  (j4)))))
  (k0 (T.b false))))))
  (nI m n (T.i (x0.int.toNat:Int)) (T.i (x1.int.toNat:Int)) x2 x3 x4 x5 x6 (aT x7) x8 x9 x10 bC dw dO fO kF mO mY x18 nC x20 x21 vg k0 k1))
  (k1 (T.i (x0.int.toNat:Int)) x2 x3 x4 x8 x9 x10 bC dw dO fO kF mO mY)
def nJ (m:Nat):Nat->ai6
 | 0=>amF
 | n+1=>fun x0 x1 x2 x3 x4 x5 x6 x7 x8 x9 x10 bC dw dO k0 k1 =>
  cond (decide (x3.int<x2.int))
  (aQ x3 x1
  (nI m n (T.i (x0.int.toNat:Int)) (T.i 0) x1 x2 x3 (aG x1 x3 1) (T.i ((aG x1 x3 1).rows.length:Int)) (T.i 0) x4 x5 x6 x7 x8 x9 x10 bC dw dO (aG x1 x3 0) (aG x1 x3 1) (aG x1 x3 2) (aG x1 x3 3) (aG x1 x3 4)
  (fun y5=>k0 y5)
  (fun y6 y7 y8 y9 mF mK mM y13 nS qo sF qU su xJ=>nJ m n (T.i (y6.int.toNat:Int)) y7 y8 (aT y9) mF mK mM y13 nS qo sF qU su xJ k0 k1)))
  (k1 )
def En:Nat->yA3
 | 0=>yZ3
 | m+1=>fun x0 x1 x2 x3 x4 x5 x6 x7 x8 x9 k0 =>
  nJ m m (T.i 0) (wL x6) (T.i (x6.rows.length:Int)) (T.i 0) x0 x1 x2 (wL x3) (wL x4) x5 (wL x6) (wL x7) (wL x8) (wL x9)
  (fun y20=>k0 y20)
  (k0 (T.b true))
def Xo:PS CX aD:=eF TY (FN 53 Qz 10 1 En [.one (RB)]) Tryz.f53 ⟨53,1,50,4⟩ [L2 agA ⟨[(1,EP 0),(4,EP 1),(9,.one (LD tS)),(10,.one (LI)),(11,.one (LI)),(16,.one (LD tR)),(17,.one (LI)),(18,.one (LI))],[YU,((KI 1),.box [LI,LD tR,LI,LD tP,LD tR]),iB]⟩ 23 1 14 nI .ret yh (.exit 2) aph,L2 [0,1,0,1] aph 14 1 0 nJ .ret yh (.exit 0) ⟨[],[]⟩]
def dB (m:Nat):Nat->Lv
 | 0=>NC
 | n+1=>fun x0 x1 x2 x3 k0 k1 =>
  cond (decide (x3.int<x2.int))
  (aQ x3 x1
  (cond (((aG x1 x3 1).int==x0.int)==true)
  (cond (((aG x1 x3 0).int==1)==false)
  (cond ((aG x1 x3 0).int==2)
  (k0 (T.b true))
  (dB m n x0 x1 x2 (aT x3) k0 k1))
  (k0 (T.b true)))
  (dB m n x0 x1 x2 (aT x3) k0 k1)))
  (k1 )
def mV:Nat->EF
 | 0=>ES
 | m+1=>fun x0 x1 k0 =>
  cond (decide ((0:Int)<=(qX 0 (ow (((bJ x0).drop 2).getD 0 dflt).int ((((bJ x0).drop 1).getD 0 dflt).rows.length:Int)))/\(qX 0 (ow (((bJ x0).drop 2).getD 0 dflt).int ((((bJ x0).drop 1).getD 0 dflt).rows.length:Int)))<=((((bJ x0).drop 1).getD 0 dflt).rows.length:Int)))
  (cond (decide ((0:Int)<=0/\0<=(qX 0 (ow (((bJ x0).drop 2).getD 0 dflt).int ((((bJ x0).drop 1).getD 0 dflt).rows.length:Int)))))
  (dB m m x1 (T.l ((((bJ x0).drop 1).getD 0 dflt).rows.take (Int.toNat (qX 0 (ow (((bJ x0).drop 2).getD 0 dflt).int ((((bJ x0).drop 1).getD 0 dflt).rows.length:Int)))))) (T.i (((((bJ x0).drop 1).getD 0 dflt).rows.take (Int.toNat (qX 0 (ow (((bJ x0).drop 2).getD 0 dflt).int ((((bJ x0).drop 1).getD 0 dflt).rows.length:Int))))).length:Int)) (T.i 0)
  (fun y1=>k0 y1)
  (k0 (T.b false)))
  (.bad))
  (.bad)
def CZ:PS CX aD:=eF Xo (FN 99 [.Ie tS [],.one (AI)] 2 1 mV [.one (RB)]) Tryz.f99 ⟨99,2,45,16⟩ [L2 jT ⟨[(1,.one (LI)),(24,.one (LD tR)),(25,.one (LI)),(26,.one (LI))],iV⟩ 4 1 0 dB .ret xw (.exit 0) ⟨[],[]⟩]
def jJ (m:Nat):Nat->T->T->T->T->T->T->T->T->T->T->T->T->T->T->T->T->T->T->T->T->(T->An)->(T->T->T->T->T->T->T->T->T->T->T->T->T->T->An)->An
 | 0,_,_,_,_,_,_,_,_,_,_,_,_,_,_,_,_,_,_,_,_,_,_=>.bad
 | n+1,x0,x1,x2,x3,x4,x5,x6,x7,x8,x9,x10,bC,dw,dO,fO,kF,mO,mY,x18,nC,k0,k1 =>
  cond (decide (x7.int<x6.int))
  ((fun (j4:An) =>
  aQ x7 x5
  (cond ((decide ((aG x5 x7 0).int>=(fO.rows.length:Int)))==false)
  (cond (decide ((0:Int)<=(aG x5 x7 0).int/\(aG x5 x7 0).int<(fO.rows.length:Int)))
  (mV m (T.l [((fO.rows.getD (Int.toNat (aG x5 x7 0).int) []).take 5)]) x18
  (fun y2=>cond (!y2.bool)
  (k0 (T.b false))
  (j4)))
  (.bad))
  (k0 (T.b false))))
  (jJ m n (T.i (x0.int.toNat:Int)) (T.i (x1.int.toNat:Int)) x2 x3 x4 x5 x6 (aT x7) x8 x9 x10 bC dw dO fO kF mO mY x18 nC k0 k1))
  (k1 (T.i (x0.int.toNat:Int)) x2 x3 x4 x8 x9 x10 bC dw dO fO kF mO mY)
def jK (m:Nat):Nat->ai6
 | 0=>amF
 | n+1=>fun x0 x1 x2 x3 x4 x5 x6 x7 x8 x9 x10 bC dw dO k0 k1 =>
  cond (decide (x3.int<x2.int))
  ((fun (j48:T->T->T->T->T->T->T->T->T->T->T->T->T->T->An) =>
  aQ x3 x1
  (cond (!(aG x1 x3 1).bool)
  (j48 (T.i (x0.int.toNat:Int)) x1 x2 x3 x4 x5 x6 x7 x8 x9 x10 bC dw dO)
  (fJ m (T.l [[x4,x5,x6,(wL x7),(wL x8),x9,(wL x10),(wL bC),(wL dw),(wL dO)]]) (aG x1 x3 0)
  (fun y0=>cond (decide (y0.int<0))
  (k0 (T.b false))
  (aQ y0 dO
  (jV m (wL (uM dO y0 1)) x4
  (fun y1=>jJ m n (T.i (x0.int.toNat:Int)) (T.i 0) x1 x2 x3 (wL y1) (T.i (y1.rows.length:Int)) (T.i 0) x4 x5 x6 x7 x8 x9 x10 bC dw dO (aG x1 x3 0) (aG x1 x3 1)
  (fun y5=>k0 y5)
  (fun y6 y7 y8 y9 mF mK mM y13 nS qo sF qU su xJ=>j48 (T.i (y6.int.toNat:Int)) y7 y8 y9 mF mK mM y13 nS qo sF qU su xJ))))))))
  (fun y34 H7 GN GQ y38 y39 H8 M4 NU Q9 Ra LU NV XL=>jK m n (T.i (y34.int.toNat:Int)) H7 GN (aT GQ) y38 y39 H8 M4 NU Q9 Ra LU NV XL k0 k1))
  (k1 )
def wO:Nat->yA3
 | 0=>yZ3
 | m+1=>fun x0 x1 x2 x3 x4 x5 x6 x7 x8 x9 k0 =>
  jK m m (T.i 0) (wL x4) (T.i (x4.rows.length:Int)) (T.i 0) x0 x1 x2 (wL x3) (wL x4) x5 (wL x6) (wL x7) (wL x8) (wL x9)
  (fun y49=>k0 y49)
  (k0 (T.b true))
def Og:PS CX aD:=eF CZ (FN 54 Qz 10 1 wO [.one (RB)]) Tryz.f54 ⟨54,1,56,4⟩ [L2 [0,1,1,1,1,1,0,0,1,1,0,0,1,0,1] ⟨[(1,EP 0),(4,EP 1),(10,.one (LD tC)),(11,.one (LI)),(12,.one (LI)),(33,.one (LZ tI)),(34,.one (LI)),(35,.one (LI))],[YU,((KI 1),.box [LI,LB]),iB]⟩ 20 1 14 jJ .ret yh (.exit 2) ak3,L2 [0,1,0,1] ak3 14 1 0 jK .ret yh (.exit 0) ⟨[],[]⟩]
def jL (m:Nat):Nat->Lv
 | 0=>NC
 | n+1=>fun x0 x1 x2 x3 k0 k1 =>
  cond (decide (x3.int<x2.int))
  (aQ x3 x0
  (cond (x1.bool==(aG x0 x3 0).bool)
  (k0 x3)
  (jL m n x0 x1 x2 (aT x3) k0 k1)))
  (k1 )
def ny:Nat->EF
 | 0=>ES
 | m+1=>fun x0 x1 k0 =>
  jL m m (wL x0) x1 (T.i (x0.rows.length:Int)) (T.i 0)
  (fun y0=>k0 y0)
  (k0 (T.i (-1)))
def yR:PS CX aD:=eF Og (FN 55 [.one (.dz [.sc (.bool)] []),.one (AB)] 2 1 ny [.one (RI)]) Tryz.f55 ⟨55,2,19,16⟩ [L2 [0,1,0,1] ⟨[(0,.one (LD [.sc (.bool)])),(1,.one (LB)),(7,.one (LI)),(8,.one (LI))],iV⟩ 4 1 0 jL .ret Hu (.exit 0) ⟨[],[]⟩]
def wh:Nat->yA3
 | 0=>yZ3
 | m+1=>fun x0 x1 x2 x3 x4 x5 x6 x7 x8 x9 k0 =>
  rQ m x0 x1 x2 (wL x3) (wL x4) x5 (wL x6) (wL x7) (wL x8) (wL x9)
  (fun y0=>yF m x0 x1 x2 (wL x3) (wL x4) x5 (wL x6) (wL x7) (wL x8) (wL x9)
  (fun y1=>BD m x0 x1 x2 (wL x3) (wL x4) x5 (wL x6) (wL x7) (wL x8) (wL x9)
  (fun y2=>En m x0 x1 x2 (wL x3) (wL x4) x5 (wL x6) (wL x7) (wL x8) (wL x9)
  (fun y3=>wO m x0 x1 x2 (wL x3) (wL x4) x5 (wL x6) (wL x7) (wL x8) (wL x9)
  (fun y4=>ny m (T.l [[y0],[y1],[y2],[y3],[y4]]) (T.b false)
  (fun y5=>k0 (T.i (IntKind.i64.wrap (1+y5.int)))))))))
def M5:PS CX aD:=eF yR (FN 20 Qz 10 1 wh [.one (RI)]) Tryz.f20 ⟨20,1,18,4⟩
def gU (m:Nat):Nat->amy
 | 0=>ao9
 | n+1=>fun x0 x1 x2 x3 x4 x5 x6 x7 x8 x9 x10 bC dw dO fO kF mO mY x18 nC x20 x21 vg k0 k1 =>
  jl x2 fO
  (aQ x2 x20
  (cond (decide ((Int.toNat x2.int)<x20.rows.length))
  (aQ x2 fO
  (cond (decide ((Int.toNat x2.int)<fO.rows.length))
  (sU m (aG x20 x2 0) (aG x20 x2 1) (aG x20 x2 2) (wL (aG x20 x2 3)) (aG x20 x2 4) (aG fO x2 0) (aG fO x2 1) (aG fO x2 2) (wL (aG fO x2 3)) (aG fO x2 4)
  (fun y153=>cond (!y153.bool)
  (k0 (T.b false))
  (gU m n (T.i (x0.int.toNat:Int)) (T.i (x1.int.toNat:Int)) (aT x2) x3 x4 x5 x6 x7 x8 x9 x10 (wL bC) (wL dw) (wL dO) (wL fO) (wL kF) (wL mO) (wL mY) (wL x18) (wL nC) (wL x20) (wL x21) (wL vg) k0 k1)))
  (.bad)))
  (.bad)))
  (k1 (T.i (x0.int.toNat:Int)) x3 x4 x5 x6 (wL bC) (wL dw) (wL dO) (wL fO) (wL kF) (wL mO))
def gV (m:Nat):Nat->amy
 | 0=>ao9
 | n+1=>fun x0 x1 x2 x3 x4 x5 x6 x7 x8 x9 x10 bC dw dO fO kF mO mY x18 nC x20 x21 vg k0 k1 =>
  jl x2 fO
  (aQ x2 x20
  (cond (decide ((Int.toNat x2.int)<x20.rows.length))
  (aQ x2 fO
  (cond (decide ((Int.toNat x2.int)<fO.rows.length))
  (sU m (aG x20 x2 0) (aG x20 x2 1) (aG x20 x2 2) (wL (aG x20 x2 3)) (aG x20 x2 4) (aG fO x2 0) (aG fO x2 1) (aG fO x2 2) (wL (aG fO x2 3)) (aG fO x2 4)
  (fun y167=>cond (!y167.bool)
  (k0 (T.b false))
  (gV m n (T.i (x0.int.toNat:Int)) (T.i (x1.int.toNat:Int)) (aT x2) x3 x4 x5 x6 x7 x8 x9 x10 (wL bC) (wL dw) (wL dO) (wL fO) (wL kF) (wL mO) (wL mY) (wL x18) (wL nC) (wL x20) (wL x21) (wL vg) k0 k1)))
  (.bad)))
  (.bad)))
  (k1 (T.i (x0.int.toNat:Int)) x3 x4 x5 x6 (wL bC) (wL dw) (wL dO) (wL fO) (wL kF) (wL mO))
def zW:Pack:=⟨[(2,.one (LB))],[]⟩
def zX:Pack:=⟨[(5,EP 0)],[((KI 0),.box [LI,LI,LI,LA (KI 1) tJ,LA (KI 2) tC,LI,LA (KI 3) tS,LA (KI 4) tW,LA (KI 5) tW,LA (KI 6) tB]),((KI 1),.row tJ [.F,.F,.F,.O [.F]] []),((KI 2),.row tC m2 []),((KI 3),.row tS mS []),((KI 4),.row tW m5 []),((KI 5),.row tW m5 []),((KI 6),.row tB m2 [])]⟩
def jM (m:Nat):Nat->amz
 | 0=>apa
 | n+1=>fun x0 x1 x2 x3 x4 x5 x6 x7 x8 x9 x10 bC dw dO fO kF mO mY x18 nC x20 x21 vg k0 k1 k2 =>
  jl x2 dO
  (jn (fun (arL:An) =>
  aQ x2 nC
  (cond (decide ((Int.toNat x2.int)<nC.rows.length))
  (aQ x2 dO
  (cond (decide ((Int.toNat x2.int)<dO.rows.length))
  (sS m (wL (aG nC x2 1)) (wL (aG dO x2 1))
  (fun ai8=>cond ((!ai8.bool)==false)
  (aQ x2 nC
  (cond (decide ((Int.toNat x2.int)<nC.rows.length))
  (aQ x2 dO
  (cond (decide ((Int.toNat x2.int)<dO.rows.length))
  (cond ((aG nC x2 2).int != (aG dO x2 2).int)
  (k0 (T.b false))
  (arL))
  (.bad)))
  (.bad)))
  (k0 (T.b false))))
  (.bad)))
  (.bad)))
  (jM m n (T.i (x0.int.toNat:Int)) (T.i (x1.int.toNat:Int)) (aT x2) x3 x4 x5 x6 x7 x8 x9 x10 (wL bC) (wL dw) (wL dO) (wL fO) (wL kF) (wL mO) (wL mY) (wL x18) (wL nC) (wL x20) (wL x21) (wL vg) k0 k1 k2))
  (k1 (T.i (x0.int.toNat:Int)) (T.i (x1.int.toNat:Int)) x3 x4 x5 x6 x7 x8 x9 x10 (wL bC) (wL dw) (wL dO) (wL fO) (wL kF) (wL mO) (wL mY) (wL x18) (wL nC) (wL x20) (wL x21) (wL vg))
def jN (m:Nat):Nat->amz
 | 0=>apa
 | n+1=>fun x0 x1 x2 x3 x4 x5 x6 x7 x8 x9 x10 bC dw dO fO kF mO mY x18 nC x20 x21 vg k0 k1 k2 =>
  jl x2 dO
  (jn (fun (arM:An) =>
  aQ x2 nC
  (cond (decide ((Int.toNat x2.int)<nC.rows.length))
  (aQ x2 dO
  (cond (decide ((Int.toNat x2.int)<dO.rows.length))
  (sS m (wL (aG nC x2 1)) (wL (aG dO x2 1))
  (fun anb=>cond ((!anb.bool)==false)
  (aQ x2 nC
  (cond (decide ((Int.toNat x2.int)<nC.rows.length))
  (aQ x2 dO
  (cond (decide ((Int.toNat x2.int)<dO.rows.length))
  (cond ((aG nC x2 2).int != (aG dO x2 2).int)
  (k0 (T.b false))
  (arM))
  (.bad)))
  (.bad)))
  (k0 (T.b false))))
  (.bad)))
  (.bad)))
  (jN m n (T.i (x0.int.toNat:Int)) (T.i (x1.int.toNat:Int)) (aT x2) x3 x4 x5 x6 x7 x8 x9 x10 (wL bC) (wL dw) (wL dO) (wL fO) (wL kF) (wL mO) (wL mY) (wL x18) (wL nC) (wL x20) (wL x21) (wL vg) k0 k1 k2))
  (k2 (T.i (x0.int.toNat:Int)) (T.i (x1.int.toNat:Int)) x3 x4 x5 x6 x7 x8 x9 x10 (wL bC) (wL dw) (wL dO) (wL fO) (wL kF) (wL mO) (wL mY) (wL x18) (wL nC) (wL x20) (wL x21) (wL vg))
def zY:Pack:=⟨[(2,.one (LB))],[]⟩
def zZ:Pack:=⟨[(5,EP 0),(6,EP 1)],[((KI 0),.box [LI,LI,LI,LA (KI 2) tJ,LA (KI 3) tC,LI,LA (KI 4) tS,LA (KI 5) tW,LA (KI 6) tW,LA (KI 7) tB]),((KI 1),.box [LI,LI,LI,LA (KI 8) tJ,LA (KI 9) tC,LI,LA (KI 10) tS,LA (KI 11) tW,LA (KI 12) tW,LA (KI 13) tB]),((KI 2),.row tJ [.F,.F,.F,.O [.F]] []),((KI 3),.row tC m2 []),((KI 4),.row tS mS []),((KI 5),.row tW m5 []),((KI 6),.row tW m5 []),((KI 7),.row tB m2 []),((KI 8),.row tJ [.F,.F,.F,.O [.F]] []),((KI 9),.row tC m2 []),((KI 10),.row tS mS []),((KI 11),.row tW m5 []),((KI 12),.row tW m5 []),((KI 13),.row tB m2 [])]⟩
def z8:Pack:=⟨[(5,EP 0),(6,EP 1)],[((KI 0),.box [LI,LI,LI,LA (KI 2) tJ,LA (KI 3) tC,LI,LA (KI 4) tS,LA (KI 5) tW,LA (KI 6) tW,LA (KI 7) tB]),((KI 1),.box [LI,LI,LI,LA (KI 8) tJ,LA (KI 9) tC,LI,LA (KI 10) tS,LA (KI 11) tW,LA (KI 12) tW,LA (KI 13) tB]),((KI 2),.row tJ [.F,.F,.F,.O [.F]] []),((KI 3),.row tC m2 []),((KI 4),.row tS mS []),((KI 5),.row tW m5 []),((KI 6),.row tW m5 []),((KI 7),.row tB m2 []),((KI 8),.row tJ m4 []),((KI 9),.row tC m2 []),((KI 10),.row tS mS []),((KI 11),.row tW m5 []),((KI 12),.row tW m5 []),((KI 13),.row tB m2 [])]⟩
def jO (m:Nat):Nat->T->T->T->T->T->T->T->T->T->T->T->T->T->T->T->T->T->T->T->T->T->T->T->T->T->T->T->T->T->T->T->T->T->T->T->(T->T->T->T->T->T->T->T->T->T->T->T->T->T->T->T->T->T->T->T->T->T->T->T->T->T->T->T->T->T->T->T->T->An)->(T->T->T->T->T->T->T->T->T->T->T->T->T->T->T->T->T->T->T->T->T->T->T->T->T->T->T->An)->An
 | 0,_,_,_,_,_,_,_,_,_,_,_,_,_,_,_,_,_,_,_,_,_,_,_,_,_,_,_,_,_,_,_,_,_,_,_,_,_=>.bad
 | n+1,x0,x1,x2,x3,x4,x5,x6,x7,x8,x9,x10,bC,dw,dO,fO,kF,mO,mY,x18,nC,x20,x21,vg,x23,x24,x25,TN,x27,x28,x29,x30,x31,x32,x33,x34,k0,k1 =>
  jl x3 x8
  (aQ x3 x8
  (cond (decide ((Int.toNat x3.int)<x8.rows.length))
  (Kw m dO fO kF (wL x29) (wL x30) mO (wL x31) (wL x32) (wL x33) (wL x34) (aG x8 x3 0) (aG x8 x3 1) (aG x8 x3 2) (wL (aG x8 x3 3))
  (fun EZ y34 H7 GN GQ y38 y39 H8 M4 NU Q9=>jO m n (T.i (x0.int.toNat:Int)) (T.i (x1.int.toNat:Int)) (T.i (x2.int.toNat:Int)) (aT x3) x4 x5 x6 x7 (wL x8) x9 x10 bC dw EZ y34 H7 y38 (wL mY) (wL x18) (wL nC) (wL x20) (wL x21) (wL vg) (wL x23) (wL x24) (wL x25) (wL TN) (wL x27) (wL x28) (wL GN) (wL GQ) (wL y39) (wL H8) (wL M4) (wL NU) k0 k1))
  (.bad)))
  (k0 (T.i (x0.int.toNat:Int)) (T.i (x1.int.toNat:Int)) (T.i (x2.int.toNat:Int)) x4 x5 x6 x7 x9 x10 bC dw dO fO kF mO (wL mY) (wL x18) (wL nC) (wL x20) (wL x21) (wL vg) (wL x23) (wL x24) (wL x25) (wL TN) (wL x27) (wL x28) (wL x29) (wL x30) (wL x31) (wL x32) (wL x33) (wL x34))
def uq (m:Nat):Nat->T->T->T->T->T->T->T->T->T->T->T->T->T->T->T->T->T->T->T->T->T->T->T->T->T->T->T->T->T->(T->T->T->T->T->T->T->T->T->T->T->T->T->T->T->T->T->T->T->T->T->T->T->T->T->T->T->T->T->T->T->T->T->An)->(T->T->T->T->T->T->T->T->T->T->T->T->T->T->T->T->T->T->T->T->T->T->T->T->T->T->T->An)->An
 | 0,_,_,_,_,_,_,_,_,_,_,_,_,_,_,_,_,_,_,_,_,_,_,_,_,_,_,_,_,_,_,_=>.bad
 | n+1,x0,x1,x2,x3,x4,x5,x6,x7,x8,x9,x10,bC,dw,dO,fO,kF,mO,mY,x18,nC,x20,x21,vg,x23,x24,x25,TN,x27,x28,k0,k1 =>
  jl x3 x8
  (aQ x3 x8
  (cond (decide ((Int.toNat x3.int)<x8.rows.length))
  (Kw m dO fO kF (wL mY) (wL x18) mO (wL nC) (wL x20) (wL x21) (wL vg) (aG x8 x3 0) (aG x8 x3 1) (aG x8 x3 2) (wL (aG x8 x3 3))
  (fun y22 y23 y24 y25 EX y27 y28 y29 EY y31 y32=>jO m n (T.i (x0.int.toNat:Int)) (T.i (x1.int.toNat:Int)) (T.i (x2.int.toNat:Int)) (aT x3) x4 x5 x6 x7 (wL x8) x9 x10 bC dw y22 y23 y24 y27 (wL mY) (wL x18) (wL nC) (wL x20) (wL x21) (wL vg) (wL x23) (wL x24) (wL x25) (wL TN) (wL x27) (wL x28) (wL y25) (wL EX) (wL y28) (wL y29) (wL EY) (wL y31) k0 k1))
  (.bad)))
  (k1 (T.i (x0.int.toNat:Int)) (T.i (x1.int.toNat:Int)) (T.i (x2.int.toNat:Int)) x4 x5 x6 x7 x9 x10 bC dw dO fO kF mO (wL mY) (wL x18) (wL nC) (wL x20) (wL x21) (wL vg) (wL x23) (wL x24) (wL x25) (wL TN) (wL x27) (wL x28))
def Aa:Pack:=⟨[(3,EP 0),(5,EP 1),(6,EP 2)],[((KI 0),.box [LI,LI,LI,LA (KI 3) tJ,LA (KI 4) tC,LI,LA (KI 5) tS,LA (KI 6) tW,LA (KI 7) tW,LA (KI 8) tB]),((KI 1),.box [LI,LI,LI,LA (KI 9) tJ,LA (KI 10) tC,LI,LA (KI 11) tS,LA (KI 12) tW,LA (KI 13) tW,LA (KI 14) tB]),((KI 2),.box [LI,LI,LI,LA (KI 15) tJ,LA (KI 16) tC,LI,LA (KI 17) tS,LA (KI 18) tW,LA (KI 19) tW,LA (KI 20) tB]),((KI 3),.row tJ m4 []),((KI 4),.row tC m2 []),((KI 5),.row tS mS []),((KI 6),.row tW m5 []),((KI 7),.row tW m5 []),((KI 8),.row tB m2 []),((KI 9),.row tJ [.F,.F,.F,.O [.F]] []),((KI 10),.row tC m2 []),((KI 11),.row tS mS []),((KI 12),.row tW m5 []),((KI 13),.row tW m5 []),((KI 14),.row tB m2 []),((KI 15),.row tJ [.F,.F,.F,.O [.F]] []),((KI 16),.row tC m2 []),((KI 17),.row tS mS []),((KI 18),.row tW m5 []),((KI 19),.row tW m5 []),((KI 20),.row tB m2 [])]⟩
def Ab:Pack:=⟨[(3,EP 0),(5,EP 1),(6,EP 2)],[((KI 0),.box [LI,LI,LI,LA (KI 3) tJ,LA (KI 4) tC,LI,LA (KI 5) tS,LA (KI 6) tW,LA (KI 7) tW,LA (KI 8) tB]),((KI 1),.box [LI,LI,LI,LA (KI 9) tJ,LA (KI 10) tC,LI,LA (KI 11) tS,LA (KI 12) tW,LA (KI 13) tW,LA (KI 14) tB]),((KI 2),.box [LI,LI,LI,LA (KI 3) tJ,LA (KI 4) tC,LI,LA (KI 5) tS,LA (KI 6) tW,LA (KI 7) tW,LA (KI 8) tB]),((KI 3),.row tJ m4 []),((KI 4),.row tC m2 []),((KI 5),.row tS mS []),((KI 6),.row tW m5 []),((KI 7),.row tW m5 []),((KI 8),.row tB m2 []),((KI 9),.row tJ [.F,.F,.F,.O [.F]] []),((KI 10),.row tC m2 []),((KI 11),.row tS mS []),((KI 12),.row tW m5 []),((KI 13),.row tW m5 []),((KI 14),.row tB m2 [])]⟩
def Co:Nat->K7
 | 0=>Lx
 | m+1=>fun x0 k0 =>
  Ki m (wL x0)
  (fun y0=>cond y0.bool
  (k0 (T.b true))
  (wN m (wL x0)
  (fun y1 y2 y3 y4 y5 y6 y7 y8 y9 mF mK=>Gv m y1 y2 y3 (wL y4) (wL y5) y6 (wL y7) (wL y8) (wL y9) (wL mF) (wL mK)
  (fun mM y13 nS qo sF qU su xJ y20 y21=>uq m m (T.i 0) (T.i 0) (T.i 0) (T.i 0) y1 y2 y3 y6 (wL mK) mM y13 nS qU y1 y2 y3 y6 (wL y4) (wL y5) (wL y7) (wL y8) (wL y9) (wL mF) (wL qo) (wL sF) (wL su) (wL xJ) (wL y20) (wL y21)
  (fun Ra LU NV XL y48 y49 y50 Y0 y52 Y1 Y2 y55 y56 y57 Y3 y59 y60 y61 y62 y63 y64 Y4 Y5 y67 y68 y69 y70 y71 y72 y73 y74 y75 y76=>jn (fun (arN:An) =>
  cond (((y74.rows.length:Int) != (y68.rows.length:Int))==false)
  (cond (((y75.rows.length:Int) != (y69.rows.length:Int))==false)
  (cond (((y72.rows.length:Int) != (Y5.rows.length:Int))==false)
  (cond (((y76.rows.length:Int) != (y70.rows.length:Int))==false)
  (cond ((y67.rows.length:Int) != (y61.rows.length:Int))
  (k0 (T.b false))
  (arN))
  (k0 (T.b false)))
  (k0 (T.b false)))
  (k0 (T.b false)))
  (k0 (T.b false)))
  (jM m m (T.i (LU.int.toNat:Int)) (T.i (NV.int.toNat:Int)) (T.i 0) Y0 y52 Y1 Y2 y55 y56 y57 Y3 (wL Y4) (wL Y5) (wL y67) (wL y68) (wL y69) (wL y70) (wL y71) (wL y72) (wL y73) (wL y74) (wL y75) (wL y76)
  (fun ag5=>k0 ag5)
  (fun ag6 ag7 ag8 y112 y113 y114 y115 ai9 aja ag9 aha ahb amM amN ajb ajc ajd aje ajf ajg abu abv=>gU m m (T.i (ag6.int.toNat:Int)) (T.i (ag7.int.toNat:Int)) (T.i 0) ag8 y112 y113 y114 y115 ai9 aja ag9 (wL aha) (wL ahb) (wL amM) (wL amN) (wL ajb) (wL ajc) (wL ajd) (wL aje) (wL ajf) (wL ajg) (wL abu) (wL abv)
  (fun ahk=>k0 ahk)
  (fun apA am6 y157 y158 y159 y160 ahl ahm ahn aho ahp=>wh m am6 y157 y158 (wL y160) (wL ahl) y159 (wL ahm) (wL ahn) (wL aho) (wL ahp)
  (fun ahq=>k0 (T.b (ahq.int==0)))))
  (fun abw abx ahc ahd amQ amR amS amT ahe ahf ahg ahh ahi ahj am1 am2 am3 am4 am5 y150 y151 y152=>gV m m (T.i (abw.int.toNat:Int)) (T.i (abx.int.toNat:Int)) (T.i 0) ahc ahd amQ amR amS amT ahe ahf (wL ahg) (wL ahh) (wL ahi) (wL ahj) (wL am1) (wL am2) (wL am3) (wL am4) (wL am5) (wL y150) (wL y151) (wL y152)
  (fun y168=>k0 y168)
  (fun apz amU amV amW amX amY amZ am0 am7 am8 am9=>wh m amU amV amW (wL amY) (wL amZ) amX (wL am0) (wL am7) (wL am8) (wL am9)
  (fun ana=>k0 (T.b (ana.int==0)))))))
  (fun y77 y78 y79 y80 y81 y82 y83 y84 y85 y86 y87 y88 y89 y90 y91 y92 y93 y94 y95 y96 y97 y98 y99 Y6 y101 y102 ag4=>jn (fun (arO:An) =>
  cond (((y95.rows.length:Int) != (y101.rows.length:Int))==false)
  (cond (((y96.rows.length:Int) != (y102.rows.length:Int))==false)
  (cond (((y93.rows.length:Int) != (y99.rows.length:Int))==false)
  (cond (((y97.rows.length:Int) != (ag4.rows.length:Int))==false)
  (cond ((Y6.rows.length:Int) != (y94.rows.length:Int))
  (k0 (T.b false))
  (arO))
  (k0 (T.b false)))
  (k0 (T.b false)))
  (k0 (T.b false)))
  (k0 (T.b false)))
  (jN m m (T.i (y78.int.toNat:Int)) (T.i (y79.int.toNat:Int)) (T.i 0) y84 y85 y86 y87 y88 y89 y90 y91 (wL y98) (wL y99) (wL Y6) (wL y101) (wL y102) (wL ag4) (wL y92) (wL y93) (wL y94) (wL y95) (wL y96) (wL y97)
  (fun anc=>k0 anc)
  (fun arP arQ arR arS arT arU arV arW arX arY arZ ar0 ar1 ar2 ar3 ar4 ar5 ar6 ar7 ar8 ar9 asa=>gU m m (T.i (arP.int.toNat:Int)) (T.i (arQ.int.toNat:Int)) (T.i 0) arR arS arT arU arV arW arX arY (wL arZ) (wL ar0) (wL ar1) (wL ar2) (wL ar3) (wL ar4) (wL ar5) (wL ar6) (wL ar7) (wL ar8) (wL ar9) (wL asa)
  (fun asb=>k0 asb)
  (fun au7 asc ase asf asg ash asi asj asl asn aso=>wh m asc ase asf (wL ash) (wL asi) asg (wL asj) (wL asl) (wL asn) (wL aso)
  (fun asq=>k0 (T.b (asq.int==0)))))
  (fun asr asu asv asw asx asy asz asA asB asC asD asE asF asG asH asI asJ asK asL asM asN asO=>gV m m (T.i (asr.int.toNat:Int)) (T.i (asu.int.toNat:Int)) (T.i 0) asv asw asx asy asz asA asB asC (wL asD) (wL asE) (wL asF) (wL asG) (wL asH) (wL asI) (wL asJ) (wL asK) (wL asL) (wL asM) (wL asN) (wL asO)
  (fun asP=>k0 asP)
  (fun au8 asQ asR asS asT asU asV asW asX asY asZ=>wh m asQ asR asS (wL asU) (wL asV) asT (wL asW) (wL asX) (wL asY) (wL asZ)
  (fun as0=>k0 (T.b (as0.int==0)))))))))))
def xW:Fs:=⟨6,[.one (.fz tU [])],fun m vs k=>ap 1 (Co m) vs (lm 1 fun z=>k (Tm ⟨[.one (RB)],[[none]],[none]⟩ z))⟩
def Oh:List Ls:=[⟨[0,1,0,1,1,1,1,1,1,1,1],⟨[(5,EP 0),(6,EP 1),(9,.one (LI))],[((KI 0),.box [LI,LI,LI,LA (KI 2) tJ,LA (KI 3) tC,LI,LA (KI 4) tS,LA (KI 5) tW,LA (KI 6) tW,LA (KI 7) tB]),((KI 1),.box [LI,LI,LI,LA (KI 8) tJ,LA (KI 9) tC,LI,LA (KI 10) tS,LA (KI 11) tW,LA (KI 12) tW,LA (KI 13) tB]),((KI 2),.row tJ [.F,.F,.F,.O [.F]] []),((KI 3),.row tC m2 []),((KI 4),.row tS mS []),((KI 5),.row tW m5 []),((KI 6),.row tW m5 []),((KI 7),.row tB m2 []),((KI 8),.row tJ [.F,.F,.F,.O [.F]] []),((KI 9),.row tC m2 []),((KI 10),.row tS mS []),((KI 11),.row tW m5 []),((KI 12),.row tW m5 []),((KI 13),.row tB m2 [])]⟩,fun m n vs k=>ap 23 (gU m n) vs (lm 1 fun z=>k .ret (oN zW z)) (lm 11 fun z=>k (.exit 4) (oN zX z))⟩,⟨[0,1,0,1,1,1,1,1,1,1,1],⟨[(5,EP 0),(6,EP 1),(9,.one (LI))],[((KI 0),.box [LI,LI,LI,LA (KI 2) tJ,LA (KI 3) tC,LI,LA (KI 4) tS,LA (KI 5) tW,LA (KI 6) tW,LA (KI 7) tB]),((KI 1),.box [LI,LI,LI,LA (KI 8) tJ,LA (KI 9) tC,LI,LA (KI 10) tS,LA (KI 11) tW,LA (KI 12) tW,LA (KI 13) tB]),((KI 2),.row tJ [.F,.F,.F,.O [.F]] []),((KI 3),.row tC m2 []),((KI 4),.row tS mS []),((KI 5),.row tW m5 []),((KI 6),.row tW m5 []),((KI 7),.row tB m2 []),((KI 8),.row tJ m4 []),((KI 9),.row tC m2 []),((KI 10),.row tS mS []),((KI 11),.row tW m5 []),((KI 12),.row tW m5 []),((KI 13),.row tB m2 [])]⟩,fun m n vs k=>ap 23 (gV m n) vs (lm 1 fun z=>k .ret (oN zW z)) (lm 11 fun z=>k (.exit 4) (oN zX z))⟩,⟨[0,1,0,1,1,1,1,1,1,1],⟨[(5,EP 0),(6,EP 1),(8,.one (LI))],[((KI 0),.box [LI,LI,LI,LA (KI 2) tJ,LA (KI 3) tC,LI,LA (KI 4) tS,LA (KI 5) tW,LA (KI 6) tW,LA (KI 7) tB]),((KI 1),.box [LI,LI,LI,LA (KI 8) tJ,LA (KI 9) tC,LI,LA (KI 10) tS,LA (KI 11) tW,LA (KI 12) tW,LA (KI 13) tB]),((KI 2),.row tJ [.F,.F,.F,.O [.F]] []),((KI 3),.row tC m2 []),((KI 4),.row tS mS []),((KI 5),.row tW m5 []),((KI 6),.row tW m5 []),((KI 7),.row tB m2 []),((KI 8),.row tJ [.F,.F,.F,.O [.F]] []),((KI 9),.row tC m2 []),((KI 10),.row tS mS []),((KI 11),.row tW m5 []),((KI 12),.row tW m5 []),((KI 13),.row tB m2 [])]⟩,fun m n vs k=>ap 23 (jM m n) vs (lm 1 fun z=>k .ret (oN zY z)) (lm 22 fun z=>k (.exit 2) (oN zZ z)) (lm 22 fun z=>k (.exit 2) (oN z8 z))⟩,⟨[0,1,0,1,1,1,1,1,1,1],⟨[(5,EP 0),(6,EP 1),(8,.one (LI))],[((KI 0),.box [LI,LI,LI,LA (KI 2) tJ,LA (KI 3) tC,LI,LA (KI 4) tS,LA (KI 5) tW,LA (KI 6) tW,LA (KI 7) tB]),((KI 1),.box [LI,LI,LI,LA (KI 8) tJ,LA (KI 9) tC,LI,LA (KI 10) tS,LA (KI 11) tW,LA (KI 12) tW,LA (KI 13) tB]),((KI 2),.row tJ [.F,.F,.F,.O [.F]] []),((KI 3),.row tC m2 []),((KI 4),.row tS mS []),((KI 5),.row tW m5 []),((KI 6),.row tW m5 []),((KI 7),.row tB m2 []),((KI 8),.row tJ m4 []),((KI 9),.row tC m2 []),((KI 10),.row tS mS []),((KI 11),.row tW m5 []),((KI 12),.row tW m5 []),((KI 13),.row tB m2 [])]⟩,fun m n vs k=>ap 23 (jN m n) vs (lm 1 fun z=>k .ret (oN zY z)) (lm 22 fun z=>k (.exit 2) (oN zZ z)) (lm 22 fun z=>k (.exit 2) (oN z8 z))⟩,⟨[0,1,0,1,1,1,1,1],⟨[(3,EP 0),(4,.one (LA (KI 1) [.sc (.int .i64),.sc (.int .i64),.sc (.int .i64),.sl tO])),(5,EP 2),(6,EP 3),(7,.one (LI))],[((KI 0),.box [LI,LI,LI,LA (KI 4) tJ,LA (KI 5) tC,LI,LA (KI 6) tS,LA (KI 7) tW,LA (KI 8) tW,LA (KI 9) tB]),((KI 1),.row [.sc (.int .i64),.sc (.int .i64),.sc (.int .i64),.sl tO] m4 []),((KI 2),.box [LI,LI,LI,LA (KI 10) tJ,LA (KI 11) tC,LI,LA (KI 12) tS,LA (KI 13) tW,LA (KI 14) tW,LA (KI 15) tB]),((KI 3),.box [LI,LI,LI,LA (KI 16) tJ,LA (KI 17) tC,LI,LA (KI 18) tS,LA (KI 19) tW,LA (KI 20) tW,LA (KI 21) tB]),((KI 4),.row tJ m4 []),((KI 5),.row tC m2 []),((KI 6),.row tS mS []),((KI 7),.row tW m5 []),((KI 8),.row tW m5 []),((KI 9),.row tB m2 []),((KI 10),.row tJ [.F,.F,.F,.O [.F]] []),((KI 11),.row tC m2 []),((KI 12),.row tS mS []),((KI 13),.row tW m5 []),((KI 14),.row tW m5 []),((KI 15),.row tB m2 []),((KI 16),.row tJ [.F,.F,.F,.O [.F]] []),((KI 17),.row tC m2 []),((KI 18),.row tS mS []),((KI 19),.row tW m5 []),((KI 20),.row tW m5 []),((KI 21),.row tB m2 [])]⟩,fun m n vs k=>ap 35 (jO m n) vs (lm 33 fun z=>k (.exit 0) (oN Aa z)) (lm 27 fun z=>k (.exit 0) (oN Ab z))⟩,⟨[0,1,0,1,1,1,1,1],⟨[(3,EP 0),(4,.one (LA (KI 1) [.sc (.int .i64),.sc (.int .i64),.sc (.int .i64),.sl tO])),(5,EP 2),(6,EP 3),(7,.one (LI))],[((KI 0),.box [LI,LI,LI,LA (KI 4) tJ,LA (KI 5) tC,LI,LA (KI 6) tS,LA (KI 7) tW,LA (KI 8) tW,LA (KI 9) tB]),((KI 1),.row [.sc (.int .i64),.sc (.int .i64),.sc (.int .i64),.sl tO] m4 []),((KI 2),.box [LI,LI,LI,LA (KI 10) tJ,LA (KI 11) tC,LI,LA (KI 12) tS,LA (KI 13) tW,LA (KI 14) tW,LA (KI 15) tB]),((KI 3),.box [LI,LI,LI,LA (KI 4) tJ,LA (KI 5) tC,LI,LA (KI 6) tS,LA (KI 7) tW,LA (KI 8) tW,LA (KI 9) tB]),((KI 4),.row tJ m4 []),((KI 5),.row tC m2 []),((KI 6),.row tS mS []),((KI 7),.row tW m5 []),((KI 8),.row tW m5 []),((KI 9),.row tB m2 []),((KI 10),.row tJ [.F,.F,.F,.O [.F]] []),((KI 11),.row tC m2 []),((KI 12),.row tS mS []),((KI 13),.row tW m5 []),((KI 14),.row tW m5 []),((KI 15),.row tB m2 [])]⟩,fun m n vs k=>ap 29 (uq m n) vs (lm 33 fun z=>k (.exit 0) (oN Aa z)) (lm 27 fun z=>k (.exit 0) (oN Ab z))⟩]
theorem Oi:Qr CX aD (xW::M5.l)/\aa9 CX aD xW:=fnG M5.g xW Tryz.f6 ⟨6,1,139,4⟩ Oh (fun _ _=>rfl) (fun _ _ _=>by kernel_rfl) ⟨fun _ _ _=>rfl,fun _ _ _=>rfl,fun _ _ _=>rfl,fun _ _ _=>rfl,fun _ _ _=>rfl,fun _ _ _=>rfl,trivial⟩ ⟨fun _ _ _ _ _ _=>by kernel_rfl,fun _ _ _ _ _ _=>by kernel_rfl,fun _ _ _ _ _ _=>by kernel_rfl,fun _ _ _ _ _ _=>by kernel_rfl,fun _ _ _ _ _ _=>by kernel_rfl,fun _ _ _ _ _ _=>by kernel_rfl,trivial⟩ (fun _ _ _ _ _=>by kernel_rfl)
end
end Go.Proofs.YtpchnmbcbcfhjaaGreat

