/- A part of the proof: texts UP: see the last part's opening words. -/
import Derived.Test.YtpchnmbcbcfhjaaGreatH
set_option linter.unusedVariables false
set_option linter.unusedSimpArgs false
set_option linter.unnecessarySimpa false
namespace Go.Proofs.YtpchnmbcbcfhjaaGreat
open Go Go.E Go.Proofs
noncomputable section
def PS0:PS CX aC:=⟨[],abV⟩
def bg:Nat->T->(T->An)->An
 | 0,_,_=>.bad
 | m+1,x0,k0=>cond (decide (x0.rows.length * 3<=ay)) (k0 (wL x0)) .bad
def fV:List Arg:=[.one (.dz tO [])]
def kS (m:Nat) (vs:List T) (k:fE->An):An:=bg m (vs.headD dflt) (fun z0=>k ⟨[.one (.own [7000000] tO m3 z0.rows)],[[none]],[]⟩)
theorem qC (m:Nat) : ∀ vs k,gq CX aC m 76 (fArgs fV vs) k=kS m vs k:=by
 intro vs k
 cases m with
 | zero=>rfl
 | succ m =>
  refine Eq.trans (b:=((mo tO) (fArgs fV vs)).bind k) (by kernel_rfl) ?_
  refine Eq.trans (b:=(cond (decide ((vs.headD dflt).rows.length * 3<=ay)) (R3.ok ⟨[.one (.own [7000000] tO m3 (vs.headD dflt).rows)],[[none]],[]⟩) .bad).bind k) (by kernel_rfl) ?_
  rw [fO]; rfl
def qR:PS CX aC:=pS PS0 ⟨76,fV,kS⟩ qC
def fP:Nat->T->(T->An)->An
 | 0,_,_=>.bad
 | m+1,x0,k0=>cond (decide (x0.rows.length * 1<=ay)) (k0 (wL x0)) .bad
def kX:List Arg:=[.one (.dz tI [])]
def pO (m:Nat) (vs:List T) (k:fE->An):An:=fP m (vs.headD dflt) (fun z0=>k ⟨[.one (.own [7000000] tI [.F] z0.rows)],[[none]],[]⟩)
theorem xL (m:Nat) : ∀ vs k,gq CX aC m 118 (fArgs kX vs) k=pO m vs k:=by
 intro vs k
 cases m with
 | zero=>rfl
 | succ m =>
  refine Eq.trans (b:=((mo tI) (fArgs kX vs)).bind k) (by kernel_rfl) ?_
  refine Eq.trans (b:=(cond (decide ((vs.headD dflt).rows.length * 1<=ay)) (R3.ok ⟨[.one (.own [7000000] tI [.F] (vs.headD dflt).rows)],[[none]],[]⟩) .bad).bind k) (by kernel_rfl) ?_
  rw [fO]; rfl
def yB:PS CX aC:=pS qR ⟨118,kX,pO⟩ xL
def bP:Nat->T->(T->An)->An
 | 0,_,_=>.bad
 | m+1,x0,k0=>cond (decide (x0.rows.length * 2<=ay)) (k0 (wL x0)) .bad
def dM:List Arg:=[.one (.dz tC [])]
def gV (m:Nat) (vs:List T) (k:fE->An):An:=bP m (vs.headD dflt) (fun z0=>k ⟨[.one (.own [7000000] tC m2 z0.rows)],[[none]],[]⟩)
theorem mW (m:Nat) : ∀ vs k,gq CX aC m 119 (fArgs dM vs) k=gV m vs k:=by
 intro vs k
 cases m with
 | zero=>rfl
 | succ m =>
  refine Eq.trans (b:=((mo tC) (fArgs dM vs)).bind k) (by kernel_rfl) ?_
  refine Eq.trans (b:=(cond (decide ((vs.headD dflt).rows.length * 2<=ay)) (R3.ok ⟨[.one (.own [7000000] tC m2 (vs.headD dflt).rows)],[[none]],[]⟩) .bad).bind k) (by kernel_rfl) ?_
  rw [fO]; rfl
def nJ:PS CX aC:=pS yB ⟨119,dM,gV⟩ mW
def aW:Nat->T->(T->An)->An
 | 0,_,_=>.bad
 | m+1,x0,k0=>cond (decide (x0.rows.length * 2<=ay)) (k0 (wL x0)) .bad
def eP:List Arg:=[.one (.dz tP [])]
def jh (m:Nat) (vs:List T) (k:fE->An):An:=aW m (vs.headD dflt) (fun z0=>k ⟨[.one (.own [7000000] tP m2 z0.rows)],[[none]],[]⟩)
theorem oF (m:Nat) : ∀ vs k,gq CX aC m 47 (fArgs eP vs) k=jh m vs k:=by
 intro vs k
 cases m with
 | zero=>rfl
 | succ m =>
  refine Eq.trans (b:=((mo tP) (fArgs eP vs)).bind k) (by kernel_rfl) ?_
  refine Eq.trans (b:=(cond (decide ((vs.headD dflt).rows.length * 2<=ay)) (R3.ok ⟨[.one (.own [7000000] tP m2 (vs.headD dflt).rows)],[[none]],[]⟩) .bad).bind k) (by kernel_rfl) ?_
  rw [fO]; rfl
def o9:PS CX aC:=pS nJ ⟨47,eP,jh⟩ oF
def DF:Nat->T->(T->An)->An
 | 0,_,_=>.bad
 | m+1,x0,k0=>k0 (T.l (xH x0.rows))
def zR:List Arg:=[.one (.own tI [.F] [])]
def EU (m:Nat) (vs:List T) (k:fE->An):An:=DF m (vs.headD dflt) (fun z0=>k ⟨[],[[some (tI,[.F],z0.rows)]],[]⟩)
theorem NC (m:Nat) : ∀ vs k,gq CX aC m 40 (fArgs zR vs) k=EU m vs k:=by
 intro vs k
 cases m with
 | zero=>rfl
 | succ m =>
  refine Eq.trans (b:=(Dx (fArgs zR vs)).bind k) (by kernel_rfl) ?_
  rfl
def Pp:PS CX aC:=pS o9 ⟨40,zR,EU⟩ NC
def slices_Compact:Nat->T->(T->An)->An
 | 0,_,_=>.bad
 | m+1,x0,k0=>k0 (T.l (oC x0.rows))
def sQ:List Arg:=[.one (.own tI [.F] [])]
def Am (m:Nat) (vs:List T) (k:fE->An):An:=slices_Compact m (vs.headD dflt) (fun z0=>k ⟨[.one (.own [7000000] tI [.F] z0.rows)],[[none]],[]⟩)
theorem He (m:Nat) : ∀ vs k,gq CX aC m 42 (fArgs sQ vs) k=Am m vs k:=by
 intro vs k
 cases m with
 | zero=>rfl
 | succ m =>
  refine Eq.trans (b:=(uU (fArgs sQ vs)).bind k) (by kernel_rfl) ?_
  rfl
def IV:PS CX aC:=pS Pp ⟨42,sQ,Am⟩ He
def fq:Nat->T->T->T->(T->An)->An
 | 0,_,_,_,_=>.bad
 | m+1,x0,x1,x2,k0=>cond (decide (0<=x1.int/\x1.int<=(x0.rows.length:Int))&&decide (0<x2.rows.length)&&decide ((x0.rows.length+x2.rows.length) * 2<=ay)) (k0 (T.l (x0.rows.take x1.int.toNat++x2.rows++x0.rows.drop x1.int.toNat))) .bad
def eu:List Arg:=[.one (.own tP m2 []),.one (AI),.one (.own tP m2 [])]
def iZ (m:Nat) (vs:List T) (k:fE->An):An:=fq m (vs.headD dflt) (vs.tail.headD dflt) (vs.tail.tail.headD dflt) (fun z0=>k ⟨[.one (.own [7000000] tP m2 z0.rows)],[[none],[none],[none]],[]⟩)
theorem nX (m:Nat) : ∀ vs k,gq CX aC m 92 (fArgs eu vs) k=iZ m vs k:=by
 intro vs k
 cases m with
 | zero=>rfl
 | succ m =>
  refine Eq.trans (b:=((xI tP) (fArgs eu vs)).bind k) (by kernel_rfl) ?_
  refine Eq.trans (b:=(cond (decide (0<=(vs.tail.headD dflt).int/\(vs.tail.headD dflt).int<=((vs.headD dflt).rows.length:Int))&&decide (0<(vs.tail.tail.headD dflt).rows.length)&&decide (((vs.headD dflt).rows.length+(vs.tail.tail.headD dflt).rows.length) * 2<=ay)) (R3.ok ⟨[.one (.own [7000000] tP m2 ((vs.headD dflt).rows.take (vs.tail.headD dflt).int.toNat++(vs.tail.tail.headD dflt).rows++(vs.headD dflt).rows.drop (vs.tail.headD dflt).int.toNat))],[[none],[none],[none]],[]⟩) .bad).bind k) (by kernel_rfl) ?_
  rw [fO]; rfl
def oG:PS CX aC:=pS IV ⟨92,eu,iZ⟩ nX
def yX:Nat->T->T->(T->An)->An
 | 0,_,_,_=>.bad
 | m+1,x0,x1,k0=>cond (decide (x0.rows.length * 2<=ay)) (k0 (T.l (yV x0.rows x1))) .bad
def zS:List Arg:=[.one (.dz tP []),.one (AS)]
def EW (m:Nat) (vs:List T) (k:fE->An):An:=yX m (vs.headD dflt) (vs.tail.headD dflt) (fun z0=>k ⟨[.one (.own [7000000] tP m2 z0.rows)],[[none],[none]],[]⟩)
theorem ND (m:Nat) : ∀ vs k,gq CX aC m 49 (fArgs zS vs) k=EW m vs k:=by
 intro vs k
 cases m with
 | zero=>rfl
 | succ m =>
  refine Eq.trans (b:=(xK (fArgs zS vs)).bind k) (by kernel_rfl) ?_
  refine Eq.trans (b:=(cond (decide ((vs.headD dflt).rows.length * 2<=ay)) (R3.ok ⟨[.one (.own [7000000] tP m2 (yV (vs.headD dflt).rows (vs.tail.headD dflt)))],[[none],[none]],[]⟩) .bad).bind k) (by kernel_rfl) ?_
  rw [fO]; rfl
def Pq:PS CX aC:=pS oG ⟨49,zS,EW⟩ ND
def bY:Nat->T->T->T->(T->An)->An
 | 0,_,_,_,_=>.bad
 | m+1,x0,x1,x2,k0=>cond (decide (0<=x1.int/\x1.int<x2.int/\x2.int<=(x0.rows.length:Int))) (k0 (T.l (x0.rows.take x1.int.toNat++x0.rows.drop x2.int.toNat))) .bad
def fu:List Arg:=[.one (.own tR m3 []),.one (AI),.one (AI)]
def jO (m:Nat) (vs:List T) (k:fE->An):An:=bY m (vs.headD dflt) (vs.tail.headD dflt) (vs.tail.tail.headD dflt) (fun z0=>k ⟨[.one (.own [7000000] tR m3 z0.rows)],[[none],[none],[none]],[]⟩)
theorem pq (m:Nat) : ∀ vs k,gq CX aC m 184 (fArgs fu vs) k=jO m vs k:=by
 intro vs k
 cases m with
 | zero=>rfl
 | succ m =>
  refine Eq.trans (b:=((xJ tR) (fArgs fu vs)).bind k) (by kernel_rfl) ?_
  refine Eq.trans (b:=(cond (decide (0<=(vs.tail.headD dflt).int/\(vs.tail.headD dflt).int<(vs.tail.tail.headD dflt).int/\(vs.tail.tail.headD dflt).int<=((vs.headD dflt).rows.length:Int))) (R3.ok ⟨[.one (.own [7000000] tR m3 ((vs.headD dflt).rows.take (vs.tail.headD dflt).int.toNat++(vs.headD dflt).rows.drop (vs.tail.tail.headD dflt).int.toNat))],[[none],[none],[none]],[]⟩) .bad).bind k) (by kernel_rfl) ?_
  rw [fO]; rfl
def pU:PS CX aC:=pS Pq ⟨184,fu,jO⟩ pq
def FI:Nat->T->T->T->T->T->T->T->T->T->T->T->An
 | _,_,_,_,_,_,_,_,_,_,_,_=>.bad
def oH:List Arg:=[.bx [AI,AI,AI,.own tJ [.F,.F,.F,.O [.F]] [],.own tC m2 [],AI,.own tS mS [],.own tW m5 [],.own tW m5 [],.own tB m2 []],.one (.dz tO [])]
def uW (m:Nat) (vs:List T) (k:fE->An):An:=.bad
theorem CQ (m:Nat) : ∀ vs k,gq CX aC m 81 (fArgs oH vs) k=uW m vs k:=by
 intro vs k
 cases m with
 | zero=>rfl
 | succ m =>
  refine Eq.trans (b:=(wD (fArgs oH vs)).bind k) (by kernel_rfl) ?_
  rfl
def DI:PS CX aC:=pS pU ⟨81,oH,uW⟩ CQ
def Hf:Nat->T->T->T->T->T->T->T->T->T->T->T->T->An
 | _,_,_,_,_,_,_,_,_,_,_,_,_=>.bad
def pV:List Arg:=[.bx [AI,AI,AI,.own tJ [.F,.F,.F,.O [.F]] [],.own tC m2 [],AI,.own tS mS [],.own tW m5 [],.own tW m5 [],.own tB m2 []],.one (AI),.one (AI)]
def vU (m:Nat) (vs:List T) (k:fE->An):An:=.bad
theorem DJ (m:Nat) : ∀ vs k,gq CX aC m 82 (fArgs pV vs) k=vU m vs k:=by
 intro vs k
 cases m with
 | zero=>rfl
 | succ m =>
  refine Eq.trans (b:=(wD (fArgs pV vs)).bind k) (by kernel_rfl) ?_
  rfl
def ED:PS CX aC:=pS DI ⟨82,pV,vU⟩ DJ
def FJ:Nat->T->T->T->T->T->T->T->T->T->T->T->T->T->T->An
 | _,_,_,_,_,_,_,_,_,_,_,_,_,_,_=>.bad
def oI:List Arg:=[.bx [AI,AI,AI,.own tJ [.F,.F,.F,.O [.F]] [],.own tC m2 [],AI,.own tS mS [],.own tW m5 [],.own tW m5 [],.own tB m2 []],.agg [AI,AI,AI,.dz tO []]]
def uX (m:Nat) (vs:List T) (k:fE->An):An:=.bad
theorem CR (m:Nat) : ∀ vs k,gq CX aC m 83 (fArgs oI vs) k=uX m vs k:=by
 intro vs k
 cases m with
 | zero=>rfl
 | succ m =>
  refine Eq.trans (b:=(wD (fArgs oI vs)).bind k) (by kernel_rfl) ?_
  rfl
def DK:PS CX aC:=pS ED ⟨83,oI,uX⟩ CR
def DL:Nat->T->An
 | _,_=>.bad
def mX:List Arg:=[.EB [.sc (.int .i64),.sc (.int .i64),.sc (.int .i64),.sl tJ,.sl tC,.sc (.int .i64)] []]
def rF (m:Nat) (vs:List T) (k:fE->An):An:=.bad
theorem Ao (m:Nat) : ∀ vs k,gq CX aC m 85 (fArgs mX vs) k=rF m vs k:=by
 intro vs k
 cases m with
 | zero=>rfl
 | succ m =>
  refine Eq.trans (b:=(wD (fArgs mX vs)).bind k) (by kernel_rfl) ?_
  rfl
def BM:PS CX aC:=pS DK ⟨85,mX,rF⟩ Ao
def wE:Nat->T->T->T->T->T->T->T->T->T->T->(T->An)->An
 | 0,_,_,_,_,_,_,_,_,_,_,_=>.bad
 | m+1,x0,x1,x2,x3,x4,x5,x6,x7,x8,x9,k0=>cond (decide ((sO x6.rows).length<=ay)) (k0 (T.b (XM (sO x6.rows)))) .bad
def xM:List Arg:=[.agg [AI,AI,AI,.dz tJ [],.dz tC [],AI,.dz tS [],.dz tW [],.dz tW [],.dz tB []]]
def DN (m:Nat) (vs:List T) (k:fE->An):An:=wE m (vs.headD dflt) (vs.tail.headD dflt) (vs.tail.tail.headD dflt) (vs.tail.tail.tail.headD dflt) (vs.tail.tail.tail.tail.headD dflt) (vs.tail.tail.tail.tail.tail.headD dflt) (vs.tail.tail.tail.tail.tail.tail.headD dflt) (vs.tail.tail.tail.tail.tail.tail.tail.headD dflt) (vs.tail.tail.tail.tail.tail.tail.tail.tail.headD dflt) (vs.tail.tail.tail.tail.tail.tail.tail.tail.tail.headD dflt) (fun z0=>k ⟨[.one (.sc (.bool) z0)],[List.replicate 10 none],[]⟩)
theorem Ku (m:Nat) : ∀ vs k,gq CX aC m 51 (fArgs xM vs) k=DN m vs k:=by
 intro vs k
 cases m with
 | zero=>rfl
 | succ m =>
  refine Eq.trans (b:=(uV (fArgs xM vs)).bind k) (by kernel_rfl) ?_
  refine Eq.trans (b:=(cond (decide ((sO (vs.tail.tail.tail.tail.tail.tail.headD dflt).rows).length<=ay)) (R3.ok ⟨[.one (.sc (.bool) (.b (XM (sO (vs.tail.tail.tail.tail.tail.tail.headD dflt).rows))))],[List.replicate 10 none],[]⟩) .bad).bind k) (by kernel_rfl) ?_
  rw [fO]; rfl
def NG:PS CX aC:=pS BM ⟨51,xM,DN⟩ Ku
def Hg:Nat->T->(T->An)->An
 | 0,_,_=>.bad
 | m+1,x0,k0 =>
  k0 (T.b (decide ((x0.rows.length:Int) > 1048576)))
def XP:PS CX aC:=fH NG (FN 7 [.one (.dz tU [])] 1 1 Hg [.one (RB)]) Tryz.f7 ⟨7,1,6,4⟩
def jC (m:Nat):Nat->T->T->T->(T->T->An)->An
 | 0,_,_,_,_=>.bad
 | n+1,x0,x1,x2,k0 =>
  jn (fun (j1:An) =>
  cond ((decide (x2.int<(x0.rows.length:Int)))==true)
  (cond (decide (x2.int<4000))
  (j1)
  (k0 x0 x1))
  (k0 x0 x1))
  (aY x2 x0
  (jC m n x0 (jw .i64 (BitVec.ofInt IntKind.i64.bits (IntKind.i64.wrap ((IntKind.i64.wrap ((IntKind.i64.wrap (x1.int * 137))+(IntKind.i64.wrap (aM x0 x2 0).int)))+11)) &&& BitVec.ofInt IntKind.i64.bits 1073741823)) (bq x2) k0))
def BN:Nat->T->(T->T->T->An)->An
 | 0,_,_=>.bad
 | m+1,x0,k0 =>
  jC m m (wL x0) (T.i (IntKind.i64.wrap (381381+(x0.rows.length:Int)))) (T.i 0)
  (fun y2 y3=>k0 (wL y2) (T.i 0) y3)
def SY:PS CX aC:=fH XP (FN 30 [.one (.fz tU [])] 1 3 BN [.bx [2000031] [.fz tU [],RI,RI]]) Tryz.f30 ⟨30,1,32,4⟩ [L1 [0,1,0,1,1] ⟨[(0,.one (LZ tU)),(3,.one (LI)),(4,.one (LI))],[]⟩ 3 2 jC (.exit 0) ⟨[(0,.one (LZ tU)),(3,.one (LI))],[]⟩]
def uY:Nat->T->T->(T->An)->An
 | 0,_,_,_=>.bad
 | m+1,x0,x1,k0 =>
  cond (decide ((IntKind.i64.wrap (3+(IntKind.i64.wrap (Int.tdiv (x0.rows.length:Int) 12)))) > x1.int))
  (k0 x1)
  (k0 (T.i (IntKind.i64.wrap (3+(IntKind.i64.wrap (Int.tdiv (x0.rows.length:Int) 12))))))
def Pt:PS CX aC:=fH SY (FN 57 [.one (.fz tU []),.one (AI)] 2 1 uY [.one (RI)]) Tryz.f57 ⟨57,2,15,16⟩
def mO:Nat->T->T->T->(T->T->T->T->An)->An
 | 0,_,_,_,_=>.bad
 | m+1,x0,x1,x2,k0 =>
  mU x1 x0
  (aY x1 x0
  (k0 (jw .i64 (BitVec.ofInt IntKind.i64.bits (IntKind.i64.wrap ((jw .i64 (BitVec.ofInt IntKind.i64.bits (jw .i64 (BitVec.ofInt IntKind.i64.bits (Int.fdiv (IntKind.i64.wrap ((IntKind.i64.wrap (x2.int * 6364136223846793005))+1442695040888963407)) (2 ^ (min (Int.toNat 33) IntKind.i64.bits))) ^^^ BitVec.ofInt IntKind.i64.bits (Int.fdiv (IntKind.i64.wrap ((IntKind.i64.wrap (x2.int * 6364136223846793005))+1442695040888963407)) (2 ^ (min (Int.toNat 47) IntKind.i64.bits))))).int &&& BitVec.ofInt IntKind.i64.bits 255)).int+(IntKind.i64.wrap (aM x0 x1 0).int))) &&& BitVec.ofInt IntKind.i64.bits 255)) (wL x0) (bq x1) (T.i (IntKind.i64.wrap ((IntKind.i64.wrap (x2.int * 6364136223846793005))+1442695040888963407)))))
  (k0 (jw .i64 (BitVec.ofInt IntKind.i64.bits (jw .i64 (BitVec.ofInt IntKind.i64.bits (Int.fdiv (IntKind.i64.wrap ((IntKind.i64.wrap (x2.int * 6364136223846793005))+1442695040888963407)) (2 ^ (min (Int.toNat 33) IntKind.i64.bits))) ^^^ BitVec.ofInt IntKind.i64.bits (Int.fdiv (IntKind.i64.wrap ((IntKind.i64.wrap (x2.int * 6364136223846793005))+1442695040888963407)) (2 ^ (min (Int.toNat 47) IntKind.i64.bits))))).int &&& BitVec.ofInt IntKind.i64.bits 255)) (wL x0) x1 (T.i (IntKind.i64.wrap ((IntKind.i64.wrap (x2.int * 6364136223846793005))+1442695040888963407))))
def Pv:PS CX aC:=fH Pt (F1 108 [.bx [.fz tU [],AI,AI]] 3 4 mO ⟨[.one (RI)],[[none,none,none]],[some [.fz tU [],RI,RI]]⟩) Tryz.f108 ⟨108,1,58,5⟩
def bV:Nat->T->T->T->T->(T->T->T->T->An)->An
 | 0,_,_,_,_,_=>.bad
 | m+1,x0,x1,x2,x3,k0 =>
  cond (decide (x3.int<=0))
  (k0 (T.i 0) (wL x0) x1 x2)
  (cond (decide (x3.int<=256))
  (mO m (wL x0) x1 x2
  (fun y0 y1 y2 y3=>cond (!decide (x3.int=0))
  (k0 (T.i (Int.tmod y0.int x3.int)) (wL y1) y2 y3)
  (.bad)))
  (mO m (wL x0) x1 x2
  (fun y4 y5 y6 y7=>mO m (wL y5) y6 y7
  (fun y8 y9 nK nE=>mO m (wL y9) nK nE
  (fun nN y13 oJ su=>cond (!decide (x3.int=0))
  (k0 (T.i (Int.tmod (IntKind.i64.wrap ((IntKind.i64.wrap ((IntKind.i64.wrap (y4.int * 65536))+(IntKind.i64.wrap (y8.int * 256))))+nN.int)) x3.int)) (wL y13) oJ su)
  (.bad))))))
def NH:PS CX aC:=fH Pv (F1 62 [.bx [.fz tU [],AI,AI],.one (AI)] 4 4 bV ⟨[.one (RI)],[[none,none,none],[none]],[some [.fz tU [],RI,RI],none]⟩) Tryz.f62 ⟨62,2,31,17⟩
def sS:Nat->T->T->T->T->(T->T->T->T->An)->An
 | 0,_,_,_,_,_=>.bad
 | m+1,x0,x1,x2,x3,k0 =>
  bV m (wL x0) x1 x2 (T.i (x3.rows.length:Int))
  (fun y0 y1 y2 y3=>aY y0 x3
  (k0 (aM x3 y0 0) (wL y1) y2 y3))
def S9:PS CX aC:=fH NH (F1 101 [.bx [.fz tU [],AI,AI],.one (.dz tI [])] 4 4 sS ⟨[.one (RI)],[[none,none,none],[none]],[some [.fz tU [],RI,RI],none]⟩) Tryz.f101 ⟨101,2,12,17⟩
def fC:Nat->T->T->T->(T->An)->An
 | 0,_,_,_,_=>.bad
 | m+1,x0,x1,x2,k0 =>
  cond ((decide (x0.int>=x1.int))==true)
  (k0 (T.b (decide (x0.int<=x2.int))))
  (k0 (T.b false))
def Vp:PS CX aC:=fH S9 (FN 112 [.one (AI),.one (AI),.one (AI)] 3 1 fC [.one (RB)]) Tryz.f112 ⟨112,3,15,64⟩
def uf:Nat->T->(T->T->T->T->T->T->An)->An
 | 0,_,_=>.bad
 | m+1,x0,k0 =>
  fC m x0 (T.i 1) (T.i 8)
  (fun y0=>cond (!y0.bool)
  (k0 (T.i 0) (T.i 0) (T.i 0) (T.l []) (T.l []) (T.i 0))
  (k0 x0 (T.i 1) (T.i 0) (T.l []) (T.l []) (T.i 0)))
def Kv:PS CX aC:=fH Vp (FN 155 [.one (AI)] 1 6 uf [.agg [RI,RI,RI,.own (KR 0 3) tJ m4 [],.own (KR 0 4) tC m2 [],RI]]) Tryz.f155 ⟨155,1,9,4⟩
def zT:Nat->T->(T->T->T->T->T->An)->An
 | 0,_,_=>.bad
 | m+1,x0,k0 =>
  fC m x0 (T.i 0) (T.i 7)
  (fun y0=>cond (!y0.bool)
  (k0 (T.i 0) (T.l []) (T.i 0) (T.l []) (T.l []))
  (k0 x0 (T.l []) (T.i 0) (T.l []) (T.l [])))
def Kw:PS CX aC:=fH Kv (FN 156 [.one (AI)] 1 5 zT [.agg [RI,.own (KR 0 1) tR m3 [],RI,.own (KR 0 3) tP m2 [],.own (KR 0 4) tR m3 []]]) Tryz.f156 ⟨156,1,9,4⟩
def iC (m:Nat):Nat->T->T->T->T->T->T->T->T->T->T->T->T->T->T->T->T->T->T->T->T->T->T->T->T->(T->T->T->T->T->T->T->T->T->T->T->T->T->T->T->T->T->T->T->T->T->T->An)->An
 | 0,_,_,_,_,_,_,_,_,_,_,_,_,_,_,_,_,_,_,_,_,_,_,_,_,_=>.bad
 | n+1,x0,x1,x2,x3,x4,x5,x6,x7,x8,x9,x10,bT,eH,jK,nY,ug,uh,vB,x18,CG,x20,x21,IW,x23,k0 =>
  cond (decide (x3.int<x0.int))
  (zT m x3
  (fun y7 y8 y9 nK nE=>cond (decide ((x20.rows.length+1) * 5<=ay))
  (iC m n x0 (T.i (x1.int.toNat:Int)) (T.i (x2.int.toNat:Int)) (bq x3) x4 x5 x6 x7 x8 x9 x10 bT (wL eH) (wL jK) (wL nY) (wL ug) (wL uh) (wL vB) (wL x18) (wL CG) (T.l (x20.rows++[[y7,(wL y8),y9,(wL nK),(wL nE)]])) (wL x21) (wL IW) (wL x23) k0)
  (.bad)))
  (k0 (T.i (x1.int.toNat:Int)) (T.i (x2.int.toNat:Int)) x4 x5 x6 x7 x8 x9 x10 bT (wL eH) (wL jK) (wL nY) (wL ug) (wL uh) (wL vB) (wL x18) (wL CG) (wL x20) (wL x21) (wL IW) (wL x23))
def uj:Nat->T->(T->T->T->T->T->T->T->T->T->T->An)->An
 | 0,_,_=>.bad
 | m+1,x0,k0 =>
  fC m x0 (T.i 1) (T.i 8)
  (fun y0=>cond (!y0.bool)
  (k0 (T.i 0) (T.i 0) (T.i 0) (T.l []) (T.l []) (T.i 0) (T.l []) (T.l []) (T.l []) (T.l []))
  (uf m x0
  (fun y1 y2 y3 y4 y5 y6=>iC m m x0 (T.i 0) (T.i 0) (T.i 0) (T.i 0) (T.i 0) (T.i 0) (T.i 0) y1 y2 y3 y6 (T.l []) (T.l []) (T.l []) (T.l []) (T.l []) (T.l []) (wL y4) (wL y5) (T.l []) (T.l []) (T.l []) (T.l [])
  (fun nN y13 oJ su vV uZ sU AU y20 y21 y22 y23 y24 y25 Lu y27 y28 y29 Lv y31 y32 QK=>k0 sU AU y20 (wL y28) (wL y29) y21 (wL Lv) (wL y31) (wL y32) (wL QK)))))
def Ky:PS CX aC:=fH Kw (FN 100 [.one (AI)] 1 10 uj [.agg [RI,RI,RI,.own (KR 0 3) tJ m4 [],.own (KR 0 4) tC m2 [],RI,.own (KR 0 6) tS mS [],.own (KR 0 7) tW m5 [],.own (KR 0 8) tW m5 [],.own (KR 0 9) tB m2 []]]) Tryz.f100 ⟨100,1,25,4⟩ [L1 [0,1,0,1,1,1] ⟨[(0,.one (LI)),(2,EP 0),(3,EP 1),(4,.one (LI))],[((KI 0),.box [LI,LI,LI,LA (KI 2) tJ,LA (KI 3) tC,LI,LA (KI 4) tS,LA (KI 5) tW,LA (KI 6) tW,LA (KI 7) tB]),((KI 1),.box [LI,LI,LI,LA (KI 8) tJ,LA (KI 9) tC,LI,LA (KI 10) tS,LA (KI 11) tW,LA (KI 12) tW,LA (KI 13) tB]),((KI 2),.row tJ m4 []),((KI 3),.row tC m2 []),((KI 4),.row tS mS []),((KI 5),.row tW m5 []),((KI 6),.row tW m5 []),((KI 7),.row tB m2 []),((KI 8),.row tJ m4 []),((KI 9),.row tC m2 []),((KI 10),.row tS mS []),((KI 11),.row tW m5 []),((KI 12),.row tW m5 []),((KI 13),.row tB m2 [])]⟩ 24 22 iC (.exit 0) ⟨[(2,EP 0),(3,EP 1)],[((KI 0),.box [LI,LI,LI,LA (KI 2) tJ,LA (KI 3) tC,LI,LA (KI 4) tS,LA (KI 5) tW,LA (KI 6) tW,LA (KI 7) tB]),((KI 1),.box [LI,LI,LI,LA (KI 8) tJ,LA (KI 9) tC,LI,LA (KI 10) tS,LA (KI 11) tW,LA (KI 12) tW,LA (KI 13) tB]),((KI 2),.row tJ m4 []),((KI 3),.row tC m2 []),((KI 4),.row tS mS []),((KI 5),.row tW m5 []),((KI 6),.row tW m5 []),((KI 7),.row tB m2 []),((KI 8),.row tJ m4 []),((KI 9),.row tC m2 []),((KI 10),.row tS mS []),((KI 11),.row tW m5 []),((KI 12),.row tW m5 []),((KI 13),.row tB m2 [])]⟩]
def yY:Nat->T->T->T->T->(T->T->T->T->An)->An
 | 0,_,_,_,_,_=>.bad
 | m+1,x0,x1,x2,x3,k0 =>
  bV m (wL x0) x1 x2 x3
  (fun y0 y1 y2 y3=>k0 (T.b (y0.int==0)) (wL y1) y2 y3)
def Pw:PS CX aC:=fH Ky (F1 109 [.bx [.fz tU [],AI,AI],.one (AI)] 4 4 yY ⟨[.one (RB)],[[none,none,none],[none]],[some [.fz tU [],RI,RI],none]⟩) Tryz.f109 ⟨109,2,9,17⟩
def xO:Nat->T->T->T->T->(T->T->T->T->An)->An
 | 0,_,_,_,_,_=>.bad
 | m+1,x0,x1,x2,x3,k0 =>
  bV m (wL x0) x1 x2 (T.i (x3.rows.length:Int))
  (fun y0 y1 y2 y3=>aY y0 x3
  (k0 (aM x3 y0 0) (wL y1) y2 y3))
def Ta:PS CX aC:=fH Pw (F1 117 [.bx [.fz tU [],AI,AI],.one (.dz tT [])] 4 4 xO ⟨[.one (RS)],[[none,none,none],[none]],[some [.fz tU [],RI,RI],none]⟩) Tryz.f117 ⟨117,2,12,17⟩
def BO:Nat->T->T->T->(T->T->T->T->An)->An
 | 0,_,_,_,_=>.bad
 | m+1,x0,x1,x2,k0 =>
  xO m (wL x0) x1 x2 (T.l [[(T.s (⟨#[97]⟩:ByteArray))],[(T.s (⟨#[98]⟩:ByteArray))],[(T.s (⟨#[99]⟩:ByteArray))],[(T.s (⟨#[107,49]⟩:ByteArray))],[(T.s (⟨#[107,50]⟩:ByteArray))],[(T.s (⟨#[109]⟩:ByteArray))],[(T.s (⟨#[122]⟩:ByteArray))]])
  (fun y0 y1 y2 y3=>k0 y0 (wL y1) y2 y3)
def Tc:PS CX aC:=fH Ta (F1 68 [.bx [.fz tU [],AI,AI]] 3 4 BO ⟨[.one (RS)],[[none,none,none]],[some [.fz tU [],RI,RI]]⟩) Tryz.f68 ⟨68,1,6,5⟩
def xP:Nat->T->T->T->(T->T->T->T->T->T->An)->An
 | 0,_,_,_,_=>.bad
 | m+1,x0,x1,x2,k0 =>
  sS m (wL x0) x1 x2 (T.l [[(T.i 1)],[(T.i 1)],[(T.i 1)],[(T.i 2)],[(T.i 3)]])
  (fun y0 y1 y2 y3=>BO m (wL y1) y2 y3
  (fun y4 y5 y6 y7=>cond (y0.int != 2)
  (xO m (wL y5) y6 y7 (T.l [[(T.s (⟨#[49]⟩:ByteArray))],[(T.s (⟨#[50]⟩:ByteArray))],[(T.s (⟨#[120]⟩:ByteArray))],[(T.s (⟨#[]⟩:ByteArray))],[(T.s (⟨#[49]⟩:ByteArray))]])
  (fun y8 y9 nK nE=>k0 y0 y4 y8 (wL y9) nK nE))
  (k0 y0 y4 (T.s (⟨#[]⟩:ByteArray)) (wL y5) y6 y7)))
def Td:PS CX aC:=fH Tc (F1 71 [.bx [.fz tU [],AI,AI]] 3 6 xP ⟨[.agg [RI,RS,RS]],[[none,none,none]],[some [.fz tU [],RI,RI]]⟩) Tryz.f71 ⟨71,1,18,5⟩
def gW (m:Nat):Nat->T->T->T->T->T->T->T->T->(T->T->T->T->T->T->An)->An
 | 0,_,_,_,_,_,_,_,_,_=>.bad
 | n+1,x0,x1,x2,x3,x4,x5,x6,x7,k0 =>
  mU x3 x0
  (jn (fun (j3:T->T->An) =>
  cond ((!x2.bool)==true)
  (aY x3 x0
  (cond (!(Op.bytesLess (qB x0 x3 1).str.toList x5.str.toList))
  (cond (decide ((x7.rows.length+1) * 3<=ay))
  (j3 (T.b true) (T.l (x7.rows++[[x4,x5,x6]])))
  (.bad))
  (j3 x2 (wL x7))))
  (j3 x2 (wL x7)))
  (fun y1 y2=>aY x3 x0
  (cond (!((qB x0 x3 1).str.toList==x5.str.toList))
  (aY x3 x0
  (cond (decide ((y2.rows.length+1) * 3<=ay))
  (gW m n x0 (T.i (x1.int.toNat:Int)) y1 (bq x3) x4 x5 x6 (T.l (y2.rows++[[(aM x0 x3 0),(aM x0 x3 1),(aM x0 x3 2)]])) k0)
  (.bad)))
  (gW m n x0 (T.i (x1.int.toNat:Int)) y1 (bq x3) x4 x5 x6 (wL y2) k0))))
  (k0 (T.i (x1.int.toNat:Int)) x2 x4 x5 x6 (wL x7))
def xQ:Nat->T->T->T->T->(T->An)->An
 | 0,_,_,_,_,_=>.bad
 | m+1,x0,x1,x2,x3,k0 =>
  gW m m (wL x0) (T.i 0) (T.b false) (T.i 0) x1 x2 x3 (T.l [])
  (fun y8 y9 nK nE nN y13=>cond (!y9.bool)
  (cond (decide ((y13.rows.length+1) * 3<=ay))
  (k0 (T.l (y13.rows++[[nK,nE,nN]])))
  (.bad))
  (k0 (wL y13)))
def Te:PS CX aC:=fH Td (FN 70 [.one (.dz tO []),.agg [AI,AS,AS]] 4 1 xQ [.one (.own (KR 0 0) tO m3 [])]) Tryz.f70 ⟨70,2,53,16⟩ [L1 [0,1,0,1,1,1] ⟨[(0,.one (LD tO)),(3,EP 1),(5,.one (LA (KI 2) tO)),(6,.one (LB)),(7,.one (LI))],[([4000000],.gone),((KI 1),.box [LI,LS,LS]),((KI 2),.row tO m3 [])]⟩ 8 6 gW (.exit 0) ⟨[(3,EP 0),(5,.one (LA (KI 1) tO)),(6,.one (LB))],[((KI 0),.box [LI,LS,LS]),((KI 1),.row tO m3 [])]⟩]
def jW (m:Nat):Nat->T->T->T->T->T->T->(T->T->T->T->T->An)->An
 | 0,_,_,_,_,_,_,_=>.bad
 | n+1,x0,x1,x2,x3,x4,x5,k0 =>
  cond (decide (x1.int > 0))
  (xP m (wL x2) x3 x4
  (fun y4 y5 y6 y7 y8 y9=>xQ m (wL x5) y4 y5 y6
  (fun nK=>jW m n (T.i (x0.int.toNat:Int)) (T.i (IntKind.i64.wrap (x1.int-1))) (wL y7) y8 y9 (wL nK) k0)))
  (k0 (T.i (x0.int.toNat:Int)) x2 x3 x4 (wL x5))
def u6:Nat->T->T->T->(T->T->T->T->An)->An
 | 0,_,_,_,_=>.bad
 | m+1,x0,x1,x2,k0 =>
  bV m (wL x0) x1 x2 (T.i 4)
  (fun y0 y1 y2 y3=>jW m m (T.i 0) (T.i (IntKind.i64.wrap (1+y0.int))) (wL y1) y2 y3 (T.l [])
  (fun nE nN y13 oJ su=>k0 (wL su) (wL nN) y13 oJ))
def Px:PS CX aC:=fH Te (F1 32 [.bx [.fz tU [],AI,AI]] 3 4 u6 ⟨[.one (.own (KR 0 0) tO m3 [])],[[none,none,none]],[some [.fz tU [],RI,RI]]⟩) Tryz.f32 ⟨32,1,18,5⟩ [L1 [0,1,0,1,1] ⟨[(0,.ptr [0,999999] 0 0 0),(3,.one (LA (KI 1) tO)),(4,.one (LI))],[([0,999999],.box [LZ tU,LI,LI]),((KI 1),.row tO m3 [])]⟩ 6 5 jW (.exit 0) ⟨[(0,.ptr [0,999999] 0 0 0),(3,.one (LA (KI 1) tO))],[([0,999999],.box [LZ tU,LI,LI]),((KI 1),.row tO m3 [])]⟩]
def nO:Nat->T->T->T->T->T->T->T->T->T->T->T->T->T->(T->T->T->T->T->T->T->An)->An
 | 0,_,_,_,_,_,_,_,_,_,_,_,_,_,_=>.bad
 | m+1,x0,x1,x2,x3,x4,x5,x6,x7,x8,x9,x10,bT,eH,k0 =>
  jn (fun (j16:T->T->T->T->An) =>
  cond ((decide ((x10.rows.length:Int) > 0))==true)
  (yY m (wL x0) x1 x2 (T.i 2)
  (fun y0 y1 y2 y3=>j16 (T.b y0.bool) (wL y1) y2 y3))
  (j16 (T.b false) (wL x0) x1 x2))
  (fun y4 y5 y6 y7=>cond y4.bool
  (sS m (wL y5) y6 y7 (T.l [[(T.i 2)],[(T.i 2)],[(T.i 2)],[(T.i 2)],[(T.i 2)],[(T.i 2)],[(T.i 3)],[(T.i 4)]])
  (fun y8 y9 nK nE=>bV m (wL y9) nK nE (T.i (x10.rows.length:Int))
  (fun nN y13 oJ su=>k0 y8 nN (T.i 0) (T.l []) (wL y13) oJ su)))
  (bV m (wL y5) y6 y7 (T.i (x9.rows.length:Int))
  (fun uZ sU AU y20=>bV m (wL sU) AU y20 (T.i 14)
  (fun y21 y22 y23 y24=>jn (fun (j44:T->An) =>
  cond (y21.int==0)
  (j44 (T.b true))
  (cond (y21.int==1)
  (j44 (T.b true))
  (j44 (T.b (y21.int==2)))))
  (fun y25=>cond y25.bool
  (u6 m (wL y22) y23 y24
  (fun Lu y27 y28 y29=>k0 (T.i 1) (T.i 0) (T.i 0) (wL Lu) (wL y27) y28 y29))
  (jn (fun (j43:T->An) =>
  cond (y21.int==3)
  (j43 (T.b true))
  (cond (y21.int==4)
  (j43 (T.b true))
  (cond (y21.int==5)
  (j43 (T.b true))
  (j43 (T.b (y21.int==6))))))
  (fun Lv=>cond Lv.bool
  (k0 (T.i 5) uZ (T.i 0) (T.l []) (wL y22) y23 y24)
  (jn (fun (j42:T->An) =>
  cond (y21.int==7)
  (j42 (T.b true))
  (j42 (T.b (y21.int==8))))
  (fun y31=>cond y31.bool
  (k0 (T.i 6) (T.i 0) (T.i 0) (T.l []) (wL y22) y23 y24)
  (jn (fun (j41:T->An) =>
  cond (y21.int==9)
  (j41 (T.b true))
  (j41 (T.b (y21.int==10))))
  (fun y32=>cond y32.bool
  (k0 (T.i 7) (T.i 0) (T.i 0) (T.l []) (wL y22) y23 y24)
  (cond (y21.int==11)
  (k0 (T.i 8) uZ (T.i 0) (T.l []) (wL y22) y23 y24)
  (cond (y21.int==12)
  (bV m (wL y22) y23 y24 (T.i 3)
  (fun QK y34 Ub Vq=>k0 (T.i 9) uZ QK (T.l []) (wL y34) Ub Vq))
  (bV m (wL y22) y23 y24 (T.i 3)
  (fun Vr y38 y39 Py=>k0 (T.i 10) (T.i 0) Vr (T.l []) (wL y38) y39 Py)))))))))))))))
def Kz:PS CX aC:=fH Px (F1 63 [.bx [.fz tU [],AI,AI],.agg [AI,AI,AI,.dz tJ [],.dz tC [],AI,.dz tS [],.dz tW [],.dz tW [],.dz tB []]] 13 7 nO ⟨[.agg [RI,RI,RI,.own (KR 0 3) tO m3 []]],[[none,none,none],[none,none,none,none,none,none,none,none,none,none]],[some [.fz tU [],RI,RI],none]⟩) Tryz.f63 ⟨63,2,65,17⟩
def jD (m:Nat):Nat->T->T->(T->An)->(T->An)->An
 | 0,_,_,_,_=>.bad
 | n+1,x0,x1,k0,k1 =>
  cond (decide (x1.int<(x0.str.size:Int)))
  (cond (decide ((0:Int)<=x1.int/\x1.int<(x0.str.size:Int)))
  (fC m (T.i (IntKind.i64.wrap ((x0.str.data.toList.getD (Int.toNat x1.int) 0).toNat:Int))) (T.i 97) (T.i 122)
  (fun y0=>cond ((!y0.bool)==true)
  (cond (decide ((0:Int)<=x1.int/\x1.int<(x0.str.size:Int)))
  (fC m (T.i (IntKind.i64.wrap ((x0.str.data.toList.getD (Int.toNat x1.int) 0).toNat:Int))) (T.i 48) (T.i 57)
  (fun y1=>cond (!y1.bool)
  (k0 (T.b false))
  (jD m n x0 (bq x1) k0 k1)))
  (.bad))
  (jD m n x0 (bq x1) k0 k1)))
  (.bad))
  (k1 x0)
def BP:Nat->T->(T->An)->An
 | 0,_,_=>.bad
 | m+1,x0,k0 =>
  jD m m x0 (T.i 0)
  (fun y3=>k0 y3)
  (fun y4=>fC m (T.i (y4.str.size:Int)) (T.i 1) (T.i 12)
  (fun y5=>k0 y5))
def Tf:PS CX aC:=fH Kz (FN 213 [.one (AS)] 1 1 BP [.one (RB)]) Tryz.f213 ⟨213,1,27,4⟩ [L2 [0,1,0,1] ⟨[(0,.one (LS)),(3,.one (LI))],[]⟩ 2 1 1 jD .ret ⟨[(2,.one (LB))],[]⟩ (.exit 0) ⟨[(0,.one (LS))],[]⟩]
def En:Nat->T->T->T->(T->An)->An
 | 0,_,_,_,_=>.bad
 | m+1,x0,x1,x2,k0 =>
  fC m x0 (T.i 1) (T.i 3)
  (fun y0=>cond ((!y0.bool)==false)
  (cond ((x0.int==2)==true)
  (cond (!(x2.str.toList==(⟨#[]⟩:ByteArray).toList))
  (k0 (T.b false))
  (BP m x1
  (fun y6=>cond (y6.bool==true)
  (k0 (T.b (decide ((x2.str.size:Int)<=20))))
  (k0 (T.b false)))))
  (BP m x1
  (fun y8=>cond (y8.bool==true)
  (k0 (T.b (decide ((x2.str.size:Int)<=20))))
  (k0 (T.b false)))))
  (k0 (T.b false)))
def Vs:PS CX aC:=fH Tf (FN 201 [.agg [AI,AS,AS]] 3 1 En [.one (RB)]) Tryz.f201 ⟨201,1,26,4⟩
def jE (m:Nat):Nat->T->T->(T->An)->(T->An)->An
 | 0,_,_,_,_=>.bad
 | n+1,x0,x1,k0,k1 =>
  mU x1 x0
  (aY x1 x0
  (En m (aM x0 x1 0) (aM x0 x1 1) (aM x0 x1 2)
  (fun y0=>cond ((!y0.bool)==false)
  (cond ((decide (x1.int > 0))==true)
  (cond (decide ((0:Int)<=(IntKind.i64.wrap (x1.int-1))/\(IntKind.i64.wrap (x1.int-1))<(x0.rows.length:Int)))
  (aY x1 x0
  (cond (!(Op.bytesLess (((x0.rows.getD (Int.toNat (IntKind.i64.wrap (x1.int-1))) []).drop 1).getD 0 dflt).str.toList (qB x0 x1 1).str.toList))
  (k0 (T.b false))
  (jE m n x0 (bq x1) k0 k1)))
  (.bad))
  (jE m n x0 (bq x1) k0 k1))
  (k0 (T.b false)))))
  (k1 x0)
def sV:Nat->T->(T->An)->An
 | 0,_,_=>.bad
 | m+1,x0,k0 =>
  jE m m (wL x0) (T.i 0)
  (fun y2=>k0 y2)
  (fun y3=>fC m (T.i (y3.rows.length:Int)) (T.i 1) (T.i 8)
  (fun y4=>k0 y4))
def Tg:PS CX aC:=fH Vs (FN 188 [.one (.dz tO [])] 1 1 sV [.one (RB)]) Tryz.f188 ⟨188,1,37,4⟩ [L2 [0,1,0,1] ⟨[(0,.one (LD tO)),(3,.one (LI))],[([4000000],.gone)]⟩ 2 1 1 jE .ret ⟨[(2,.one (LB))],[]⟩ (.exit 0) ⟨[(0,.one (LD tO))],[([4000000],.gone)]⟩]
def jc:Nat->T->(T->An)->An
 | 0,_,_=>.bad
 | m+1,x0,k0 =>
  cond (decide ((0+x0.rows.length) * 3<=ay))
  (k0 (wL x0))
  (.bad)
def IX:PS CX aC:=fH Tg (FN 107 [.one (.dz tO [])] 1 1 jc [.one (.own (KR 0 0) tO m3 [])]) Tryz.f107 ⟨107,1,6,4⟩
def mq (m:Nat):Nat->T->T->T->(T->An)->An
 | 0,_,_,_,_=>.bad
 | n+1,x0,x1,x2,k0 =>
  cond (decide (x2.int<(x0.str.size:Int)))
  (cond (decide ((0:Int)<=x2.int/\x2.int<(x0.str.size:Int)))
  (mq m n x0 (jw .i64 (BitVec.ofInt IntKind.i64.bits (IntKind.i64.wrap ((jw .i64 (BitVec.ofInt IntKind.i64.bits x1.int ^^^ BitVec.ofInt IntKind.i64.bits (IntKind.i64.wrap ((x0.str.data.toList.getD (Int.toNat x2.int) 0).toNat:Int)))).int * 16777619)) &&& BitVec.ofInt IntKind.i64.bits 4294967295)) (bq x2) k0)
  (.bad))
  (k0 x1)
def IY:Nat->T->(T->An)->An
 | 0,_,_=>.bad
 | m+1,x0,k0 =>
  mq m m x0 (T.i 2166136261) (T.i 0)
  (fun y0=>k0 y0)
def Vt:PS CX aC:=fH IX (FN 219 [.one (AS)] 1 1 IY [.one (RI)]) Tryz.f219 ⟨219,1,20,4⟩ [L1 [0,1,0,1,1] ⟨[(0,.one (LS)),(3,.one (LI)),(4,.one (LI))],[]⟩ 3 1 mq (.exit 0) ⟨[(3,.one (LI))],[]⟩]
def pz:Nat->T->T->(T->An)->An
 | 0,_,_,_=>.bad
 | m+1,x0,x1,k0 =>
  cond (decide (x1.int<1))
  (k0 (T.i 0))
  (IY m x0
  (fun y0=>cond (!decide (x1.int=0))
  (k0 (T.i (Int.tmod y0.int x1.int)))
  (.bad)))
def NI:PS CX aC:=fH Vt (FN 211 [.one (AS),.one (AI)] 2 1 pz [.one (RI)]) Tryz.f211 ⟨211,2,11,16⟩
def lg (m:Nat):Nat->T->T->T->(T->An)->An->An
 | 0,_,_,_,_,_=>.bad
 | n+1,x0,x1,x2,k0,k1 =>
  mU x2 x0
  (aY x2 x0
  (cond ((aM x0 x2 0).int==x1.int)
  (k0 (T.b true))
  (lg m n x0 x1 (bq x2) k0 k1)))
  (k1 )
def qD:Nat->T->T->(T->An)->An
 | 0,_,_,_=>.bad
 | m+1,x0,x1,k0 =>
  lg m m (wL x0) x1 (T.i 0)
  (fun y0=>k0 y0)
  (k0 (T.b false))
def Ti:PS CX aC:=fH NI (FN 202 [.one (.dz tI []),.one (AI)] 2 1 qD [.one (RB)]) Tryz.f202 ⟨202,2,18,16⟩ [L2 [0,1,0,1] ⟨[(0,.one (LD tI)),(1,.one (LI)),(5,.one (LI))],[([4000000],.gone)]⟩ 3 1 0 lg .ret ⟨[(4,.one (LB))],[]⟩ (.exit 0) ⟨[],[]⟩]
def lq (m:Nat):Nat->T->T->T->(T->T->T->An)->An
 | 0,_,_,_,_=>.bad
 | n+1,x0,x1,x2,k0 =>
  jn (fun (j2:An) =>
  cond ((decide (x1.int > 0))==true)
  (cond (decide ((0:Int)<=(IntKind.i64.wrap (x1.int-1))/\(IntKind.i64.wrap (x1.int-1))<(x2.rows.length:Int)))
  (cond (decide ((Int.toNat (IntKind.i64.wrap (x1.int-1)))<x2.rows.length))
  (cond (decide (((x2.rows.getD (Int.toNat (IntKind.i64.wrap (x1.int-1))) []).getD 0 dflt).int > x0.int))
  (j2)
  (k0 x0 x1 (wL x2)))
  (.bad))
  (.bad))
  (k0 x0 x1 (wL x2)))
  (cond (decide ((0:Int)<=(IntKind.i64.wrap (x1.int-1))/\(IntKind.i64.wrap (x1.int-1))<(x2.rows.length:Int)))
  (cond (decide ((Int.toNat (IntKind.i64.wrap (x1.int-1)))<x2.rows.length))
  (aY x1 x2
  (cond (decide ((Int.toNat x1.int)<x2.rows.length))
  (lq m n x0 (T.i (IntKind.i64.wrap (x1.int-1))) (T.l (x2.rows.set (Int.toNat x1.int) ((x2.rows.getD (Int.toNat x1.int) []).set 0 ((x2.rows.getD (Int.toNat (IntKind.i64.wrap (x1.int-1))) []).getD 0 dflt)))) k0)
  (.bad)))
  (.bad))
  (.bad))
def qE:Nat->T->T->(T->An)->An
 | 0,_,_,_=>.bad
 | m+1,x0,x1,k0 =>
  qD m (wL x0) x1
  (fun y0=>cond y0.bool
  (k0 (wL x0))
  (cond (decide ((0+x0.rows.length) * 1<=ay))
  (cond (decide ((x0.rows.length+1) * 1<=ay))
  (lq m m x1 (T.i (IntKind.i64.wrap (((x0.rows++[[x1]]).length:Int)-1))) (T.l (x0.rows++[[x1]]))
  (fun y3 y4 y5=>aY y4 y5
  (cond (decide ((Int.toNat y4.int)<y5.rows.length))
  (k0 (T.l (y5.rows.set (Int.toNat y4.int) ((y5.rows.getD (Int.toNat y4.int) []).set 0 y3))))
  (.bad))))
  (.bad))
  (.bad)))
def Tj:PS CX aC:=fH Ti (FN 208 [.one (.fz tI []),.one (AI)] 2 1 qE [.one (.fz tI [])]) Tryz.f208 ⟨208,2,46,16⟩ [L1 [0,0,1,1,1,1] ⟨[(1,.one (LI)),(5,.one (LA (KI 0) tI)),(6,.one (LI))],[((KI 0),.row tI [.F] [])]⟩ 3 3 lq (.exit 0) ⟨[(1,.one (LI)),(5,.one (LA (KI 0) tI)),(6,.one (LI))],[((KI 0),.row tI [.F] [])]⟩]
def iD (m:Nat):Nat->T->T->T->T->(T->An)->(T->An)->An
 | 0,_,_,_,_,_,_=>.bad
 | n+1,x0,x1,x2,x3,k0,k1 =>
  mU x3 x0
  (aY x3 x0
  (pz m (qB x0 x3 1) x1
  (fun y2=>qE m (wL x2) y2
  (fun y3=>iD m n x0 x1 (wL y3) (bq x3) k0 k1))))
  (k0 x2)
def mY (m:Nat):Nat->T->T->T->T->(T->An)->(T->An)->An
 | 0,_,_,_,_,_,_=>.bad
 | n+1,x0,x1,x2,x3,k0,k1 =>
  mU x2 x0
  (aY x2 x0
  (pz m (qB x0 x2 1) x1
  (fun y0=>qE m (wL x3) y0
  (fun y1=>iD m n x0 x1 (wL y1) (bq x2) k0 k1))))
  (k1 (wL x3))
def xR:Pack:=⟨[(5,.one (LZ tI))],[]⟩
def xS:Pack:=⟨[(5,.one (LA (KI 0) tI))],[((KI 0),.fz tI [])]⟩
def lV:Nat->T->T->(T->An)->An
 | 0,_,_,_=>.bad
 | m+1,x0,x1,k0 =>
  mY m m (wL x0) x1 (T.i 0) (T.l [])
  (fun y4=>k0 (wL y4))
  (fun y5=>k0 (wL y5))
def KA:PS CX aC:=fH Tj (FN 195 [.one (.dz tO []),.one (AI)] 2 1 lV [.one (.fz tI [])]) Tryz.f195 ⟨195,2,24,16⟩ [L2 [0,1,0,1,1] ⟨[(0,.one (LD tO)),(1,.one (LI)),(5,.one (LZ tI)),(6,.one (LI))],[([4000000],.gone)]⟩ 4 1 1 iD (.exit 0) xR (.exit 0) xS,L2 [0,1,0,1,1] ⟨[(0,.one (LD tO)),(1,.one (LI)),(5,.one (LA (KI 1) tI)),(6,.one (LI))],[([4000000],.gone),((KI 1),.fz tI [])]⟩ 4 1 1 mY (.exit 0) xR (.exit 0) xS]
def iE (m:Nat):Nat->T->T->T->T->T->(T->An)->An
 | 0,_,_,_,_,_,_=>.bad
 | n+1,x0,x1,x2,x3,x4,k0 =>
  mU x3 x0
  (aY x3 x0
  (pz m (qB x0 x3 1) x2
  (fun y0=>cond (y0.int==x1.int)
  (aY x3 x0
  (cond (decide ((x4.rows.length+1) * 3<=ay))
  (iE m n x0 x1 x2 (bq x3) (T.l (x4.rows++[[(aM x0 x3 0),(aM x0 x3 1),(aM x0 x3 2)]])) k0)
  (.bad)))
  (iE m n x0 x1 x2 (bq x3) (wL x4) k0))))
  (k0 (wL x4))
def yZ:Nat->T->T->T->(T->An)->An
 | 0,_,_,_,_=>.bad
 | m+1,x0,x1,x2,k0 =>
  iE m m (wL x0) x1 x2 (T.i 0) (T.l [])
  (fun y3=>k0 (wL y3))
def Pz:PS CX aC:=fH KA (FN 203 [.one (.dz tO []),.one (AI),.one (AI)] 3 1 yZ [.one (.own (KR 0 0) tO m3 [])]) Tryz.f203 ⟨203,3,33,64⟩ [L1 [0,1,0,1,1] ⟨[(0,.one (LD tO)),(1,.one (LI)),(2,.one (LI)),(7,.one (LA (KI 1) tO)),(8,.one (LI))],[([4000000],.gone),((KI 1),.row tO m3 [])]⟩ 5 1 iE (.exit 0) ⟨[(7,.one (LA (KI 0) tO))],[((KI 0),.row tO m3 [])]⟩]
def iF (m:Nat):Nat->T->T->T->T->T->T->T->T->T->T->T->T->T->T->T->(T->An)->An
 | 0,_,_,_,_,_,_,_,_,_,_,_,_,_,_,_,_=>.bad
 | n+1,x0,x1,x2,x3,x4,x5,x6,x7,x8,x9,x10,bT,eH,jK,nY,k0 =>
  mU x3 x2
  ((fun (j5:T->An) =>
  aY x3 x2
  (qD m (wL jK) (aM x2 x3 0)
  (fun y1=>cond (!y1.bool)
  (aY x3 x2
  (aY x3 x2
  (yZ m (wL bT) (aM x2 x3 0) x4
  (fun y2=>cond (decide ((nY.rows.length+1) * 5<=ay))
  (j5 (T.l (nY.rows++[[(T.i 1),(aM x2 x3 0),x10,(wL y2),(T.b false)]])))
  (.bad)))))
  (j5 (wL nY)))))
  (fun y4=>iF m n (T.i (x0.int.toNat:Int)) (T.i (x1.int.toNat:Int)) x2 (bq x3) x4 x5 x6 x7 x8 x9 x10 bT eH jK (wL y4) k0))
  (k0 (wL nY))
def qb:Nat->T->T->T->T->T->T->T->T->T->T->(T->An)->An
 | 0,_,_,_,_,_,_,_,_,_,_,_=>.bad
 | m+1,x0,x1,x2,x3,x4,x5,x6,x7,x8,x9,k0 =>
  lV m (wL x7) x0
  (fun y0=>iF m m (T.i 0) (T.i 0) (wL y0) (T.i 0) x0 x1 x2 (wL x3) (wL x4) x5 x6 (wL x7) x8 (wL x9) (T.l [])
  (fun y6=>k0 (wL y6)))
def KC:PS CX aC:=fH Pz (FN 189 [.agg [AI,AI,AI,.dz tJ [],.dz tC [],AI],.agg [AI,.dz tO [],AI,.dz tI []]] 10 1 qb [.one (.own (KR 0 0) tW m5 [])]) Tryz.f189 ⟨189,2,48,16⟩ [L1 [0,1,0,1,1,1] ⟨[(2,EP 0),(3,EP 1),(5,.one (LA (KI 2) tW)),(6,.one (LZ tI)),(7,.one (LI))],[((KI 0),.box [LI,LI,LI,LD tJ,LD tC,LI]),((KI 1),.box [LI,LD tO,LI,LD tI]),((KI 2),.row tW m5 []),([4000000],.gone)]⟩ 15 1 iF (.exit 0) ⟨[(5,.one (LA (KI 0) tW))],[((KI 0),.row tW m5 [])]⟩]
def um:Nat->T->T->T->T->T->T->T->(T->T->T->T->T->T->T->T->An)->An
 | 0,_,_,_,_,_,_,_,_=>.bad
 | m+1,x0,x1,x2,x3,x4,x5,x6,k0 =>
  jn (fun (j4:An) =>
  sV m (wL x6)
  (fun y0=>cond ((!y0.bool)==false)
  (cond ((x2.int==999)==false)
  (cond (decide ((x4.rows.length:Int)>=1000))
  (k0 (T.l []) (T.i 0) x0 x1 x2 (wL x3) (wL x4) x5)
  (j4))
  (k0 (T.l []) (T.i 0) x0 x1 x2 (wL x3) (wL x4) x5))
  (k0 (T.l []) (T.i 0) x0 x1 x2 (wL x3) (wL x4) x5)))
  (jc m (wL x6)
  (fun y2=>cond (decide ((x3.rows.length+1) * 4<=ay))
  (qb m x0 x1 (bq x2) (T.l (x3.rows++[[(T.i (IntKind.i64.wrap ((IntKind.i64.wrap (x1.int * 1000))+x2.int))),(wL y2),(T.i 1),(T.l [])]])) (wL x4) x5 (T.i (IntKind.i64.wrap ((IntKind.i64.wrap (x1.int * 1000))+x2.int))) (wL y2) (T.i 1) (T.l [])
  (fun y3=>k0 (wL y3) (T.i (IntKind.i64.wrap ((IntKind.i64.wrap (x1.int * 1000))+x2.int))) x0 x1 (bq x2) (T.l (x3.rows++[[(T.i (IntKind.i64.wrap ((IntKind.i64.wrap (x1.int * 1000))+x2.int))),(wL y2),(T.i 1),(T.l [])]])) (wL x4) x5))
  (.bad)))
def KD:PS CX aC:=fH KC (F1 162 [.bx [AI,AI,AI,.own tJ m4 [],.own tC m2 [],AI],.one (.dz tO [])] 7 8 um ⟨[.one (.own (KR 0 0) tW m5 []),.one (RI)],[[none,none,none,none,none,none],[none]],[some [RI,RI,RI,.own (KR 1000 3) tJ m4 [],.own (KR 1000 4) tC m2 [],RI],none]⟩) Tryz.f162 ⟨162,2,64,49⟩
def rG:Nat->T->T->T->T->T->(T->T->T->T->T->An)->An
 | 0,_,_,_,_,_,_=>.bad
 | m+1,x0,x1,x2,x3,x4,k0 =>
  jc m (wL x3)
  (fun y0=>k0 x0 x1 x2 (wL y0) x4)
def NJ:PS CX aC:=fH KD (FN 160 [.agg [AI,AI,AI,.dz tO [],AB]] 5 5 rG [.agg [RI,RI,RI,.own (KR 0 3) tO m3 [],RB]]) Tryz.f160 ⟨160,1,8,4⟩
def jk (m:Nat):Nat->T->T->T->T->T->T->T->T->T->T->T->T->T->(T->T->T->T->T->T->T->T->T->T->T->An)->(T->T->T->T->T->T->T->T->T->T->T->An)->An
 | 0,_,_,_,_,_,_,_,_,_,_,_,_,_,_,_=>.bad
 | n+1,x0,x1,x2,x3,x4,x5,x6,x7,x8,x9,x10,bT,eH,k0,k1 =>
  mU x2 x1
  ((fun (j12:T->An) =>
  cond (decide ((x10.rows.length:Int)<400))
  (aY x2 x1
  (rG m (aM x1 x2 0) (aM x1 x2 1) (aM x1 x2 2) (wL (aM x1 x2 3)) (aM x1 x2 4)
  (fun y5 y6 y7 y8 y9=>cond (decide ((x10.rows.length+1) * 5<=ay))
  (j12 (T.l (x10.rows++[[y5,y6,y7,(wL y8),y9]])))
  (.bad))))
  (j12 (wL x10)))
  (fun nE=>jk m n (T.i (x0.int.toNat:Int)) x1 (bq x2) x3 x4 x5 x6 (wL x7) (wL x8) (wL x9) (wL nE) (wL bT) (wL eH) k0 k1))
  (k0 (T.i (x0.int.toNat:Int)) x3 x4 x5 x6 (wL x7) (wL x8) (wL x9) (wL x10) (wL bT) (wL eH))
def jl (m:Nat):Nat->T->T->T->T->T->T->T->T->T->T->T->T->T->(T->T->T->T->T->T->T->T->T->T->T->An)->(T->T->T->T->T->T->T->T->T->T->T->An)->An
 | 0,_,_,_,_,_,_,_,_,_,_,_,_,_,_,_=>.bad
 | n+1,x0,x1,x2,x3,x4,x5,x6,x7,x8,x9,x10,bT,eH,k0,k1 =>
  mU x2 x1
  (cond (decide ((x10.rows.length:Int)<400))
  (aY x2 x1
  (rG m (aM x1 x2 0) (aM x1 x2 1) (aM x1 x2 2) (wL (aM x1 x2 3)) (aM x1 x2 4)
  (fun y0 y1 y2 y3 y4=>cond (decide ((x10.rows.length+1) * 5<=ay))
  (jk m n (T.i (x0.int.toNat:Int)) x1 (bq x2) x3 x4 x5 x6 (wL x7) (wL x8) (wL x9) (T.l (x10.rows++[[y0,y1,y2,(wL y3),y4]])) (wL bT) (wL eH) k0 k1)
  (.bad))))
  (jl m n (T.i (x0.int.toNat:Int)) x1 (bq x2) x3 x4 x5 x6 (wL x7) (wL x8) (wL x9) (wL x10) (wL bT) (wL eH) k0 k1))
  (k1 (T.i (x0.int.toNat:Int)) x3 x4 x5 x6 (wL x7) (wL x8) (wL x9) (wL x10) (wL bT) (wL eH))
def za:Pack:=⟨[(0,.ptr [0,999999] 0 0 0)],[([0,999999],.box [LI,LI,LI,LA [0,3] tJ,LA [0,4] tC,LI,LA [0,6] tS,LA (KI 4) tW,LA [0,8] tW,LA [0,9] tB]),([0,3],.row tJ m4 []),([0,4],.row tC m2 []),([0,6],.row tS mS []),((KI 4),.row tW m5 []),([0,8],.row tW m5 []),([0,9],.row tB m2 [])]⟩
def ze:Pack:=⟨[(0,.ptr [0,999999] 0 0 0)],[([0,999999],.box [LI,LI,LI,LA [0,3] tJ,LA [0,4] tC,LI,LA [0,6] tS,LA [0,7] tW,LA [0,8] tW,LA [0,9] tB]),([0,3],.row tJ m4 []),([0,4],.row tC m2 []),([0,6],.row tS mS []),([0,7],.row tW m5 []),([0,8],.row tW m5 []),([0,9],.row tB m2 [])]⟩
def iX:Nat->T->T->T->T->T->T->T->T->T->T->T->(T->T->T->T->T->T->T->T->T->T->An)->An
 | 0,_,_,_,_,_,_,_,_,_,_,_,_=>.bad
 | m+1,x0,x1,x2,x3,x4,x5,x6,x7,x8,x9,x10,k0 =>
  jl m m (T.i 0) (wL x10) (T.i 0) x0 x1 x2 x5 (wL x3) (wL x4) (wL x6) (wL x7) (wL x8) (wL x9)
  (fun y13 oJ su vV uZ sU AU y20 y21 y22 y23=>k0 (wL sU) (wL AU) (wL y20) (wL y22) (wL y23) oJ su vV uZ (wL y21))
  (fun y24 y25 Lu y27 y28 y29 Lv y31 y32 QK y34=>k0 (wL y29) (wL Lv) (wL y31) (wL QK) (wL y34) y25 Lu y27 y28 (wL y32))
def NM:PS CX aC:=fH NJ (F1 114 [.bx [AI,AI,AI,.own tJ m4 [],.own tC m2 [],AI,.own tS mS [],.own tW m5 [],.own tW m5 [],.own tB m2 []],.one (.dz tW [])] 11 10 iX ⟨[],[[none,none,none,some (tJ,m4,[]),some (tC,m2,[]),none,some (tS,mS,[]),none,some (tW,m5,[]),some (tB,m2,[])],[none]],[some [RI,RI,RI,.par 0 3,.par 0 4,RI,.par 0 6,.own (KR 1000 7) tW m5 [],.par 0 8,.par 0 9],none]⟩) Tryz.f114 ⟨114,2,31,1⟩ [L2 [0,1] ⟨[(0,.ptr [0,999999] 0 0 0),(1,.one (LD tW)),(4,.one (LI))],[([0,999999],.box [LI,LI,LI,LA [0,3] tJ,LA [0,4] tC,LI,LA [0,6] tS,LA (KI 5) tW,LA [0,8] tW,LA [0,9] tB]),([4000000],.gone),([0,3],.row tJ m4 []),([0,4],.row tC m2 []),([0,6],.row tS mS []),((KI 5),.row tW m5 []),([0,8],.row tW m5 []),([0,9],.row tB m2 [])]⟩ 13 11 11 jk (.exit 0) za (.exit 0) ze,L2 [0,1] ⟨[(0,.ptr [0,999999] 0 0 0),(1,.one (LD tW)),(4,.one (LI))],[([0,999999],.box [LI,LI,LI,LA [0,3] tJ,LA [0,4] tC,LI,LA [0,6] tS,LA [0,7] tW,LA [0,8] tW,LA [0,9] tB]),([4000000],.gone),([0,3],.row tJ m4 []),([0,4],.row tC m2 []),([0,6],.row tS mS []),([0,7],.row tW m5 []),([0,8],.row tW m5 []),([0,9],.row tB m2 [])]⟩ 13 11 11 jl (.exit 0) za (.exit 0) ze]
def uo:Nat->T->T->T->T->T->T->T->T->T->T->T->(T->T->T->T->T->T->T->T->T->T->T->An)->An
 | 0,_,_,_,_,_,_,_,_,_,_,_,_=>.bad
 | m+1,x0,x1,x2,x3,x4,x5,x6,x7,x8,x9,x10,k0 =>
  cond ((x9.rows.length:Int)==1000)
  (k0 (T.b false) x0 x1 x2 (wL x3) (wL x4) x5 (wL x6) (wL x7) (wL x8) (wL x9))
  (um m x0 x1 x2 (wL x3) (wL x4) x5 (wL x10)
  (fun y0 y1 y2 y3 y4 y5 y6 y7=>cond (y1.int==0)
  (k0 (T.b false) y2 y3 y4 (wL y5) (wL y6) y7 (wL x6) (wL x7) (wL x8) (wL x9))
  (jc m (wL x10)
  (fun y8=>cond (decide ((x9.rows.length+1) * 2<=ay))
  (iX m y2 y3 y4 (wL y5) (wL y6) y7 (wL x6) (wL x7) (wL x8) (T.l (x9.rows++[[y1,(wL y8)]])) (wL y0)
  (fun y9 nK nE nN y13 oJ su vV uZ sU=>k0 (T.b true) oJ su vV (wL y9) (wL nK) uZ (wL nE) (wL sU) (wL nN) (wL y13)))
  (.bad)))))
def KF:PS CX aC:=fH NM (F1 110 [.bx [AI,AI,AI,.own tJ m4 [],.own tC m2 [],AI,.own tS mS [],.own tW m5 [],.own tW m5 [],.own tB m2 []],.one (.dz tO [])] 11 11 uo ⟨[.one (RB)],[[none,none,none,none,none,none,none,none,none,none],[none]],[some [RI,RI,RI,.own (KR 1000 3) tJ m4 [],.own (KR 1000 4) tC m2 [],RI,.own (KR 1000 6) tS mS [],.own (KR 1000 7) tW m5 [],.own (KR 1000 8) tW m5 [],.own (KR 1000 9) tB m2 []],none]⟩) Tryz.f110 ⟨110,2,39,17⟩
def mD (m:Nat):Nat->T->T->T->(T->An)->An->An
 | 0,_,_,_,_,_=>.bad
 | n+1,x0,x1,x2,k0,k1 =>
  mU x2 x0
  (aY x2 x0
  (cond ((qB x0 x2 1).int==x1.int)
  (k0 x2)
  (mD m n x0 x1 (bq x2) k0 k1)))
  (k1 )
def Ap:Nat->T->T->(T->An)->An
 | 0,_,_,_=>.bad
 | m+1,x0,x1,k0 =>
  mD m m (wL x0) x1 (T.i 0)
  (fun y0=>k0 y0)
  (k0 (T.i (-1)))
def Vu:PS CX aC:=fH KF (FN 217 [.one (.dz tR []),.one (AI)] 2 1 Ap [.one (RI)]) Tryz.f217 ⟨217,2,20,16⟩ [L2 [0,1,0,1] ⟨[(0,.one (LD tR)),(1,.one (LI)),(5,.one (LI))],[([4000000],.gone)]⟩ 3 1 0 mD .ret ⟨[(4,.one (LI))],[]⟩ (.exit 0) ⟨[],[]⟩]
def dP (m:Nat):Nat->T->T->T->T->T->T->T->T->T->(T->An)->An
 | 0,_,_,_,_,_,_,_,_,_,_=>.bad
 | n+1,x0,x1,x2,x3,x4,x5,x6,x7,x8,k0 =>
  mU x3 x5
  (jn (fun (j4:T->An) =>
  aY x3 x5
  (cond (((qB x5 x3 1).int==x0.int)==true)
  (aY x3 x5
  (cond ((aM x5 x3 0).int==2)
  (j4 (T.i 3))
  (j4 x2)))
  (j4 x2)))
  (fun y2=>aY x3 x5
  (cond (((qB x5 x3 1).int==x0.int)==true)
  (aY x3 x5
  (cond ((aM x5 x3 0).int==3)
  (dP m n x0 (T.i (x1.int.toNat:Int)) (T.i 4) (bq x3) x4 x5 x6 x7 x8 k0)
  (dP m n x0 (T.i (x1.int.toNat:Int)) y2 (bq x3) x4 x5 x6 x7 x8 k0)))
  (dP m n x0 (T.i (x1.int.toNat:Int)) y2 (bq x3) x4 x5 x6 x7 x8 k0))))
  (k0 x2)
def mE:Nat->T->T->T->T->T->T->(T->An)->An
 | 0,_,_,_,_,_,_,_=>.bad
 | m+1,x0,x1,x2,x3,x4,x5,k0 =>
  Ap m (wL x4) x5
  (fun y0=>cond (decide (y0.int>=0))
  (k0 (T.i 1))
  (dP m m x5 (T.i 0) (T.i 2) (T.i 0) x0 (wL x1) x2 (wL x3) (wL x4)
  (fun y7=>k0 y7)))
def I6:PS CX aC:=fH Vu (FN 205 [.agg [AI,.dz tR [],AI,.dz tP [],.dz tR []],.one (AI)] 6 1 mE [.one (RI)]) Tryz.f205 ⟨205,2,54,16⟩ [L1 [0,1,0,1,1,1] ⟨[(1,.one (LI)),(2,EP 0),(5,.one (LI)),(6,.one (LI))],[((KI 0),.box [LI,LD tR,LI,LD tP,LD tR]),([4000000],.gone)]⟩ 9 1 dP (.exit 0) ⟨[(5,.one (LI))],[]⟩]
def iG (m:Nat):Nat->T->T->T->T->T->(T->An)->(T->T->T->T->An)->An
 | 0,_,_,_,_,_,_,_=>.bad
 | n+1,x0,x1,x2,x3,x4,k0,k1 =>
  mU x4 x1
  (aY x2 x0
  (aY x3 (qB x0 x2 2)
  (aY x4 x1
  (cond ((qB (qB x0 x2 2) x3 1).str.toList==(qB x1 x4 1).str.toList)
  (k0 (T.b true))
  (iG m n x0 x1 x2 x3 (bq x4) k0 k1)))))
  (k1 x0 x1 x2 x3)
def iH (m:Nat):Nat->T->T->T->T->(T->An)->(T->T->T->An)->An
 | 0,_,_,_,_,_,_=>.bad
 | n+1,x0,x1,x2,x3,k0,k1 =>
  aY x2 x0
  (cond (decide (x3.int<((qB x0 x2 2).rows.length:Int)))
  (iG m n x0 x1 x2 x3 (T.i 0)
  (fun y0=>k0 y0)
  (fun y1 y2 y3 y4=>iH m n y1 y2 y3 (bq y4) k0 k1))
  (k1 x0 x1 x2))
def iI (m:Nat):Nat->T->T->T->(T->An)->An->An
 | 0,_,_,_,_,_=>.bad
 | n+1,x0,x1,x2,k0,k1 =>
  mU x2 x0
  (iH m n x0 x1 x2 (T.i 0)
  (fun y5=>k0 y5)
  (fun y6 y7 y8=>iI m n y6 y7 (bq y8) k0 k1))
  (k1 )
def qc:Nat->T->T->(T->An)->An
 | 0,_,_,_=>.bad
 | m+1,x0,x1,k0 =>
  iI m m (wL x0) (wL x1) (T.i 0)
  (fun y9=>k0 y9)
  (k0 (T.b false))
def KG:PS CX aC:=fH I6 (FN 214 [.one (.dz tR []),.one (.dz tO [])] 2 1 qc [.one (RB)]) Tryz.f214 ⟨214,2,45,16⟩ [L2 [0,1,0,0,1,0,0,1,0,0,1,0,0,1,0,1] ⟨[(0,.one (LD tR)),(1,.one (LD tO)),(5,.one (LI)),(6,.one (LI)),(7,.one (LI))],[([4000000],.gone)]⟩ 5 1 4 iG .ret ⟨[(4,.one (LB))],[]⟩ (.exit 4) ⟨[(0,.one (LD tR)),(1,.one (LD tO)),(5,.one (LI)),(6,.one (LI))],[([4000000],.gone)]⟩,L2 [0,1,0,0,1,0,0,1,0,1] ⟨[(0,.one (LD tR)),(1,.one (LD tO)),(5,.one (LI)),(6,.one (LI))],[([4000000],.gone)]⟩ 4 1 3 iH .ret ⟨[(4,.one (LB))],[]⟩ (.exit 2) ⟨[(0,.one (LD tR)),(1,.one (LD tO)),(5,.one (LI))],[([4000000],.gone)]⟩,L2 [0,1,0,1] ⟨[(0,.one (LD tR)),(1,.one (LD tO)),(5,.one (LI))],[([4000000],.gone)]⟩ 3 1 0 iI .ret ⟨[(4,.one (LB))],[]⟩ (.exit 0) ⟨[],[]⟩]
def jX (m:Nat):Nat->T->T->T->(T->T->An)->An->An
 | 0,_,_,_,_,_=>.bad
 | n+1,x0,x1,x2,k0,k1 =>
  mU x2 x0
  (aY x2 x0
  (cond ((aM x0 x2 0).str.toList==x1.str.toList)
  (aY x2 x0
  (k0 (qB x0 x2 1) (T.b true)))
  (jX m n x0 x1 (bq x2) k0 k1)))
  (k1 )
def zf:Nat->T->T->(T->T->An)->An
 | 0,_,_,_=>.bad
 | m+1,x0,x1,k0 =>
  jX m m (wL x0) x1 (T.i 0)
  (fun y0 y1=>k0 y0 y1)
  (k0 (T.s (⟨#[]⟩:ByteArray)) (T.b false))
def PD:PS CX aC:=fH KG (FN 221 [.one (.dz tP []),.one (AS)] 2 2 zf [.one (RS),.one (RB)]) Tryz.f221 ⟨221,2,25,48⟩ [L2 [0,1,0,1] ⟨[(0,.one (LD tP)),(1,.one (LS)),(6,.one (LI))],[([4000000],.gone)]⟩ 3 2 0 jX .ret ⟨[(4,.one (LS)),(5,.one (LB))],[]⟩ (.exit 0) ⟨[],[]⟩]
def jF (m:Nat):Nat->T->T->T->(T->An)->An->An
 | 0,_,_,_,_,_=>.bad
 | n+1,x0,x1,x2,k0,k1 =>
  mU x2 x1
  (aY x2 x1
  (cond ((aM x1 x2 0).int != 3)
  (jF m n x0 x1 (bq x2) k0 k1)
  (aY x2 x1
  (zf m (wL x0) (qB x1 x2 1)
  (fun y0 y1=>aY x2 x1
  (cond ((!(y1.bool==(!((qB x1 x2 2).str.toList==(⟨#[]⟩:ByteArray).toList))))==false)
  (aY x2 x1
  (cond (!(y0.str.toList==(qB x1 x2 2).str.toList))
  (k0 (T.b false))
  (jF m n x0 x1 (bq x2) k0 k1)))
  (k0 (T.b false))))))))
  (k1 )
def xU:Nat->T->T->(T->An)->An
 | 0,_,_,_=>.bad
 | m+1,x0,x1,k0 =>
  jF m m (wL x0) (wL x1) (T.i 0)
  (fun y3=>k0 y3)
  (k0 (T.b true))
def Tk:PS CX aC:=fH PD (FN 215 [.one (.dz tP []),.one (.dz tO [])] 2 1 xU [.one (RB)]) Tryz.f215 ⟨215,2,47,16⟩ [L2 [0,1,0,1] ⟨[(0,.one (LD tP)),(1,.one (LD tO)),(5,.one (LI))],[([4000000],.gone)]⟩ 3 1 0 jF .ret ⟨[(4,.one (LB))],[]⟩ (.exit 0) ⟨[],[]⟩]
def jY (m:Nat):Nat->T->T->T->T->T->T->T->T->(T->An)->An
 | 0,_,_,_,_,_,_,_,_,_=>.bad
 | n+1,x0,x1,x2,x3,x4,x5,x6,x7,k0 =>
  mU x2 x7
  (aY x2 x7
  (jY m n (T.i (x0.int.toNat:Int)) (T.i (IntKind.i64.wrap (x1.int+((qB x7 x2 2).rows.length:Int)))) (bq x2) x3 x4 x5 x6 x7 k0))
  (k0 x1)
def zh:Nat->T->T->T->T->T->T->(T->An)->An
 | 0,_,_,_,_,_,_,_=>.bad
 | m+1,x0,x1,x2,x3,x4,x5,k0 =>
  jY m m (T.i 0) (T.i (IntKind.i64.wrap ((x3.rows.length:Int)+(x5.rows.length:Int)))) (T.i 0) x0 (wL x1) x2 (wL x3) (wL x4)
  (fun y0=>k0 y0)
def PE:PS CX aC:=fH Tk (FN 216 [.agg [AI,.dz tR [],AI,.dz tP [],.dz tR []],.one (.dz tO [])] 6 1 zh [.one (RI)]) Tryz.f216 ⟨216,2,30,16⟩ [L1 [0,1,0,1,1] ⟨[(2,EP 0),(5,.one (LI)),(6,.one (LI))],[((KI 0),.box [LI,LD tR,LI,LD tP,LD tR]),([4000000],.gone)]⟩ 8 1 jY (.exit 0) ⟨[(5,.one (LI))],[]⟩]
def BQ:Nat->T->T->T->(T->An)->An
 | 0,_,_,_,_=>.bad
 | m+1,x0,x1,x2,k0 =>
  fC m x1 (T.i 1) (T.i 1000000)
  (fun y0=>cond (!y0.bool)
  (k0 (T.b false))
  (cond (x0.int==1)
  (sV m (wL x2)
  (fun y1=>k0 y1))
  (cond (x0.int==2)
  (k0 (T.b ((x2.rows.length:Int)==0)))
  (cond (x0.int==3)
  (k0 (T.b ((x2.rows.length:Int)==0)))
  (k0 (T.b false))))))
def Tm:PS CX aC:=fH PE (FN 218 [.agg [AI,AI,.dz tO []]] 3 1 BQ [.one (RB)]) Tryz.f218 ⟨218,1,21,4⟩
def je:Nat->T->T->T->(T->T->T->An)->An
 | 0,_,_,_,_=>.bad
 | m+1,x0,x1,x2,k0 =>
  jc m (wL x2)
  (fun y0=>k0 x0 x1 (wL y0))
def I7:PS CX aC:=fH Tm (FN 187 [.agg [AI,AI,.dz tO []]] 3 3 je [.agg [RI,RI,.own (KR 0 2) tO m3 []]]) Tryz.f187 ⟨187,1,8,4⟩
def jZ (m:Nat):Nat->T->T->T->T->(T->T->T->T->An)->An
 | 0,_,_,_,_,_=>.bad
 | n+1,x0,x1,x2,x3,k0 =>
  cond ((decide (x3.int<(x0.rows.length:Int)))==true)
  (aY x3 x0
  (cond ((Op.bytesLess (aM x0 x3 0).str.toList x1.str.toList)||((aM x0 x3 0).str.toList==x1.str.toList))
  (jZ m n x0 x1 x2 (bq x3) k0)
  (k0 x0 x1 x2 x3)))
  (k0 x0 x1 x2 x3)
def kg (m:Nat):Nat->T->T->T->T->T->(T->An)->(T->T->T->An)->An
 | 0,_,_,_,_,_,_,_=>.bad
 | n+1,x0,x1,x2,x3,x4,k0,k1 =>
  mU x3 x4
  (aY x3 x4
  (cond (decide ((Int.toNat x3.int)<x4.rows.length))
  (cond ((aM x4 x3 0).str.toList==x1.str.toList)
  (aY x3 x4
  (cond (decide ((Int.toNat x3.int)<x4.rows.length))
  (k0 (T.l (x4.rows.set (Int.toNat x3.int) ((x4.rows.getD (Int.toNat x3.int) []).set 1 x2))))
  (.bad)))
  (kg m n x0 x1 x2 (bq x3) (wL x4) k0 k1))
  (.bad)))
  (k1 x0 x1 x2)
def zi:Nat->T->T->T->(T->An)->An
 | 0,_,_,_,_=>.bad
 | m+1,x0,x1,x2,k0 =>
  cond (decide ((0+x0.rows.length) * 2<=ay))
  (kg m m (wL x0) x1 x2 (T.i 0) (wL x0)
  (fun y0=>k0 (wL y0))
  (fun y1 y2 y3=>jZ m m y1 y2 y3 (T.i 0)
  (fun y5 y6 y7 y8=>cond (decide ((0:Int)<=y8.int/\y8.int<=(y5.rows.length:Int)))
  (cond (decide ((0:Int)<=0/\0<=y8.int))
  (cond (decide ((0+(y5.rows.take (Int.toNat y8.int)).length) * 2<=ay))
  (cond (decide (((y5.rows.take (Int.toNat y8.int)).length+1) * 2<=ay))
  (cond (decide ((0:Int)<=(y5.rows.length:Int)/\(y5.rows.length:Int)<=(y5.rows.length:Int)))
  (cond (decide ((0:Int)<=y8.int/\y8.int<=(y5.rows.length:Int)))
  (cond (decide ((((y5.rows.take (Int.toNat y8.int))++[[y6,y7]]).length+((y5.rows.take (Int.toNat (y5.rows.length:Int))).drop (Int.toNat y8.int)).length) * 2<=ay))
  (k0 (T.l (((y5.rows.take (Int.toNat y8.int))++[[y6,y7]])++((y5.rows.take (Int.toNat (y5.rows.length:Int))).drop (Int.toNat y8.int)))))
  (.bad))
  (.bad))
  (.bad))
  (.bad))
  (.bad))
  (.bad))
  (.bad))))
  (.bad)
def PG:PS CX aC:=fH I7 (FN 67 [.one (.dz tP []),.one (AS),.one (AS)] 3 1 zi [.one (.own (KR 0 0) tP m2 [])]) Tryz.f67 ⟨67,3,62,64⟩ [L1 [0,0,1,1,1,1] ⟨[(0,.one (LD tP)),(1,.one (LS)),(2,.one (LS)),(9,.one (LI))],[([4000000],.gone)]⟩ 4 4 jZ (.exit 2) ⟨[(0,.one (LD tP)),(1,.one (LS)),(2,.one (LS)),(9,.one (LI))],[([4000000],.gone)]⟩,L2 [0,1,0,1,1] ⟨[(0,.one (LD tP)),(1,.one (LS)),(2,.one (LS)),(7,.one (LA (KI 1) tP)),(8,.one (LI))],[([4000000],.gone),((KI 1),.row tP m2 [])]⟩ 5 1 3 kg .ret ⟨[(6,.one (LA (KI 0) tP))],[((KI 0),.row tP m2 [])]⟩ (.exit 0) ⟨[(0,.one (LD tP)),(1,.one (LS)),(2,.one (LS))],[([4000000],.gone)]⟩]
def iJ (m:Nat):Nat->T->T->T->T->(T->An)->An
 | 0,_,_,_,_,_=>.bad
 | n+1,x0,x1,x2,x3,k0 =>
  mU x2 x0
  (aY x2 x0
  (cond (!((aM x0 x2 0).str.toList==x1.str.toList))
  (aY x2 x0
  (cond (decide ((x3.rows.length+1) * 2<=ay))
  (iJ m n x0 x1 (bq x2) (T.l (x3.rows++[[(aM x0 x2 0),(aM x0 x2 1)]])) k0)
  (.bad)))
  (iJ m n x0 x1 (bq x2) (wL x3) k0)))
  (k0 (wL x3))
def zk:Nat->T->T->(T->An)->An
 | 0,_,_,_=>.bad
 | m+1,x0,x1,k0 =>
  iJ m m (wL x0) x1 (T.i 0) (T.l [])
  (fun y2=>k0 (wL y2))
def PI:PS CX aC:=fH PG (FN 103 [.one (.dz tP []),.one (AS)] 2 1 zk [.one (.own (KR 0 0) tP m2 [])]) Tryz.f103 ⟨103,2,29,16⟩ [L1 [0,1,0,1,1] ⟨[(0,.one (LD tP)),(1,.one (LS)),(5,.one (LA (KI 1) tP)),(6,.one (LI))],[([4000000],.gone),((KI 1),.row tP m2 [])]⟩ 4 1 iJ (.exit 0) ⟨[(5,.one (LA (KI 0) tP))],[((KI 0),.row tP m2 [])]⟩]
def gX (m:Nat):Nat->T->T->T->(T->An)->An
 | 0,_,_,_,_=>.bad
 | n+1,x0,x1,x2,k0 =>
  mU x1 x0
  (aY x1 x0
  (cond ((aM x0 x1 0).int==1)
  (aY x1 x0
  (aY x1 x0
  (zi m (wL x2) (qB x0 x1 1) (qB x0 x1 2)
  (fun y0=>gX m n x0 (bq x1) (wL y0) k0))))
  (cond ((aM x0 x1 0).int==2)
  (aY x1 x0
  (zk m (wL x2) (qB x0 x1 1)
  (fun y1=>gX m n x0 (bq x1) (wL y1) k0)))
  (gX m n x0 (bq x1) (wL x2) k0))))
  (k0 (wL x2))
def xV:Nat->T->T->(T->An)->An
 | 0,_,_,_=>.bad
 | m+1,x0,x1,k0 =>
  cond (decide ((0+x0.rows.length) * 2<=ay))
  (gX m m (wL x1) (T.i 0) (wL x0)
  (fun y5=>k0 (wL y5)))
  (.bad)
def Tn:PS CX aC:=fH PI (FN 60 [.one (.dz tP []),.one (.dz tO [])] 2 1 xV [.one (.own (KR 0 0) tP m2 [])]) Tryz.f60 ⟨60,2,45,16⟩ [L1 [0,1,0,1,1] ⟨[(1,.one (LD tO)),(5,.one (LA (KI 1) tP)),(6,.one (LI))],[([4000000],.gone),((KI 1),.row tP m2 [])]⟩ 3 1 gX (.exit 0) ⟨[(5,.one (LA (KI 0) tP))],[((KI 0),.row tP m2 [])]⟩]
def xW:Nat->T->T->T->T->T->T->(T->T->T->T->An)->(T->T->T->T->T->An)->An
 | 0,_,_,_,_,_,_,_,_=>.bad
 | m+1,x0,x1,x2,x3,x4,x5,k0,k1 =>
  Ap m (wL x1) x4
  (fun y0=>BQ m x3 x4 (wL x5)
  (fun y1=>cond (!y1.bool)
  (k0 (T.b false) (wL x0) (wL x1) (wL x2))
  (cond (x3.int==1)
  (jn (fun (j9:An) =>
  qD m (wL x2) x4
  (fun y2=>cond (y2.bool==false)
  (qc m (wL x1) (wL x5)
  (fun y3=>cond (y3.bool==false)
  (xU m (wL x0) (wL x5)
  (fun y4=>cond (!y4.bool)
  (k0 (T.b false) (wL x0) (wL x1) (wL x2))
  (j9)))
  (k0 (T.b false) (wL x0) (wL x1) (wL x2))))
  (k0 (T.b false) (wL x0) (wL x1) (wL x2))))
  (je m x3 x4 (wL x5)
  (fun y6 y7 y8=>cond (decide ((x1.rows.length+1) * 3<=ay))
  (cond (decide ((x2.rows.length+1) * 1<=ay))
  (k0 (T.b true) (wL x0) (T.l (x1.rows++[[y6,y7,(wL y8)]])) (T.l (x2.rows++[[x4]])))
  (.bad))
  (.bad))))
  (cond (decide (y0.int<0))
  (cond ((x3.int==3)==true)
  (qD m (wL x2) x4
  (fun nK=>cond (decide ((x2.rows.length+1) * 1<=ay))
  (k0 (T.b (!nK.bool)) (wL x0) (wL x1) (T.l (x2.rows++[[x4]])))
  (.bad)))
  (cond (decide ((x2.rows.length+1) * 1<=ay))
  (k0 (T.b false) (wL x0) (wL x1) (T.l (x2.rows++[[x4]])))
  (.bad)))
  (cond (x3.int==2)
  (aY y0 x1
  (cond (decide ((Int.toNat y0.int)<x1.rows.length))
  (xV m (wL x0) (wL (aM x1 y0 2))
  (fun nN=>cond (decide ((0:Int)<=y0.int/\y0.int<=(x1.rows.length:Int)))
  (cond (decide ((0:Int)<=0/\0<=y0.int))
  (cond (decide ((0+(x1.rows.take (Int.toNat y0.int)).length) * 3<=ay))
  (cond (decide ((0:Int)<=(x1.rows.length:Int)/\(x1.rows.length:Int)<=(x1.rows.length:Int)))
  (cond (decide ((0:Int)<=(IntKind.i64.wrap (y0.int+1))/\(IntKind.i64.wrap (y0.int+1))<=(x1.rows.length:Int)))
  (cond (decide (((x1.rows.take (Int.toNat y0.int)).length+((x1.rows.take (Int.toNat (x1.rows.length:Int))).drop (Int.toNat (IntKind.i64.wrap (y0.int+1)))).length) * 3<=ay))
  (k1 (T.b (decide ((nN.rows.length:Int)<=60))) (wL x0) (wL nN) (T.l ((x1.rows.take (Int.toNat y0.int))++((x1.rows.take (Int.toNat (x1.rows.length:Int))).drop (Int.toNat (IntKind.i64.wrap (y0.int+1)))))) (wL x2))
  (.bad))
  (.bad))
  (.bad))
  (.bad))
  (.bad))
  (.bad)))
  (.bad)))
  (cond (decide ((0:Int)<=y0.int/\y0.int<=(x1.rows.length:Int)))
  (cond (decide ((0:Int)<=0/\0<=y0.int))
  (cond (decide ((0+(x1.rows.take (Int.toNat y0.int)).length) * 3<=ay))
  (cond (decide ((0:Int)<=(x1.rows.length:Int)/\(x1.rows.length:Int)<=(x1.rows.length:Int)))
  (cond (decide ((0:Int)<=(IntKind.i64.wrap (y0.int+1))/\(IntKind.i64.wrap (y0.int+1))<=(x1.rows.length:Int)))
  (cond (decide (((x1.rows.take (Int.toNat y0.int)).length+((x1.rows.take (Int.toNat (x1.rows.length:Int))).drop (Int.toNat (IntKind.i64.wrap (y0.int+1)))).length) * 3<=ay))
  (k0 (T.b (decide ((x0.rows.length:Int)<=60))) (wL x0) (T.l ((x1.rows.take (Int.toNat y0.int))++((x1.rows.take (Int.toNat (x1.rows.length:Int))).drop (Int.toNat (IntKind.i64.wrap (y0.int+1)))))) (wL x2))
  (.bad))
  (.bad))
  (.bad))
  (.bad))
  (.bad))
  (.bad)))))))
def Tp:PS CX aC:=fH Tn (F2 210 [.bx [.own tP m2 [],.own tR m3 [],.own tI [.F] []],.agg [AI,AI,.dz tO []]] 6 4 5 xW ⟨[.one (RB)],[[none,none,none],[none,none,none]],[some [.own (KR 1000 0) tP m2 [],.own (KR 1000 1) tR m3 [],.own (KR 1000 2) tI [.F] []],none]⟩ ⟨[.one (RB)],[[some (tP,m2,[]),none,none],[none,none,none]],[some [.own (KR 1000 0) tP m2 [],.own (KR 1000 1) tR m3 [],.own (KR 1000 2) tI [.F] []],none]⟩) Tryz.f210 ⟨210,2,139,17⟩
def jR:Nat->T->T->T->T->T->T->T->T->(T->T->T->T->T->An)->(T->T->T->T->T->T->An)->An
 | 0,_,_,_,_,_,_,_,_,_,_=>.bad
 | m+1,x0,x1,x2,x3,x4,x5,x6,x7,k0,k1 =>
  xW m (wL x3) (wL x4) (T.l []) x5 x6 (wL x7)
  (fun y0 y1 y2 y3=>je m x5 x6 (wL x7)
  (fun y9 nK nE=>cond (decide ((x1.rows.length+1) * 3<=ay))
  (k0 x0 (T.l (x1.rows++[[y9,nK,(wL nE)]])) x2 (wL y1) (wL y2))
  (.bad)))
  (fun y4 y5 y6 y7 y8=>je m x5 x6 (wL x7)
  (fun nN y13 oJ=>cond (decide ((x1.rows.length+1) * 3<=ay))
  (k1 (wL y5) x0 (T.l (x1.rows++[[nN,y13,(wL oJ)]])) x2 (wL y6) (wL y7))
  (.bad)))
def NN:PS CX aC:=fH Tp (F2 206 [.bx [AI,.own tR m3 [],AI,.own tP m2 [],.own tR m3 []],.agg [AI,AI,.dz tO []]] 8 5 6 jR ⟨[],[[none,none,none,none,none],[none,none,none]],[some [RI,.own (KR 1000 1) tR m3 [],RI,.own (KR 1000 3) tP m2 [],.own (KR 1000 4) tR m3 []],none]⟩ ⟨[],[[none,none,none,some (tP,m2,[]),none],[none,none,none]],[some [RI,.own (KR 1000 1) tR m3 [],RI,.own (KR 1000 3) tP m2 [],.own (KR 1000 4) tR m3 []],none]⟩) Tryz.f206 ⟨206,2,43,1⟩
def zl:Nat->T->T->T->T->T->T->T->(T->T->T->T->T->T->An)->(T->T->T->T->T->T->T->An)->An
 | 0,_,_,_,_,_,_,_,_,_=>.bad
 | m+1,x0,x1,x2,x3,x4,x5,x6,k0,k1 =>
  jn (fun (j26:An) =>
  fC m x5 (T.i 1) (T.i 1000000)
  (fun y0=>cond ((!y0.bool)==false)
  (sV m (wL x6)
  (fun y1=>cond (!y1.bool)
  (k0 (T.i 5) x0 (wL x1) x2 (wL x3) (wL x4))
  (j26)))
  (k0 (T.i 5) x0 (wL x1) x2 (wL x3) (wL x4))))
  (mE m x0 (wL x1) x2 (wL x3) (wL x4) x5
  (fun y3=>cond (y3.int != 2)
  (k0 y3 x0 (wL x1) x2 (wL x3) (wL x4))
  (jn (fun (j25:An) =>
  qc m (wL x4) (wL x6)
  (fun y4=>cond (y4.bool==false)
  (xU m (wL x3) (wL x6)
  (fun y5=>cond ((!y5.bool)==false)
  (zh m x0 (wL x1) x2 (wL x3) (wL x4) (wL x6)
  (fun y6=>cond ((decide (y6.int > 60))==false)
  (cond (decide ((IntKind.i64.wrap ((IntKind.i64.wrap ((x1.rows.length:Int)+(x4.rows.length:Int)))+2)) > 300))
  (k0 (T.i 2) x0 (wL x1) x2 (wL x3) (wL x4))
  (j25))
  (k0 (T.i 2) x0 (wL x1) x2 (wL x3) (wL x4))))
  (k0 (T.i 2) x0 (wL x1) x2 (wL x3) (wL x4))))
  (k0 (T.i 2) x0 (wL x1) x2 (wL x3) (wL x4))))
  (jc m (wL x6)
  (fun y8=>jR m x0 (wL x1) x2 (wL x3) (wL x4) (T.i 1) x5 (wL y8)
  (fun y9 nK nE nN y13=>k0 (T.i 1) y9 (wL nK) nE (wL nN) (wL y13))
  (fun oJ su vV uZ sU AU=>k1 (T.i 1) (wL oJ) su (wL vV) uZ (wL sU) (wL AU)))))))
def PK:PS CX aC:=fH NN (F2 204 [.bx [AI,.own tR m3 [],AI,.own tP m2 [],.own tR m3 []],.one (AI),.one (.dz tO [])] 7 6 7 zl ⟨[.one (RI)],[[none,none,none,none,none],[none],[none]],[some [RI,.own (KR 1000 1) tR m3 [],RI,.own (KR 1000 3) tP m2 [],.own (KR 1000 4) tR m3 []],none,none]⟩ ⟨[.one (RI)],[[none,none,none,some (tP,m2,[]),none],[none],[none]],[some [RI,.own (KR 1000 1) tR m3 [],RI,.own (KR 1000 3) tP m2 [],.own (KR 1000 4) tR m3 []],none,none]⟩) Tryz.f204 ⟨204,3,68,65⟩
def wF:Nat->T->T->T->T->T->T->T->T->T->T->T->T->T->T->T->(T->T->T->T->T->T->T->T->T->T->An)->An
 | 0,_,_,_,_,_,_,_,_,_,_,_,_,_,_,_,_=>.bad
 | m+1,x0,x1,x2,x3,x4,x5,x6,x7,x8,x9,x10,bT,eH,jK,nY,k0 =>
  jn (fun (j17:T->T->An) =>
  aY bT x6
  (cond (decide ((Int.toNat bT.int)<x6.rows.length))
  (zl m ((x6.rows.getD (Int.toNat bT.int) []).headD dflt) (T.l ((x6.rows.getD (Int.toNat bT.int) []).tail.headD dflt).rows) ((x6.rows.getD (Int.toNat bT.int) []).tail.tail.headD dflt) (T.l ((x6.rows.getD (Int.toNat bT.int) []).tail.tail.tail.headD dflt).rows) (T.l ((x6.rows.getD (Int.toNat bT.int) []).tail.tail.tail.tail.headD dflt).rows) eH (wL jK)
  (fun y0 y1 y2 y3 y4 y5=>j17 y0 (T.l (x6.rows.set (Int.toNat bT.int) [y1,(wL y2),y3,(wL y4),(wL y5)])))
  (fun y6 y7 y8 y9 nK nE nN=>j17 y6 (T.l (x6.rows.set (Int.toNat bT.int) [y8,(wL y9),nK,(wL nE),(wL nN)]))))
  (.bad)))
  (fun y13 oJ=>jn (fun (j16:T->An) =>
  cond ((y13.int != 5)==true)
  (j16 (T.b (decide ((x8.rows.length:Int)<400))))
  (j16 (T.b false)))
  (fun su=>cond su.bool
  (cond ((y13.int==1)==false)
  (cond (decide ((x8.rows.length+1) * 5<=ay))
  (k0 x0 x1 x2 (wL x3) (wL x4) x5 (wL oJ) (wL x7) (T.l (x8.rows++[[(T.i 2),bT,eH,(T.l []),(T.b (y13.int==3))]])) (wL x9))
  (.bad))
  (cond (decide ((x8.rows.length+1) * 5<=ay))
  (k0 x0 x1 x2 (wL x3) (wL x4) x5 (wL oJ) (wL x7) (T.l (x8.rows++[[(T.i 2),bT,eH,(T.l []),(T.b true)]])) (wL x9))
  (.bad)))
  (k0 x0 x1 x2 (wL x3) (wL x4) x5 (wL oJ) (wL x7) (wL x8) (wL x9))))
def NP:PS CX aC:=fH PK (F1 190 [.bx [AI,AI,AI,.own tJ m4 [],.own tC m2 [],AI,.own tS mS [],.own tW m5 [],.own tW m5 [],.own tB m2 []],.agg [AI,AI,AI,.dz tO [],AB]] 15 10 wF ⟨[],[[none,none,none,none,none,none,none,none,none,none],[none,none,none,none,none]],[some [RI,RI,RI,.own (KR 1000 3) tJ m4 [],.own (KR 1000 4) tC m2 [],RI,.own (KR 1000 6) tS mS [],.own (KR 1000 7) tW m5 [],.own (KR 1000 8) tW m5 [],.own (KR 1000 9) tB m2 []],none]⟩) Tryz.f190 ⟨190,2,47,1⟩
def uq:Nat->T->T->T->T->T->T->T->(T->T->T->T->T->T->An)->(T->T->T->T->T->T->T->An)->An
 | 0,_,_,_,_,_,_,_,_,_=>.bad
 | m+1,x0,x1,x2,x3,x4,x5,x6,k0,k1 =>
  fC m x5 (T.i 1) (T.i 1000000)
  (fun y0=>cond (!y0.bool)
  (k0 (T.b false) x0 (wL x1) x2 (wL x3) (wL x4))
  (jn (fun (j37:T->An) =>
  cond x6.bool
  (j37 (T.i 2))
  (j37 (T.i 3)))
  (fun y1=>mE m x0 (wL x1) x2 (wL x3) (wL x4) x5
  (fun y2=>cond (y2.int==1)
  (jR m x0 (wL x1) x2 (wL x3) (wL x4) y1 x5 (T.l [])
  (fun y3 y4 y5 y6 y7=>k0 (T.b true) y3 (wL y4) y5 (wL y6) (wL y7))
  (fun y8 y9 nK nE nN y13=>k1 (T.b true) (wL y8) y9 (wL nK) nE (wL nN) (wL y13)))
  (cond (y2.int==3)
  (k0 x6 x0 (wL x1) x2 (wL x3) (wL x4))
  (cond (y2.int==4)
  (k0 (T.b (!x6.bool)) x0 (wL x1) x2 (wL x3) (wL x4))
  (jn (fun (j36:An) =>
  cond (x6.bool==false)
  (cond (decide ((IntKind.i64.wrap ((x1.rows.length:Int)+(x4.rows.length:Int)))>=300))
  (k0 (T.b false) x0 (wL x1) x2 (wL x3) (wL x4))
  (j36))
  (k0 (T.b false) x0 (wL x1) x2 (wL x3) (wL x4)))
  (jR m x0 (wL x1) x2 (wL x3) (wL x4) y1 x5 (T.l [])
  (fun y20 y21 y22 y23 y24=>k0 (T.b true) y20 (wL y21) y22 (wL y23) (wL y24))
  (fun y25 Lu y27 y28 y29 Lv=>k1 (T.b true) (wL y25) Lu (wL y27) y28 (wL y29) (wL Lv))))))))))
def KH:PS CX aC:=fH NP (F2 191 [.bx [AI,.own tR m3 [],AI,.own tP m2 [],.own tR m3 []],.one (AI),.one (AB)] 7 6 7 uq ⟨[.one (RB)],[[none,none,none,none,none],[none],[none]],[some [RI,.own (KR 1000 1) tR m3 [],RI,.own (KR 1000 3) tP m2 [],.own (KR 1000 4) tR m3 []],none,none]⟩ ⟨[.one (RB)],[[none,none,none,some (tP,m2,[]),none],[none],[none]],[some [RI,.own (KR 1000 1) tR m3 [],RI,.own (KR 1000 3) tP m2 [],.own (KR 1000 4) tR m3 []],none,none]⟩) Tryz.f191 ⟨191,3,50,65⟩
def iK (m:Nat):Nat->T->T->T->T->T->T->T->T->T->(T->An)->An->An
 | 0,_,_,_,_,_,_,_,_,_,_,_=>.bad
 | n+1,x0,x1,x2,x3,x4,x5,x6,x7,x8,k0,k1 =>
  mU x2 x6
  (aY x2 x6
  (cond ((aM x6 x2 0).int==x0.int)
  (k0 x2)
  (iK m n x0 (T.i (x1.int.toNat:Int)) (bq x2) x3 x4 x5 x6 x7 x8 k0 k1)))
  (k1 )
def uw:Nat->T->T->T->T->T->T->T->(T->An)->An
 | 0,_,_,_,_,_,_,_,_=>.bad
 | m+1,x0,x1,x2,x3,x4,x5,x6,k0 =>
  iK m m x6 (T.i 0) (T.i 0) x0 x1 x2 (wL x3) (wL x4) x5
  (fun y0=>k0 y0)
  (k0 (T.i (-1)))
def KJ:PS CX aC:=fH KH (FN 207 [.agg [AI,AI,AI,.dz tJ [],.dz tC [],AI],.one (AI)] 7 1 uw [.one (RI)]) Tryz.f207 ⟨207,2,22,16⟩ [L2 [0,1,0,1] ⟨[(1,.one (LI)),(2,EP 0),(5,.one (LI))],[((KI 0),.box [LI,LI,LI,LD tJ,LD tC,LI]),([4000000],.gone)]⟩ 9 1 0 iK .ret ⟨[(4,.one (LI))],[]⟩ (.exit 0) ⟨[],[]⟩]
def wG:Nat->T->T->T->T->T->T->T->T->T->(T->T->T->T->T->T->An)->An
 | 0,_,_,_,_,_,_,_,_,_,_=>.bad
 | m+1,x0,x1,x2,x3,x4,x5,x6,x7,x8,k0 =>
  uw m x0 x1 x2 (wL x3) (wL x4) x5 x7
  (fun y0=>jn (fun (j5:An) =>
  cond ((decide (y0.int<0))==false)
  (aY y0 x3
  (cond (decide ((Int.toNat y0.int)<x3.rows.length))
  (cond (((aM x3 y0 2).int != 1)==false)
  (cond (decide ((x4.rows.length:Int)>=1000))
  (k0 x0 x1 x2 (wL x3) (wL x4) x5)
  (j5))
  (k0 x0 x1 x2 (wL x3) (wL x4) x5))
  (.bad)))
  (k0 x0 x1 x2 (wL x3) (wL x4) x5))
  (aY y0 x3
  (cond (decide ((Int.toNat y0.int)<x3.rows.length))
  (lV m (wL (aM x3 y0 1)) x0
  (fun y2=>qD m (wL y2) x6
  (fun y3=>cond (!y3.bool)
  (k0 x0 x1 x2 (wL x3) (wL x4) x5)
  (cond (!x8.bool)
  (cond (decide ((Int.toNat y0.int)<x3.rows.length))
  (cond (decide ((x4.rows.length+1) * 2<=ay))
  (k0 x0 x1 x2 (T.l (x3.rows.set (Int.toNat y0.int) ((x3.rows.getD (Int.toNat y0.int) []).set 2 (T.i 3)))) (T.l (x4.rows++[[x7,(T.b false)]])) x5)
  (.bad))
  (.bad))
  (cond (decide ((Int.toNat y0.int)<x3.rows.length))
  (qE m (wL (aM x3 y0 3)) x6
  (fun y4=>cond (decide ((Int.toNat y0.int)<x3.rows.length))
  (cond (decide ((Int.toNat y0.int)<(x3.rows.set (Int.toNat y0.int) ((x3.rows.getD (Int.toNat y0.int) []).set 3 (wL y4))).length))
  (cond (((((x3.rows.set (Int.toNat y0.int) ((x3.rows.getD (Int.toNat y0.int) []).set 3 (wL y4))).getD (Int.toNat y0.int) []).getD 3 dflt).rows.length:Int)==(y2.rows.length:Int))
  (cond (decide ((Int.toNat y0.int)<(x3.rows.set (Int.toNat y0.int) ((x3.rows.getD (Int.toNat y0.int) []).set 3 (wL y4))).length))
  (cond (decide ((x4.rows.length+1) * 2<=ay))
  (k0 x0 x1 x2 (T.l ((x3.rows.set (Int.toNat y0.int) ((x3.rows.getD (Int.toNat y0.int) []).set 3 (wL y4))).set (Int.toNat y0.int) (((x3.rows.set (Int.toNat y0.int) ((x3.rows.getD (Int.toNat y0.int) []).set 3 (wL y4))).getD (Int.toNat y0.int) []).set 2 (T.i 2)))) (T.l (x4.rows++[[x7,(T.b true)]])) x5)
  (.bad))
  (.bad))
  (k0 x0 x1 x2 (T.l (x3.rows.set (Int.toNat y0.int) ((x3.rows.getD (Int.toNat y0.int) []).set 3 (wL y4)))) (wL x4) x5))
  (.bad))
  (.bad)))
  (.bad))))))
  (.bad))))
def NQ:PS CX aC:=fH KJ (F1 192 [.bx [AI,AI,AI,.own tJ m4 [],.own tC m2 [],AI],.one (AI),.one (AI),.one (AB)] 9 6 wG ⟨[],[[none,none,none,none,none,none],[none],[none],[none]],[some [RI,RI,RI,.own (KR 1000 3) tJ m4 [],.own (KR 1000 4) tC m2 [],RI],none,none,none]⟩) Tryz.f192 ⟨192,4,103,1⟩
def gI (m:Nat):Nat->T->T->T->T->T->T->T->T->T->(T->An)->An->An
 | 0,_,_,_,_,_,_,_,_,_,_,_=>.bad
 | n+1,x0,x1,x2,x3,x4,x5,x6,x7,x8,k0,k1 =>
  mU x2 x7
  (aY x2 x7
  (cond ((aM x7 x2 0).int==x0.int)
  (k0 x2)
  (gI m n x0 (T.i (x1.int.toNat:Int)) (bq x2) x3 x4 x5 x6 x7 x8 k0 k1)))
  (k1 )
def oK:Nat->T->T->T->T->T->T->T->(T->An)->An
 | 0,_,_,_,_,_,_,_,_=>.bad
 | m+1,x0,x1,x2,x3,x4,x5,x6,k0 =>
  gI m m x6 (T.i 0) (T.i 0) x0 x1 x2 (wL x3) (wL x4) x5
  (fun y0=>k0 y0)
  (k0 (T.i (-1)))
def I8:PS CX aC:=fH NQ (FN 209 [.agg [AI,AI,AI,.dz tJ [],.dz tC [],AI],.one (AI)] 7 1 oK [.one (RI)]) Tryz.f209 ⟨209,2,22,16⟩ [L2 [0,1,0,1] ⟨[(1,.one (LI)),(2,EP 0),(5,.one (LI))],[((KI 0),.box [LI,LI,LI,LD tJ,LD tC,LI]),([4000000],.gone)]⟩ 9 1 0 gI .ret ⟨[(4,.one (LI))],[]⟩ (.exit 0) ⟨[],[]⟩]
def oL:Nat->T->T->T->T->T->T->T->(T->T->An)->An
 | 0,_,_,_,_,_,_,_,_=>.bad
 | m+1,x0,x1,x2,x3,x4,x5,x6,k0 =>
  oK m x0 x1 x2 (wL x3) (wL x4) x5 x6
  (fun y0=>cond (decide (x6.int<1000))
  (k0 (T.b false) (T.b false))
  (cond (decide (y0.int>=0))
  (aY y0 x4
  (cond ((qB x4 y0 1).bool==true)
  (k0 (T.b (decide (y0.int<x5.int))) (T.b (decide (y0.int<x5.int))))
  (k0 (T.b false) (T.b (decide (y0.int<x5.int))))))
  (k0 (T.b false) (T.b (decide (x6.int<(IntKind.i64.wrap (x1.int * 1000))))))))
def I9:PS CX aC:=fH I8 (FN 193 [.agg [AI,AI,AI,.dz tJ [],.dz tC [],AI],.one (AI)] 7 2 oL [.one (RB),.one (RB)]) Tryz.f193 ⟨193,2,37,48⟩
def wH:Nat->T->T->T->T->T->T->T->T->T->T->T->T->T->T->T->(T->T->T->T->T->T->T->T->T->T->An)->An
 | 0,_,_,_,_,_,_,_,_,_,_,_,_,_,_,_,_=>.bad
 | m+1,x0,x1,x2,x3,x4,x5,x6,x7,x8,x9,x10,bT,eH,jK,nY,k0 =>
  cond (x10.int==1)
  (wF m x0 x1 x2 (wL x3) (wL x4) x5 (wL x6) (wL x7) (wL x8) (wL x9) x10 bT eH (wL jK) nY
  (fun y0 y1 y2 y3 y4 y5 y6 y7 y8 y9=>k0 y0 y1 y2 (wL y3) (wL y4) y5 (wL y6) (wL y7) (wL y8) (wL y9)))
  (cond (x10.int==3)
  (aY bT x6
  (cond (decide ((Int.toNat bT.int)<x6.rows.length))
  (uq m ((x6.rows.getD (Int.toNat bT.int) []).headD dflt) (T.l ((x6.rows.getD (Int.toNat bT.int) []).tail.headD dflt).rows) ((x6.rows.getD (Int.toNat bT.int) []).tail.tail.headD dflt) (T.l ((x6.rows.getD (Int.toNat bT.int) []).tail.tail.tail.headD dflt).rows) (T.l ((x6.rows.getD (Int.toNat bT.int) []).tail.tail.tail.tail.headD dflt).rows) eH nY
  (fun nK nE nN y13 oJ su=>k0 x0 x1 x2 (wL x3) (wL x4) x5 (T.l (x6.rows.set (Int.toNat bT.int) [nE,(wL nN),y13,(wL oJ),(wL su)])) (wL x7) (wL x8) (wL x9))
  (fun vV uZ sU AU y20 y21 y22=>k0 x0 x1 x2 (wL x3) (wL x4) x5 (T.l (x6.rows.set (Int.toNat bT.int) [sU,(wL AU),y20,(wL y21),(wL y22)])) (wL x7) (wL x8) (wL x9)))
  (.bad)))
  (cond (x10.int==2)
  (wG m x0 x1 x2 (wL x3) (wL x4) x5 bT eH nY
  (fun y23 y24 y25 Lu y27 y28=>k0 y23 y24 y25 (wL Lu) (wL y27) y28 (wL x6) (wL x7) (wL x8) (wL x9)))
  (cond (x10.int==4)
  (oL m x0 x1 x2 (wL x3) (wL x4) x5 eH
  (fun y29 Lv=>cond Lv.bool
  (iX m x0 x1 x2 (wL x3) (wL x4) x5 (wL x6) (wL x7) (wL x8) (wL x9) (T.l [[(T.i 3),bT,eH,(T.l []),y29]])
  (fun y31 y32 QK y34 Ub Vq Vr y38 y39 Py=>k0 Vq Vr y38 (wL y31) (wL y32) y39 (wL QK) (wL Py) (wL y34) (wL Ub)))
  (k0 x0 x1 x2 (wL x3) (wL x4) x5 (wL x6) (wL x7) (wL x8) (wL x9))))
  (k0 x0 x1 x2 (wL x3) (wL x4) x5 (wL x6) (wL x7) (wL x8) (wL x9)))))
def NR:PS CX aC:=fH I9 (F1 163 [.bx [AI,AI,AI,.own tJ m4 [],.own tC m2 [],AI,.own tS mS [],.own tW m5 [],.own tW m5 [],.own tB m2 []],.agg [AI,AI,AI,.dz tO [],AB]] 15 10 wH ⟨[],[[none,none,none,none,none,none,none,none,none,none],[none,none,none,none,none]],[some [RI,RI,RI,.own (KR 1000 3) tJ m4 [],.own (KR 1000 4) tC m2 [],RI,.own (KR 1000 6) tS mS [],.own (KR 1000 7) tW m5 [],.own (KR 1000 8) tW m5 [],.own (KR 1000 9) tB m2 []],none]⟩) Tryz.f163 ⟨163,2,61,1⟩
def zm:Nat->T->T->T->T->T->T->T->T->T->T->T->T->T->T->(T->T->T->T->T->T->T->T->T->T->T->An)->An
 | 0,_,_,_,_,_,_,_,_,_,_,_,_,_,_,_=>.bad
 | m+1,x0,x1,x2,x3,x4,x5,x6,x7,x8,x9,x10,bT,eH,jK,k0 =>
  fC m bT (T.i 0) (T.i (IntKind.i64.wrap ((x7.rows.length:Int)-1)))
  (fun y0=>cond (!y0.bool)
  (k0 (T.b false) x0 x1 x2 (wL x3) (wL x4) x5 (wL x6) (wL x7) (wL x8) (wL x9))
  (aY bT x7
  (cond (decide ((Int.toNat bT.int)<x7.rows.length))
  (cond (x10.int==4)
  (iX m x0 x1 x2 (wL x3) (wL x4) x5 (wL x6) (wL x7) (wL x8) (wL x9) (T.l [[(aM x7 bT 0),(aM x7 bT 1),(aM x7 bT 2),(aM x7 bT 3),(aM x7 bT 4)]])
  (fun y1 y2 y3 y4 y5 y6 y7 y8 y9 nK=>k0 (T.b true) y6 y7 y8 (wL y1) (wL y2) y9 (wL y3) (wL nK) (wL y4) (wL y5)))
  (cond (decide ((0:Int)<=bT.int/\bT.int<=(x7.rows.length:Int)))
  (cond (decide ((0:Int)<=0/\0<=bT.int))
  (cond (decide ((0+(x7.rows.take (Int.toNat bT.int)).length) * 5<=ay))
  (cond (decide ((0:Int)<=(x7.rows.length:Int)/\(x7.rows.length:Int)<=(x7.rows.length:Int)))
  (cond (decide ((0:Int)<=(IntKind.i64.wrap (bT.int+1))/\(IntKind.i64.wrap (bT.int+1))<=(x7.rows.length:Int)))
  (cond (decide (((x7.rows.take (Int.toNat bT.int)).length+((x7.rows.take (Int.toNat (x7.rows.length:Int))).drop (Int.toNat (IntKind.i64.wrap (bT.int+1)))).length) * 5<=ay))
  (cond (x10.int==2)
  (wH m x0 x1 x2 (wL x3) (wL x4) x5 (wL x6) (T.l ((x7.rows.take (Int.toNat bT.int))++((x7.rows.take (Int.toNat (x7.rows.length:Int))).drop (Int.toNat (IntKind.i64.wrap (bT.int+1)))))) (wL x8) (wL x9) (aM x7 bT 0) (aM x7 bT 1) (aM x7 bT 2) (wL (aM x7 bT 3)) (aM x7 bT 4)
  (fun nE nN y13 oJ su vV uZ sU AU y20=>k0 (T.b true) nE nN y13 (wL oJ) (wL su) vV (wL uZ) (wL sU) (wL AU) (wL y20)))
  (k0 (T.b true) x0 x1 x2 (wL x3) (wL x4) x5 (wL x6) (T.l ((x7.rows.take (Int.toNat bT.int))++((x7.rows.take (Int.toNat (x7.rows.length:Int))).drop (Int.toNat (IntKind.i64.wrap (bT.int+1)))))) (wL x8) (wL x9)))
  (.bad))
  (.bad))
  (.bad))
  (.bad))
  (.bad))
  (.bad)))
  (.bad))))
def PL:PS CX aC:=fH NR (F1 111 [.bx [AI,AI,AI,.own tJ m4 [],.own tC m2 [],AI,.own tS mS [],.own tW m5 [],.own tW m5 [],.own tB m2 []],.agg [AI,AI,AI,.dz tO []]] 14 11 zm ⟨[.one (RB)],[[none,none,none,none,none,none,none,none,none,none],[none,none,none,none]],[some [RI,RI,RI,.own (KR 1000 3) tJ m4 [],.own (KR 1000 4) tC m2 [],RI,.own (KR 1000 6) tS mS [],.own (KR 1000 7) tW m5 [],.own (KR 1000 8) tW m5 [],.own (KR 1000 9) tB m2 []],none]⟩) Tryz.f111 ⟨111,2,58,17⟩
def jm (m:Nat):Nat->T->T->T->T->T->T->T->T->T->T->T->T->T->T->T->T->T->T->T->(T->T->T->T->T->T->T->T->T->T->T->T->An)->An
 | 0,_,_,_,_,_,_,_,_,_,_,_,_,_,_,_,_,_,_,_,_=>.bad
 | n+1,x0,x1,x2,x3,x4,x5,x6,x7,x8,x9,x10,bT,eH,jK,nY,ug,uh,vB,x18,k0 =>
  mU x6 bT
  (jn (fun (j4:T->T->An) =>
  aY x6 bT
  (cond (decide ((Int.toNat x6.int)<bT.rows.length))
  (cond ((aM bT x6 1).int==x4.int)
  (aY x6 bT
  (cond (decide ((Int.toNat x6.int)<bT.rows.length))
  (cond (decide ((vB.rows.length+1) * 5<=ay))
  (j4 (T.l (vB.rows++[[(aM bT x6 0),(aM bT x6 1),(aM bT x6 2),(aM bT x6 3),(aM bT x6 4)]])) (wL x18))
  (.bad))
  (.bad)))
  (aY x6 bT
  (cond (decide ((Int.toNat x6.int)<bT.rows.length))
  (cond (decide ((x18.rows.length+1) * 5<=ay))
  (j4 (wL vB) (T.l (x18.rows++[[(aM bT x6 0),(aM bT x6 1),(aM bT x6 2),(aM bT x6 3),(aM bT x6 4)]])))
  (.bad))
  (.bad))))
  (.bad)))
  (fun y2 y3=>jm m n x0 x1 x2 x3 x4 (T.i (x5.int.toNat:Int)) (bq x6) (wL x7) (wL x8) (wL x9) (wL x10) (wL bT) (wL eH) jK nY ug uh (wL y2) (wL y3) k0))
  (k0 x0 x1 x2 x3 (wL x7) (wL x8) (wL x9) (wL x10) (wL bT) (wL eH) (wL vB) (wL x18))
def wI:Nat->T->T->T->T->T->T->T->T->T->T->T->(T->T->T->T->T->T->T->T->An)->An
 | 0,_,_,_,_,_,_,_,_,_,_,_,_=>.bad
 | m+1,x0,x1,x2,x3,x4,x5,x6,x7,x8,x9,x10,k0 =>
  jm m m x0 x1 x2 x5 x10 (T.i 0) (T.i 0) (wL x3) (wL x4) (wL x6) (wL x7) (wL x8) (wL x9) x0 x1 x2 x5 (T.l []) (T.l [])
  (fun y5 y6 y7 y8 y9 nK nE nN y13 oJ su vV=>k0 (wL su) (wL vV) (wL y9) (wL nK) (wL nE) (wL nN) (wL y13) (wL oJ))
def NS:PS CX aC:=fH PL (F1 164 [.agg [AI,AI,AI,.own tJ m4 [],.own tC m2 [],AI,.own tS mS [],.own tW m5 [],.own tW m5 [],.own tB m2 []],.one (AI)] 11 8 wI ⟨[.one (.own (KR 0 0) tW m5 []),.one (.own (KR 1 0) tW m5 [])],[[none,none,none,some (tJ,m4,[]),some (tC,m2,[]),none,some (tS,mS,[]),some (tW,m5,[]),some (tW,m5,[]),some (tB,m2,[])],[none]],[none,none]⟩) Tryz.f164 ⟨164,2,44,49⟩ [L1 [0,1,0,1,1,1] ⟨[(0,.agg [LI,LI,LI,LA [0,3] tJ,LA [0,4] tC,LI,LA [0,6] tS,LA [0,7] tW,LA [0,8] tW,LA [0,9] tB]),(1,.one (LI)),(2,EP 6),(6,.one (LA (KI 7) tW)),(7,.one (LA (KI 8) tW)),(8,.one (LI))],[([0,3],.row tJ m4 []),([0,4],.row tC m2 []),([0,6],.row tS mS []),([0,7],.row tW m5 []),([0,8],.row tW m5 []),([0,9],.row tB m2 []),((KI 6),.box [LI,LI,LI,LA [0,3] tJ,LA [0,4] tC,LI,LA [0,6] tS,LA [0,7] tW,LA [0,8] tW,LA [0,9] tB]),((KI 7),.row tW m5 []),((KI 8),.row tW m5 [])]⟩ 19 12 jm (.exit 0) ⟨[(0,.agg [LI,LI,LI,LA [0,3] tJ,LA [0,4] tC,LI,LA [0,6] tS,LA [0,7] tW,LA [0,8] tW,LA [0,9] tB]),(6,.one (LA (KI 6) tW)),(7,.one (LA (KI 7) tW))],[([0,3],.row tJ m4 []),([0,4],.row tC m2 []),([0,6],.row tS mS []),([0,7],.row tW m5 []),([0,8],.row tW m5 []),([0,9],.row tB m2 []),((KI 6),.row tW m5 []),((KI 7),.row tW m5 [])]⟩]
def eB (m:Nat):Nat->T->T->T->T->T->T->(T->T->T->An)->(T->T->T->T->An)->An
 | 0,_,_,_,_,_,_,_,_=>.bad
 | n+1,x0,x1,x2,x3,x4,x5,k0,k1 =>
  mU x2 x0
  ((fun (j19:T->T->T->An) =>
  aY x2 x0
  (xW m (wL x3) (wL x4) (wL x5) (aM x0 x2 0) (aM x0 x2 1) (wL (aM x0 x2 2))
  (fun y0 y1 y2 y3=>cond (!y0.bool)
  (k0 (T.b false) (T.l []) (T.l []))
  (j19 (wL y1) (wL y2) (wL y3)))
  (fun y4 y5 y6 y7 y8=>cond (!y4.bool)
  (k0 (T.b false) (T.l []) (T.l []))
  (j19 (wL y6) (wL y7) (wL y8)))))
  (fun vV uZ sU=>eB m n x0 (T.i (x1.int.toNat:Int)) (bq x2) (wL vV) (wL uZ) (wL sU) k0 k1))
  (k1 (T.i (x1.int.toNat:Int)) (wL x3) (wL x4) (wL x5))
def lu:Nat->T->(T->T->T->An)->An
 | 0,_,_=>.bad
 | m+1,x0,k0 =>
  eB m m (wL x0) (T.i 0) (T.i 0) (T.l []) (T.l []) (T.l [])
  (fun y20 y21 y22=>k0 (wL y21) (wL y22) y20)
  (fun y23 y24 y25 Lu=>k0 (wL y24) (wL y25) (T.b true))
def Hl:PS CX aC:=fH NS (FN 194 [.one (.dz tR [])] 1 3 lu [.one (.own (KR 0 0) tP m2 []),.one (.own (KR 1 0) tR m3 []),.one (RB)]) Tryz.f194 ⟨194,1,34,28⟩ [L2 [0,1,0,1,1] ⟨[(0,.one (LD tR)),(5,EP 1),(6,.one (LI))],[([4000000],.gone),((KI 1),.box [LA (KI 2) tP,LA (KI 3) tR,LA (KI 4) tI]),((KI 2),.row tP m2 []),((KI 3),.row tR m3 []),((KI 4),.row tI [.F] [])]⟩ 6 3 4 eB .ret ⟨[(2,.one (LA (KI 0) tP)),(3,.one (LA (KI 1) tR)),(4,.one (LB))],[((KI 0),.row tP m2 []),((KI 1),.row tR m3 [])]⟩ (.exit 0) ⟨[(5,EP 0)],[((KI 0),.box [LA (KI 1) tP,LA (KI 2) tR,LA (KI 3) tI]),((KI 1),.row tP m2 []),((KI 2),.row tR m3 []),((KI 3),.row tI [.F] [])]⟩]
def wJ:Nat->T->T->T->T->T->T->(T->T->T->T->T->T->T->An)->An
 | 0,_,_,_,_,_,_,_=>.bad
 | m+1,x0,x1,x2,x3,x4,x5,k0 =>
  jn (fun (j6:T->An) =>
  cond (decide (x5.int<0))
  (j6 (T.i 0))
  (j6 x5))
  (fun y0=>jn (fun (j5:T->An) =>
  cond (decide (y0.int > (IntKind.i64.wrap ((x1.rows.length:Int)-x2.int))))
  (j5 (T.i (IntKind.i64.wrap ((x1.rows.length:Int)-x2.int))))
  (j5 y0))
  (fun y1=>cond (decide ((0:Int)<=(IntKind.i64.wrap (x2.int+y1.int))/\(IntKind.i64.wrap (x2.int+y1.int))<=(x1.rows.length:Int)))
  (cond (decide ((0:Int)<=0/\0<=(IntKind.i64.wrap (x2.int+y1.int))))
  (lu m (T.l (x1.rows.take (Int.toNat (IntKind.i64.wrap (x2.int+y1.int)))))
  (fun y2 y3 y4=>k0 (wL x3) (wL x4) x0 (T.l (x1.rows.take (Int.toNat (IntKind.i64.wrap (x2.int+y1.int))))) (T.i ((x1.rows.take (Int.toNat (IntKind.i64.wrap (x2.int+y1.int)))).length:Int)) (wL y2) (wL y3)))
  (.bad))
  (.bad)))
def NT:PS CX aC:=fH Hl (F1 165 [.bx [AI,.own tR m3 [],AI,.own tP m2 [],.own tR m3 []],.one (AI)] 6 7 wJ ⟨[],[[none,none,none,some (tP,m2,[]),some (tR,m3,[])],[none]],[some [RI,.own (KR 1000 1) tR m3 [],RI,.own (KR 1000 3) tP m2 [],.own (KR 1000 4) tR m3 []],none]⟩) Tryz.f165 ⟨165,2,65,1⟩
def iL (m:Nat):Nat->T->T->T->T->T->T->T->T->T->T->T->T->T->T->T->T->T->T->(T->T->T->T->T->T->T->T->T->T->T->An)->(T->T->T->T->T->T->T->T->T->T->T->An)->An
 | 0,_,_,_,_,_,_,_,_,_,_,_,_,_,_,_,_,_,_,_,_=>.bad
 | n+1,x0,x1,x2,x3,x4,x5,x6,x7,x8,x9,x10,bT,eH,jK,nY,ug,uh,vB,k0,k1 =>
  cond (decide (x2.int.toNat<eH.rows.length))
  (cond (decide (x3.int<(((eH.rows.getD x2.int.toNat []).getD 4 dflt).rows.length:Int)))
  (cond (decide (x2.int.toNat<eH.rows.length))
  (aY x3 ((eH.rows.getD x2.int.toNat []).getD 4 dflt)
  (iX m x4 x5 x6 (wL jK) (wL nY) x7 (wL eH) (wL ug) (wL uh) (wL vB) (T.l [[(T.i 4),x9,(((((eH.rows.getD x2.int.toNat []).getD 4 dflt).rows.getD (Int.toNat x3.int) []).drop 1).getD 0 dflt),(T.l []),(T.b false)]])
  (fun Ub Vq Vr y38 y39 Py Zb XQ Zc Zd=>iL m n (T.i (x0.int.toNat:Int)) (T.i (x1.int.toNat:Int)) (T.i (x2.int.toNat:Int)) (bq x3) Py Zb XQ Zc x8 x9 x10 bT (wL Vr) (wL Ub) (wL Vq) (wL Zd) (wL y38) (wL y39) k0 k1)))
  (.bad))
  (k0 (T.i (x0.int.toNat:Int)) x4 x5 x6 x7 (wL jK) (wL nY) (wL eH) (wL ug) (wL uh) (wL vB)))
  (.bad)
def mZ (m:Nat):Nat->T->T->T->T->T->T->T->T->T->T->T->T->T->T->T->T->T->T->(T->T->T->T->T->T->T->T->T->T->T->An)->(T->T->T->T->T->T->T->T->T->T->T->An)->An
 | 0,_,_,_,_,_,_,_,_,_,_,_,_,_,_,_,_,_,_,_,_=>.bad
 | n+1,x0,x1,x2,x3,x4,x5,x6,x7,x8,x9,x10,bT,eH,jK,nY,ug,uh,vB,k0,k1 =>
  cond (decide (x2.int.toNat<eH.rows.length))
  (cond (decide (x3.int<(((eH.rows.getD x2.int.toNat []).getD 4 dflt).rows.length:Int)))
  (cond (decide (x2.int.toNat<eH.rows.length))
  (aY x3 ((eH.rows.getD x2.int.toNat []).getD 4 dflt)
  (iX m x4 x5 x6 (wL jK) (wL nY) x7 (wL eH) (wL ug) (wL uh) (wL vB) (T.l [[(T.i 4),x9,(((((eH.rows.getD x2.int.toNat []).getD 4 dflt).rows.getD (Int.toNat x3.int) []).drop 1).getD 0 dflt),(T.l []),(T.b false)]])
  (fun y25 Lu y27 y28 y29 Lv y31 y32 QK y34=>iL m n (T.i (x0.int.toNat:Int)) (T.i (x1.int.toNat:Int)) (T.i (x2.int.toNat:Int)) (bq x3) Lv y31 y32 QK x8 x9 x10 bT (wL y27) (wL y25) (wL Lu) (wL y34) (wL y28) (wL y29) k0 k1)))
  (.bad))
  (k1 (T.i (x0.int.toNat:Int)) x4 x5 x6 x7 (wL jK) (wL nY) (wL eH) (wL ug) (wL uh) (wL vB)))
  (.bad)
def xX:Pack:=⟨[(0,.ptr [0,999999] 0 0 0)],[([0,999999],.box [LI,LI,LI,LA [0,3] tJ,LA [0,4] tC,LI,LA [0,6] tS,LA (KI 4) tW,LA [0,8] tW,LA [0,9] tB]),([0,3],.row tJ m4 []),([0,4],.row tC m2 []),([0,6],.row tS mS []),((KI 4),.row tW m5 []),([0,8],.row tW m5 []),([0,9],.row tB m2 [])]⟩
def xY:Pack:=⟨[(0,.ptr [0,999999] 0 0 0)],[([0,999999],.box [LI,LI,LI,LA [0,3] tJ,LA [0,4] tC,LI,LA [0,6] tS,LA [0,7] tW,LA [0,8] tW,LA [0,9] tB]),([0,3],.row tJ m4 []),([0,4],.row tC m2 []),([0,6],.row tS mS []),([0,7],.row tW m5 []),([0,8],.row tW m5 []),([0,9],.row tB m2 [])]⟩
def uy:Nat->T->T->T->T->T->T->T->T->T->T->T->T->T->T->(T->T->T->T->T->T->T->T->T->T->T->An)->(T->T->T->T->T->T->T->T->T->T->An)->An
 | 0,_,_,_,_,_,_,_,_,_,_,_,_,_,_,_,_=>.bad
 | m+1,x0,x1,x2,x3,x4,x5,x6,x7,x8,x9,x10,bT,eH,jK,k0,k1 =>
  aY bT x6
  (wI m x0 x1 x2 (wL x3) (wL x4) x5 (wL x6) (wL x7) (wL x8) (wL x9) bT
  (fun y0 y1 y2 y3 y4 y5 y6 y7=>cond (x10.int==5)
  (cond (decide ((Int.toNat bT.int)<y4.rows.length))
  (cond (decide ((Int.toNat bT.int)<y4.rows.length))
  (iX m x0 x1 x2 (wL y2) (wL y3) x5 (T.l (y4.rows.set (Int.toNat bT.int) ((y4.rows.getD (Int.toNat bT.int) []).set 2 (T.i ((aM y4 bT 1).rows.length:Int))))) (wL y5) (wL y1) (wL y7) (wL y0)
  (fun y8 y9 nK nE nN y13 oJ su vV uZ=>k0 (wL y6) y13 oJ su (wL y8) (wL y9) vV (wL nK) (wL uZ) (wL nE) (wL nN)))
  (.bad))
  (.bad))
  (cond (x10.int==9)
  (cond (decide ((Int.toNat bT.int)<y4.rows.length))
  (wJ m ((y4.rows.getD (Int.toNat bT.int) []).headD dflt) (T.l ((y4.rows.getD (Int.toNat bT.int) []).tail.headD dflt).rows) ((y4.rows.getD (Int.toNat bT.int) []).tail.tail.headD dflt) (T.l ((y4.rows.getD (Int.toNat bT.int) []).tail.tail.tail.headD dflt).rows) (T.l ((y4.rows.getD (Int.toNat bT.int) []).tail.tail.tail.tail.headD dflt).rows) eH
  (fun sU AU y20 y21 y22 y23 y24=>k0 (wL y6) x0 x1 x2 (wL y2) (wL y3) x5 (T.l (y4.rows.set (Int.toNat bT.int) [y20,(wL y21),y22,(wL y23),(wL y24)])) (wL y5) (wL y1) (wL y7)))
  (.bad))
  (cond (x10.int==8)
  (mZ m m (T.i 0) (T.i 0) (T.i ((Int.toNat bT.int):Int)) (T.i 0) x0 x1 x2 x5 x10 bT eH (wL jK) (wL y4) (wL y2) (wL y3) (wL y5) (wL y6) (wL y7)
  (fun XR XT y47 y48 y49 y50 y51 y52 y53 y54 y55=>k1 XT y47 y48 (wL y50) (wL y51) y49 (wL y52) (wL y53) (wL y54) (wL y55))
  (fun y56 y57 y58 y59 y60 y61 y62 y63 y64 y65 y66=>k1 y57 y58 y59 (wL y61) (wL y62) y60 (wL y63) (wL y64) (wL y65) (wL y66)))
  (k1 x0 x1 x2 (wL y2) (wL y3) x5 (wL y4) (wL y5) (wL y6) (wL y7))))))
def KL:PS CX aC:=fH NT (F2 113 [.bx [AI,AI,AI,.own tJ m4 [],.own tC m2 [],AI,.own tS mS [],.own tW m5 [],.own tW m5 [],.own tB m2 []],.agg [AI,AI,AI,.dz tO []]] 14 11 10 uy ⟨[],[[none,none,none,none,none,none,none,none,some (tW,m5,[]),none],[none,none,none,none]],[some [RI,RI,RI,.own (KR 1000 3) tJ m4 [],.own (KR 1000 4) tC m2 [],RI,.own (KR 1000 6) tS mS [],.own (KR 1000 7) tW m5 [],.own (KR 1000 8) tW m5 [],.own (KR 1000 9) tB m2 []],none]⟩ ⟨[],[[none,none,none,none,none,none,none,none,none,none],[none,none,none,none]],[some [RI,RI,RI,.own (KR 1000 3) tJ m4 [],.own (KR 1000 4) tC m2 [],RI,.own (KR 1000 6) tS mS [],.own (KR 1000 7) tW m5 [],.own (KR 1000 8) tW m5 [],.own (KR 1000 9) tB m2 []],none]⟩) Tryz.f113 ⟨113,2,78,1⟩ [L2 [0,1,0,1,1,1,1,1,0,1,1,1,1] ⟨[(0,.ptr [0,999999] 0 0 0),(3,EP 1),(4,.ptr [0,6] 0 0 0),(7,.one (LI))],[([0,999999],.box [LI,LI,LI,LA [0,3] tJ,LA [0,4] tC,LI,LA [0,6] tS,LA (KI 5) tW,LA [0,8] tW,LA [0,9] tB]),((KI 1),.box [LI,LI,LI,LD tO]),([0,6],.row tS mS []),([0,3],.row tJ m4 []),([0,4],.row tC m2 []),((KI 5),.row tW m5 []),([0,8],.row tW m5 []),([0,9],.row tB m2 []),([4000000],.gone)]⟩ 18 11 11 iL (.exit 1) xX (.exit 1) xY,L2 [0,1,0,1,1,1,1,1,0,1,1,1,1] ⟨[(0,.ptr [0,999999] 0 0 0),(3,EP 1),(4,.ptr [0,6] 0 0 0),(7,.one (LI))],[([0,999999],.box [LI,LI,LI,LA [0,3] tJ,LA [0,4] tC,LI,LA [0,6] tS,LA [0,7] tW,LA [0,8] tW,LA [0,9] tB]),((KI 1),.box [LI,LI,LI,LD tO]),([0,6],.row tS mS []),([0,3],.row tJ m4 []),([0,4],.row tC m2 []),([0,7],.row tW m5 []),([0,8],.row tW m5 []),([0,9],.row tB m2 []),([4000000],.gone)]⟩ 18 11 11 mZ (.exit 1) xX (.exit 1) xY]
def fK (m:Nat):Nat->T->T->T->T->T->T->T->T->T->T->(T->An)->An
 | 0,_,_,_,_,_,_,_,_,_,_,_=>.bad
 | n+1,x0,x1,x2,x3,x4,x5,x6,x7,x8,x9,k0 =>
  jn (fun (j5:An) =>
  cond ((decide (x4.int<(x3.rows.length:Int)))==true)
  (cond x2.bool
  (j5)
  (k0 (wL x9)))
  (k0 (wL x9)))
  (aY x4 x3
  (cond (decide ((x9.rows.length+1) * 5<=ay))
  (fK m n (T.i (x0.int.toNat:Int)) x1 x2 x3 (bq x4) x5 x6 x7 x8 (T.l (x9.rows++[[(T.i 3),(aM x3 x4 0),x5,(T.l []),x1]])) k0)
  (.bad)))
def uz:Nat->T->T->T->T->T->T->T->T->T->T->(T->An)->An
 | 0,_,_,_,_,_,_,_,_,_,_,_=>.bad
 | m+1,x0,x1,x2,x3,x4,x5,x6,x7,x8,x9,k0 =>
  oL m x0 x1 x2 (wL x3) (wL x4) x5 x6
  (fun y0 y1=>cond (x8.int==1)
  (qb m x0 x1 x2 (wL x3) (wL x4) x5 x6 (wL x7) x8 (wL x9)
  (fun y2=>k0 (wL y2)))
  (lV m (wL x7) x0
  (fun y3=>fK m m (T.i 0) y0 y1 (wL y3) (T.i 0) x6 (wL x7) x8 (wL x9) (T.l [])
  (fun y6=>k0 (wL y6)))))
def KM:PS CX aC:=fH KL (FN 166 [.agg [AI,AI,AI,.dz tJ [],.dz tC [],AI],.agg [AI,.dz tO [],AI,.dz tI []]] 10 1 uz [.one (.own (KR 0 0) tW m5 [])]) Tryz.f166 ⟨166,2,50,16⟩ [L1 [0,1,0,1,1,1,1,1] ⟨[(3,EP 0),(5,.one (LA (KI 1) tW)),(6,.one (LB)),(7,.one (LB)),(8,.one (LZ tI)),(9,.one (LI))],[((KI 0),.box [LI,LD tO,LI,LD tI]),((KI 1),.row tW m5 []),([4000000],.gone)]⟩ 10 1 fK (.exit 0) ⟨[(5,.one (LA (KI 0) tW))],[((KI 0),.row tW m5 [])]⟩]
def fQ (m:Nat):Nat->T->T->T->T->T->T->T->T->T->(T->An)->An
 | 0,_,_,_,_,_,_,_,_,_,_=>.bad
 | n+1,x0,x1,x2,x3,x4,x5,x6,x7,x8,k0 =>
  mU x1 x5
  (aY x1 x5
  (uz m x2 x3 x4 (wL x5) (wL x6) x7 (aM x5 x1 0) (wL (aM x5 x1 1)) (aM x5 x1 2) (wL (aM x5 x1 3))
  (fun y0=>cond (decide ((x8.rows.length+y0.rows.length) * 5<=ay))
  (fQ m n (T.i (x0.int.toNat:Int)) (bq x1) x2 x3 x4 x5 x6 x7 (T.l (x8.rows++y0.rows)) k0)
  (.bad))))
  (k0 (wL x8))
def qo:Nat->T->T->T->T->T->T->(T->An)->An
 | 0,_,_,_,_,_,_,_=>.bad
 | m+1,x0,x1,x2,x3,x4,x5,k0 =>
  fQ m m (T.i 0) (T.i 0) x0 x1 x2 (wL x3) (wL x4) x5 (T.l [])
  (fun y1=>k0 (wL y1))
def Ho:PS CX aC:=fH KM (FN 115 [.agg [AI,AI,AI,.dz tJ [],.dz tC [],AI]] 6 1 qo [.one (.own (KR 0 0) tW m5 [])]) Tryz.f115 ⟨115,1,23,4⟩ [L1 [0,1,0,1,1] ⟨[(1,EP 0),(3,.one (LA (KI 1) tW)),(4,.one (LI))],[((KI 0),.box [LI,LI,LI,LD tJ,LD tC,LI]),((KI 1),.row tW m5 []),([4000000],.gone)]⟩ 9 1 fQ (.exit 0) ⟨[(3,.one (LA (KI 0) tW))],[((KI 0),.row tW m5 [])]⟩]
def qd:Nat->T->T->T->T->T->T->T->(T->T->T->T->T->T->T->An)->(T->T->T->T->T->T->T->T->An)->An
 | 0,_,_,_,_,_,_,_,_,_=>.bad
 | m+1,x0,x1,x2,x3,x4,x5,x6,k0,k1 =>
  cond (x1.int==900)
  (k0 (T.b false) x0 x1 x2 (wL x3) (wL x4) x5)
  (jn (fun (j3:T->An) =>
  cond (decide (x6.int<0))
  (j3 (T.i 0))
  (j3 x6))
  (fun y0=>jn (fun (j2:T->An) =>
  cond (decide (y0.int > (IntKind.i64.wrap ((x4.rows.length:Int)-x5.int))))
  (j2 (T.i (IntKind.i64.wrap ((x4.rows.length:Int)-x5.int))))
  (j2 y0))
  (fun y1=>cond (decide ((0:Int)<=(IntKind.i64.wrap (x5.int+y1.int))/\(IntKind.i64.wrap (x5.int+y1.int))<=(x4.rows.length:Int)))
  (cond (decide ((0:Int)<=0/\0<=(IntKind.i64.wrap (x5.int+y1.int))))
  (k1 (T.b true) (wL x3) x0 (bq x1) (T.i 0) (T.l []) (T.l (x4.rows.take (Int.toNat (IntKind.i64.wrap (x5.int+y1.int))))) (T.i ((x4.rows.take (Int.toNat (IntKind.i64.wrap (x5.int+y1.int)))).length:Int)))
  (.bad))
  (.bad))))
def KN:PS CX aC:=fH Ho (F2 116 [.bx [AI,AI,AI,.own tJ m4 [],.own tC m2 [],AI],.one (AI)] 7 7 8 qd ⟨[.one (RB)],[[none,none,none,none,none,none],[none]],[some [RI,RI,RI,.own (KR 1000 3) tJ m4 [],.own (KR 1000 4) tC m2 [],RI],none]⟩ ⟨[.one (RB)],[[none,none,none,some (tJ,m4,[]),none,none],[none]],[some [RI,RI,RI,.own (KR 1000 3) tJ m4 [],.own (KR 1000 4) tC m2 [],RI],none]⟩) Tryz.f116 ⟨116,2,71,17⟩
def BR:Nat->T->T->T->T->T->T->T->T->T->T->T->T->T->T->(T->T->T->T->T->T->T->T->T->T->T->An)->(T->T->T->T->T->T->T->T->T->T->T->T->An)->(T->T->T->T->T->T->T->T->T->T->T->T->An)->An
 | 0,_,_,_,_,_,_,_,_,_,_,_,_,_,_,_,_,_=>.bad
 | m+1,x0,x1,x2,x3,x4,x5,x6,x7,x8,x9,x10,bT,eH,jK,k0,k1,k2 =>
  cond (x10.int==1)
  (uo m x0 x1 x2 (wL x3) (wL x4) x5 (wL x6) (wL x7) (wL x8) (wL x9) (wL jK)
  (fun y0 y1 y2 y3 y4 y5 y6 y7 y8 y9 nK=>k0 y0 y1 y2 y3 (wL y4) (wL y5) y6 (wL y7) (wL y8) (wL y9) (wL nK)))
  (jn (fun (j90:T->An) =>
  cond (x10.int==2)
  (j90 (T.b true))
  (cond (x10.int==3)
  (j90 (T.b true))
  (j90 (T.b (x10.int==4)))))
  (fun nE=>cond nE.bool
  (zm m x0 x1 x2 (wL x3) (wL x4) x5 (wL x6) (wL x7) (wL x8) (wL x9) x10 bT eH (wL jK)
  (fun nN y13 oJ su vV uZ sU AU y20 y21 y22=>k0 nN y13 oJ su (wL vV) (wL uZ) sU (wL AU) (wL y20) (wL y21) (wL y22)))
  (jn (fun (j89:T->An) =>
  cond (x10.int==5)
  (j89 (T.b true))
  (cond (x10.int==8)
  (j89 (T.b true))
  (j89 (T.b (x10.int==9)))))
  (fun y23=>cond y23.bool
  (fC m bT (T.i 0) (T.i (IntKind.i64.wrap ((x6.rows.length:Int)-1)))
  (fun y24=>cond (!y24.bool)
  (k0 (T.b false) x0 x1 x2 (wL x3) (wL x4) x5 (wL x6) (wL x7) (wL x8) (wL x9))
  (uy m x0 x1 x2 (wL x3) (wL x4) x5 (wL x6) (wL x7) (wL x8) (wL x9) x10 bT eH (wL jK)
  (fun y25 Lu y27 y28 y29 Lv y31 y32 QK y34 Ub=>k1 (T.b true) (wL y25) Lu y27 y28 (wL y29) (wL Lv) y31 (wL y32) (wL QK) (wL y34) (wL Ub))
  (fun Vq Vr y38 y39 Py Zb XQ Zc Zd XR=>k0 (T.b true) Vq Vr y38 (wL y39) (wL Py) Zb (wL XQ) (wL Zc) (wL Zd) (wL XR)))))
  (cond (x10.int==6)
  (k0 (T.b true) x0 x1 x2 (wL x3) (wL x4) (T.i (x4.rows.length:Int)) (wL x6) (wL x7) (wL x8) (wL x9))
  (cond (x10.int==7)
  (qo m x0 x1 x2 (wL x3) (wL x4) x5
  (fun y56=>iX m x0 x1 x2 (wL x3) (wL x4) x5 (wL x6) (wL x7) (wL x8) (wL x9) (wL y56)
  (fun y57 y58 y59 y60 y61 y62 y63 y64 y65 y66=>k0 (T.b true) y62 y63 y64 (wL y57) (wL y58) y65 (wL y59) (wL y66) (wL y60) (wL y61))))
  (cond (x10.int==10)
  (qd m x0 x1 x2 (wL x3) (wL x4) x5 eH
  (fun y67 y68 y69 y70 y71 y72 y73=>k0 y67 y68 y69 y70 (wL y71) (wL y72) y73 (wL x6) (wL x7) (wL x8) (wL x9))
  (fun y74 y75 y76 y77 y78 y79 y80 y81=>k2 y74 (wL y75) y76 y77 y78 (wL y79) (wL y80) y81 (wL x6) (wL x7) (wL x8) (wL x9)))
  (k0 (T.b false) x0 x1 x2 (wL x3) (wL x4) x5 (wL x6) (wL x7) (wL x8) (wL x9)))))))))
def Tq:PS CX aC:=fH KN (⟨64,[.bx [AI,AI,AI,.own tJ m4 [],.own tC m2 [],AI,.own tS mS [],.own tW m5 [],.own tW m5 [],.own tB m2 []],.agg [AI,AI,AI,.dz tO []]],fun m vs k=>ap 14 (BR m) vs (lm 11 fun z=>k (XI ⟨[.one (RB)],[[none,none,none,none,none,none,none,none,none,none],[none,none,none,none]],[some [RI,RI,RI,.own (KR 1000 3) tJ m4 [],.own (KR 1000 4) tC m2 [],RI,.own (KR 1000 6) tS mS [],.own (KR 1000 7) tW m5 [],.own (KR 1000 8) tW m5 [],.own (KR 1000 9) tB m2 []],none]⟩ z)) (lm 12 fun z=>k (XI ⟨[.one (RB)],[[none,none,none,none,none,none,none,none,some (tW,m5,[]),none],[none,none,none,none]],[some [RI,RI,RI,.own (KR 1000 3) tJ m4 [],.own (KR 1000 4) tC m2 [],RI,.own (KR 1000 6) tS mS [],.own (KR 1000 7) tW m5 [],.own (KR 1000 8) tW m5 [],.own (KR 1000 9) tB m2 []],none]⟩ z)) (lm 12 fun z=>k (XI ⟨[.one (RB)],[[none,none,none,some (tJ,m4,[]),none,none,none,none,none,none],[none,none,none,none]],[some [RI,RI,RI,.own (KR 1000 3) tJ m4 [],.own (KR 1000 4) tC m2 [],RI,.own (KR 1000 6) tS mS [],.own (KR 1000 7) tW m5 [],.own (KR 1000 8) tW m5 [],.own (KR 1000 9) tB m2 []],none]⟩ z))⟩) Tryz.f64 ⟨64,2,66,17⟩
def gu (m:Nat):Nat->T->T->T->T->T->T->T->T->T->T->T->T->T->T->T->T->T->T->T->T->T->T->T->T->T->T->T->(T->T->T->T->T->T->T->T->T->T->T->T->T->T->T->T->T->T->T->T->T->T->T->T->T->T->An)->An
 | 0,_,_,_,_,_,_,_,_,_,_,_,_,_,_,_,_,_,_,_,_,_,_,_,_,_,_,_,_=>.bad
 | n+1,x0,x1,x2,x3,x4,x5,x6,x7,x8,x9,x10,bT,eH,jK,nY,ug,uh,vB,x18,CG,x20,x21,IW,x23,x24,x25,x26,k0 =>
  cond (decide (x3.int > 0))
  (jn (fun (j86:T->T->T->T->T->T->T->T->T->T->T->T->T->An) =>
  nO m (wL x4) x5 x6 bT eH jK (wL x21) (wL IW) nY (wL x23) (wL x24) (wL x25) (wL x26)
  (fun sU AU y20 y21 y22 y23 y24=>BR m bT eH jK (wL x21) (wL IW) nY (wL x23) (wL x24) (wL x25) (wL x26) sU AU y20 (wL y21)
  (fun y25 Lu y27 y28 y29 Lv y31 y32 QK y34 Ub=>j86 (wL y22) y23 y24 Lu y27 y28 y31 (wL y29) (wL Lv) (wL y32) (wL QK) (wL y34) (wL Ub))
  (fun Vq Vr y38 y39 Py Zb XQ Zc Zd XR XT y47=>j86 (wL y22) y23 y24 y38 y39 Py Zc (wL Zb) (wL XQ) (wL Zd) (wL XR) (wL XT) (wL y47))
  (fun y48 y49 y50 y51 y52 y53 y54 y55 y56 y57 y58 y59=>j86 (wL y22) y23 y24 y50 y51 y52 y55 (wL y53) (wL y54) (wL y56) (wL y57) (wL y58) (wL y59))))
  (fun y73 y74 y75 y76 y77 y78 y79 y80 y81 y82 y83 y84 y85=>gu m n (T.i (x0.int.toNat:Int)) (T.i (x1.int.toNat:Int)) (T.i (x2.int.toNat:Int)) (T.i (IntKind.i64.wrap (x3.int-1))) y73 y74 y75 x7 x8 x9 x10 y76 y77 y78 y79 (wL ug) (wL uh) (wL vB) (wL x18) (wL CG) (wL x20) (wL y80) (wL y81) (wL y82) (wL y83) (wL y84) (wL y85) k0))
  (k0 (T.i (x0.int.toNat:Int)) (T.i (x1.int.toNat:Int)) (T.i (x2.int.toNat:Int)) x4 x5 x6 x7 x8 x9 x10 bT eH jK nY (wL ug) (wL uh) (wL vB) (wL x18) (wL CG) (wL x20) (wL x21) (wL IW) (wL x23) (wL x24) (wL x25) (wL x26))
def BS:Nat->T->T->T->T->(T->T->T->T->T->T->T->T->T->T->T->T->T->An)->An
 | 0,_,_,_,_,_=>.bad
 | m+1,x0,x1,x2,x3,k0 =>
  sS m (wL x0) x1 x2 (T.l [[(T.i 3)],[(T.i 2)],[(T.i 3)],[(T.i 1)]])
  (fun y0 y1 y2 y3=>uj m y0
  (fun y4 y5 y6 y7 y8 y9 nK nE nN y13=>bV m (wL y1) y2 y3 x3
  (fun oJ su vV uZ=>gu m m (T.i 0) (T.i 0) (T.i 0) oJ (wL su) vV uZ (T.i 0) (T.i 0) (T.i 0) (T.i 0) y4 y5 y6 y9 (T.l []) (T.l []) (T.l []) (T.l []) (T.l []) (T.l []) (wL y7) (wL y8) (wL nK) (wL nE) (wL nN) (wL y13)
  (fun y87 y88 y89 y90 y91 y92 y93 y94 y95 y96 y97 y98 y99 ajQ y101 y102 amc y104 amd ame ajR ajS ajT ajU ajV y112=>k0 y97 y98 y99 (wL ajR) (wL ajS) ajQ (wL ajT) (wL ajU) (wL ajV) (wL y112) (wL y90) y91 y92))))
def NU:PS CX aC:=fH Tq (F1 56 [.bx [.fz tU [],AI,AI],.one (AI)] 4 13 BS ⟨[.agg [RI,RI,RI,.own (KR 0 3) tJ m4 [],.own (KR 0 4) tC m2 [],RI,.own (KR 0 6) tS mS [],.own (KR 0 7) tW m5 [],.own (KR 0 8) tW m5 [],.own (KR 0 9) tB m2 []]],[[none,none,none],[none]],[some [.fz tU [],RI,RI],none]⟩) Tryz.f56 ⟨56,2,23,17⟩ [L1 [0,1,0,1,1] ⟨[(0,.ptr [0,999999] 0 0 0),(4,EP 1),(5,EP 2),(6,.one (LI))],[([0,999999],.box [LZ tU,LI,LI]),((KI 1),.box [LI,LI,LI,LA (KI 3) tJ,LA (KI 4) tC,LI,LA (KI 5) tS,LA (KI 6) tW,LA (KI 7) tW,LA (KI 8) tB]),((KI 2),.box [LI,LI,LI,LA (KI 9) tJ,LA (KI 10) tC,LI,LA (KI 11) tS,LA (KI 12) tW,LA (KI 13) tW,LA (KI 14) tB]),((KI 3),.row tJ m4 []),((KI 4),.row tC m2 []),((KI 5),.row tS mS []),((KI 6),.row tW m5 []),((KI 7),.row tW m5 []),((KI 8),.row tB m2 []),((KI 9),.row tJ m4 []),((KI 10),.row tC m2 []),((KI 11),.row tS mS []),((KI 12),.row tW m5 []),((KI 13),.row tW m5 []),((KI 14),.row tB m2 [])]⟩ 27 26 gu (.exit 0) ⟨[(0,.ptr [0,999999] 0 0 0),(4,EP 1),(5,EP 2)],[([0,999999],.box [LZ tU,LI,LI]),((KI 1),.box [LI,LI,LI,LA (KI 3) tJ,LA (KI 4) tC,LI,LA (KI 5) tS,LA (KI 6) tW,LA (KI 7) tW,LA (KI 8) tB]),((KI 2),.box [LI,LI,LI,LA (KI 9) tJ,LA (KI 10) tC,LI,LA (KI 11) tS,LA (KI 12) tW,LA (KI 13) tW,LA (KI 14) tB]),((KI 3),.row tJ m4 []),((KI 4),.row tC m2 []),((KI 5),.row tS mS []),((KI 6),.row tW m5 []),((KI 7),.row tW m5 []),((KI 8),.row tB m2 []),((KI 9),.row tJ m4 []),((KI 10),.row tC m2 []),((KI 11),.row tS mS []),((KI 12),.row tW m5 []),((KI 13),.row tW m5 []),((KI 14),.row tB m2 [])]⟩]
def rH:Nat->T->(T->T->T->T->T->T->T->T->T->T->An)->An
 | 0,_,_=>.bad
 | m+1,x0,k0 =>
  BN m (wL x0)
  (fun y0 y1 y2=>uY m (wL x0) (T.i 90)
  (fun y3=>BS m (wL y0) y1 y2 (T.i (IntKind.i64.wrap (20+y3.int)))
  (fun y4 y5 y6 y7 y8 y9 nK nE nN y13 oJ su vV=>k0 y4 y5 y6 (wL y7) (wL y8) y9 (wL nK) (wL nE) (wL nN) (wL y13))))
def Ja:PS CX aC:=fH NU (FN 21 [.one (.fz tU [])] 1 10 rH [.agg [RI,RI,RI,.own (KR 0 3) tJ m4 [],.own (KR 0 4) tC m2 [],RI,.own (KR 0 6) tS mS [],.own (KR 0 7) tW m5 [],.own (KR 0 8) tW m5 [],.own (KR 0 9) tB m2 []]]) Tryz.f21 ⟨21,1,11,4⟩
def gJ (m:Nat):Nat->T->T->T->T->T->T->T->T->T->T->T->T->T->T->T->T->T->T->T->T->T->T->T->T->(T->T->T->T->T->T->T->T->T->T->T->T->T->T->T->T->T->T->T->T->T->An)->(T->T->T->T->T->T->T->T->T->T->T->T->T->T->T->T->T->T->T->T->An)->An
 | 0,_,_,_,_,_,_,_,_,_,_,_,_,_,_,_,_,_,_,_,_,_,_,_,_,_,_=>.bad
 | n+1,x0,x1,x2,x3,x4,x5,x6,x7,x8,x9,x10,bT,eH,jK,nY,ug,uh,vB,x18,CG,x20,x21,IW,x23,k0,k1 =>
  cond (decide (x5.int<x4.int))
  (aY x5 x3
  (bg m (wL (aM x3 x5 1))
  (fun y2=>fP m (wL (aM x3 x5 3))
  (fun y3=>cond (decide ((x23.rows.length+1) * 4<=ay))
  (gJ m n (T.i (x0.int.toNat:Int)) (T.i (x1.int.toNat:Int)) (T.i (x2.int.toNat:Int)) x3 x4 (bq x5) x6 x7 x8 x9 x10 bT eH jK nY ug uh vB x18 CG x20 (wL x21) (wL IW) (T.l (x23.rows++[[(aM x3 x5 0),(wL y2),(aM x3 x5 2),(wL y3)]])) k0 k1)
  (.bad)))))
  (k0 (T.i (x0.int.toNat:Int)) (T.i (x1.int.toNat:Int)) (T.i (x2.int.toNat:Int)) x6 x7 x8 x9 x10 bT eH jK nY ug uh vB x18 CG x20 (wL x21) (wL IW) (wL x23))
def pW (m:Nat):Nat->T->T->T->T->T->T->T->T->T->T->T->T->T->T->T->T->T->T->T->T->T->T->T->(T->T->T->T->T->T->T->T->T->T->T->T->T->T->T->T->T->T->T->T->T->An)->(T->T->T->T->T->T->T->T->T->T->T->T->T->T->T->T->T->T->T->T->An)->An
 | 0,_,_,_,_,_,_,_,_,_,_,_,_,_,_,_,_,_,_,_,_,_,_,_,_,_=>.bad
 | n+1,x0,x1,x2,x3,x4,x5,x6,x7,x8,x9,x10,bT,eH,jK,nY,ug,uh,vB,x18,CG,x20,x21,IW,k0,k1 =>
  cond (decide (x5.int<x4.int))
  (aY x5 x3
  (bg m (wL (aM x3 x5 1))
  (fun y0=>fP m (wL (aM x3 x5 3))
  (fun y1=>gJ m n (T.i (x0.int.toNat:Int)) (T.i (x1.int.toNat:Int)) (T.i (x2.int.toNat:Int)) x3 x4 (bq x5) x6 x7 x8 x9 x10 bT eH jK nY ug uh vB x18 CG x20 (wL x21) (wL IW) (T.l [[(aM x3 x5 0),(wL y0),(aM x3 x5 2),(wL y1)]]) k0 k1))))
  (k1 (T.i (x0.int.toNat:Int)) (T.i (x1.int.toNat:Int)) (T.i (x2.int.toNat:Int)) x6 x7 x8 x9 x10 bT eH jK nY ug uh vB x18 CG x20 (wL x21) (wL IW))
def vW:Pack:=⟨[(1,EP 0),(2,EP 1),(3,EP 2)],[((KI 0),.box [LI,LI,LI,LD tJ,LD tC,LI]),((KI 1),.box [LI,LI,LI,LA (KI 4) tJ,LA (KI 5) tC,LI]),((KI 2),.box [LI,LI,LI,LA (KI 6) tJ,LD tC,LI]),([4000000],.gone),((KI 4),.row tJ [.F,.O m3,.F,.O [.F]] []),((KI 5),.row tC m2 []),((KI 6),.row tJ [.F,.O m3,.F,.O [.F]] [])]⟩
def vX:Pack:=⟨[(1,EP 0),(2,EP 1),(3,EP 2)],[((KI 0),.box [LI,LI,LI,LD tJ,LD tC,LI]),((KI 1),.box [LI,LI,LI,LA (KI 4) tJ,LA (KI 5) tC,LI]),((KI 2),.box [LI,LI,LI,LN tJ,LD tC,LI]),([4000000],.gone),((KI 4),.row tJ [.F,.O m3,.F,.O [.F]] []),((KI 5),.row tC m2 [])]⟩
def rM:Nat->T->T->T->T->T->T->(T->T->T->T->T->T->An)->An
 | 0,_,_,_,_,_,_,_=>.bad
 | m+1,x0,x1,x2,x3,x4,x5,k0 =>
  pW m m (T.i 0) (T.i 0) (T.i 0) (wL x3) (T.i (x3.rows.length:Int)) (T.i 0) x0 x1 x2 (wL x3) (wL x4) x5 (T.i 0) (T.i 0) (T.i 0) (T.i 0) x0 x1 x2 (wL x4) x5 (T.l []) (T.l [])
  (fun y4 y5 y6 y7 y8 y9 nK nE nN y13 oJ su vV uZ sU AU y20 y21 y22 y23 y24=>bP m (wL nE)
  (fun XR=>k0 uZ sU AU (wL y24) (wL XR) y21))
  (fun y25 Lu y27 y28 y29 Lv y31 y32 QK y34 Ub Vq Vr y38 y39 Py Zb XQ Zc Zd=>bP m (wL y32)
  (fun XT=>k0 y38 y39 Py (T.l []) (wL XT) XQ))
def Jb:PS CX aC:=fH Ja (FN 73 [.agg [AI,AI,AI,.dz tJ [],.dz tC [],AI]] 6 6 rM [.agg [RI,RI,RI,.own (KR 0 3) tJ [.F,.O m3,.F,.O [.F]] [],.own (KR 0 4) tC m2 [],RI]]) Tryz.f73 ⟨73,1,35,4⟩ [L2 [0,1,0,1,1,1] ⟨[(1,EP 0),(2,EP 1),(3,EP 2),(9,.one (LD tJ)),(10,.one (LI)),(11,.one (LI))],[((KI 0),.box [LI,LI,LI,LD tJ,LD tC,LI]),((KI 1),.box [LI,LI,LI,LA (KI 4) tJ,LA (KI 5) tC,LI]),((KI 2),.box [LI,LI,LI,LA (KI 6) tJ,LD tC,LI]),([4000000],.gone),((KI 4),.row tJ [.F,.O m3,.F,.O [.F]] []),((KI 5),.row tC m2 []),((KI 6),.row tJ [.F,.O m3,.F,.O [.F]] [])]⟩ 24 21 20 gJ (.exit 0) vW (.exit 0) vX,L2 [0,1,0,1,1,1] ⟨[(1,EP 0),(2,EP 1),(3,EP 2),(9,.one (LD tJ)),(10,.one (LI)),(11,.one (LI))],[((KI 0),.box [LI,LI,LI,LD tJ,LD tC,LI]),((KI 1),.box [LI,LI,LI,LA (KI 4) tJ,LA (KI 5) tC,LI]),((KI 2),.box [LI,LI,LI,LN tJ,LD tC,LI]),([4000000],.gone),((KI 4),.row tJ [.F,.O m3,.F,.O [.F]] []),((KI 5),.row tC m2 [])]⟩ 23 21 20 pW (.exit 0) vW (.exit 0) vX]
def gK (m:Nat):Nat->T->T->T->T->(T->An)->An
 | 0,_,_,_,_,_=>.bad
 | n+1,x0,x1,x2,x3,k0 =>
  cond (decide (x2.int<x1.int))
  (aY x2 x0
  (bg m (wL (aM x0 x2 3))
  (fun y0=>cond (decide ((x3.rows.length+1) * 5<=ay))
  (gK m n x0 x1 (bq x2) (T.l (x3.rows++[[(aM x0 x2 0),(aM x0 x2 1),(aM x0 x2 2),(wL y0),(aM x0 x2 4)]])) k0)
  (.bad))))
  (k0 (wL x3))
def oM:Nat->T->(T->An)->An
 | 0,_,_=>.bad
 | m+1,x0,k0 =>
  gK m m (wL x0) (T.i (x0.rows.length:Int)) (T.i 0) (T.l [])
  (fun y1=>k0 (wL y1))
def Jc:PS CX aC:=fH Jb (FN 74 [.one (.dz tW [])] 1 1 oM [.one (.own (KR 0 0) tW [.F,.F,.F,.O m3,.F] [])]) Tryz.f74 ⟨74,1,22,4⟩ [L1 [0,1,0,1,1] ⟨[(3,.one (LA (KI 0) tW)),(6,.one (LD tW)),(7,.one (LI)),(8,.one (LI))],[((KI 0),.row tW [.F,.F,.F,.O m3,.F] []),([4000000],.gone)]⟩ 4 1 gK (.exit 0) ⟨[(3,.one (LA (KI 0) tW))],[((KI 0),.row tW [.F,.F,.F,.O m3,.F] [])]⟩]
def iM (m:Nat):Nat->T->T->T->T->(T->An)->An
 | 0,_,_,_,_,_=>.bad
 | n+1,x0,x1,x2,x3,k0 =>
  cond (decide (x2.int<x1.int))
  (aY x2 x0
  (bg m (wL (aM x0 x2 2))
  (fun y0=>cond (decide ((x3.rows.length+1) * 3<=ay))
  (iM m n x0 x1 (bq x2) (T.l (x3.rows++[[(aM x0 x2 0),(aM x0 x2 1),(wL y0)]])) k0)
  (.bad))))
  (k0 (wL x3))
def qg:Nat->T->(T->An)->An
 | 0,_,_=>.bad
 | m+1,x0,k0 =>
  iM m m (wL x0) (T.i (x0.rows.length:Int)) (T.i 0) (T.l [])
  (fun y1=>k0 (wL y1))
def KO:PS CX aC:=fH Jc (FN 120 [.one (.dz tR [])] 1 1 qg [.one (.own (KR 0 0) tR [.F,.F,.O m3] [])]) Tryz.f120 ⟨120,1,22,4⟩ [L1 [0,1,0,1,1] ⟨[(3,.one (LA (KI 0) tR)),(6,.one (LD tR)),(7,.one (LI)),(8,.one (LI))],[((KI 0),.row tR [.F,.F,.O m3] []),([4000000],.gone)]⟩ 4 1 iM (.exit 0) ⟨[(3,.one (LA (KI 0) tR))],[((KI 0),.row tR [.F,.F,.O m3] [])]⟩]
def rQ:Nat->T->T->T->T->T->(T->T->T->T->T->An)->An
 | 0,_,_,_,_,_,_=>.bad
 | m+1,x0,x1,x2,x3,x4,k0 =>
  qg m (wL x1)
  (fun y0=>aW m (wL x3)
  (fun y1=>qg m (wL x4)
  (fun y2=>k0 x0 (wL y0) x2 (wL y1) (wL y2))))
def Jd:PS CX aC:=fH KO (FN 75 [.agg [AI,.dz tR [],AI,.dz tP [],.dz tR []]] 5 5 rQ [.agg [RI,.own (KR 0 1) tR [.F,.F,.O m3] [],RI,.own (KR 0 3) tP m2 [],.own (KR 0 4) tR [.F,.F,.O m3] []]]) Tryz.f75 ⟨75,1,17,4⟩
def gL (m:Nat):Nat->T->T->T->T->T->T->T->T->T->T->T->T->T->T->T->T->T->T->T->T->T->T->T->T->T->(T->T->T->T->T->T->T->T->T->T->T->T->T->T->T->T->T->T->T->T->T->T->An)->An
 | 0,_,_,_,_,_,_,_,_,_,_,_,_,_,_,_,_,_,_,_,_,_,_,_,_,_,_=>.bad
 | n+1,x0,x1,x2,x3,x4,x5,x6,x7,x8,x9,x10,bT,eH,jK,nY,ug,uh,vB,x18,CG,x20,x21,IW,x23,x24,k0 =>
  cond (decide (x4.int<x3.int))
  (aY x4 x2
  (bg m (wL (aM x2 x4 1))
  (fun XT=>cond (decide ((x24.rows.length+1) * 2<=ay))
  (gL m n (T.i (x0.int.toNat:Int)) (T.i (x1.int.toNat:Int)) x2 x3 (bq x4) x5 x6 x7 x8 x9 x10 bT eH (wL jK) (wL nY) (wL ug) (wL uh) (wL vB) (wL x18) (wL CG) (wL x20) (wL x21) (wL IW) (wL x23) (T.l (x24.rows++[[(aM x2 x4 0),(wL XT)]])) k0)
  (.bad))))
  (k0 (T.i (x0.int.toNat:Int)) (T.i (x1.int.toNat:Int)) x5 x6 x7 x8 x9 x10 bT eH (wL jK) (wL nY) (wL ug) (wL uh) (wL vB) (wL x18) (wL CG) (wL x20) (wL x21) (wL IW) (wL x23) (wL x24))
def gM (m:Nat):Nat->T->T->T->T->T->T->T->T->T->T->T->T->T->T->T->T->T->T->T->T->T->T->T->T->T->T->T->T->T->T->T->T->T->T->T->T->(T->T->T->T->T->T->T->T->T->T->T->T->T->T->T->T->T->T->T->T->T->T->T->T->T->T->T->T->T->T->T->T->T->An)->An
 | 0,_,_,_,_,_,_,_,_,_,_,_,_,_,_,_,_,_,_,_,_,_,_,_,_,_,_,_,_,_,_,_,_,_,_,_,_,_=>.bad
 | n+1,x0,x1,x2,x3,x4,x5,x6,x7,x8,x9,x10,bT,eH,jK,nY,ug,uh,vB,x18,CG,x20,x21,IW,x23,x24,x25,x26,x27,x28,x29,x30,x31,x32,x33,x34,x35,k0 =>
  cond (decide (x5.int<x4.int))
  (aY x5 x3
  (rQ m (aM x3 x5 0) (wL (aM x3 x5 1)) (aM x3 x5 2) (wL (aM x3 x5 3)) (wL (aM x3 x5 4))
  (fun y8 y9 nK nE nN=>cond (decide ((x32.rows.length+1) * 5<=ay))
  (gM m n (T.i (x0.int.toNat:Int)) (T.i (x1.int.toNat:Int)) (T.i (x2.int.toNat:Int)) x3 x4 (bq x5) x6 x7 x8 x9 x10 bT eH jK nY ug uh vB x18 CG x20 x21 IW x23 (wL x24) (wL x25) (wL x26) (wL x27) (wL x28) (wL x29) (wL x30) (wL x31) (T.l (x32.rows++[[y8,(wL y9),nK,(wL nE),(wL nN)]])) (wL x33) (wL x34) (wL x35) k0)
  (.bad))))
  (k0 (T.i (x0.int.toNat:Int)) (T.i (x1.int.toNat:Int)) (T.i (x2.int.toNat:Int)) x6 x7 x8 x9 x10 bT eH jK nY ug uh vB x18 CG x20 x21 IW x23 (wL x24) (wL x25) (wL x26) (wL x27) (wL x28) (wL x29) (wL x30) (wL x31) (wL x32) (wL x33) (wL x34) (wL x35))
def mF:Nat->T->T->T->T->T->T->T->T->T->T->(T->T->T->T->T->T->T->T->T->T->An)->An
 | 0,_,_,_,_,_,_,_,_,_,_,_=>.bad
 | m+1,x0,x1,x2,x3,x4,x5,x6,x7,x8,x9,k0 =>
  rM m x0 x1 x2 (wL x3) (wL x4) x5
  (fun y0 y1 y2 y3 y4 y5=>oM m (wL x7)
  (fun y6=>oM m (wL x8)
  (fun y7=>gM m m (T.i 0) (T.i 0) (T.i 0) (wL x6) (T.i (x6.rows.length:Int)) (T.i 0) x0 x1 x2 (wL x3) (wL x4) x5 (wL x6) (wL x7) (wL x8) (wL x9) (T.i 0) (T.i 0) (T.i 0) (T.i 0) y0 y1 y2 y5 (T.l []) (T.l []) (T.l []) (T.l []) (T.l []) (T.l []) (wL y3) (wL y4) (T.l []) (wL y6) (wL y7) (T.l [])
  (fun y13 oJ su vV uZ sU AU y20 y21 y22 y23 y24 y25 Lu y27 y28 y29 Lv y31 y32 QK y34 Ub Vq Vr y38 y39 Py Zb XQ Zc Zd XR=>gL m m (T.i (oJ.int.toNat:Int)) (T.i (su.int.toNat:Int)) y25 (T.i (y25.rows.length:Int)) (T.i 0) Lu y27 y28 y29 Lv y31 y32 QK (wL y34) (wL Ub) (wL Vq) (wL Vr) (wL y38) (wL y39) (wL Py) (wL Zb) (wL XQ) (wL Zc) (wL Zd) (wL XR)
  (fun y47 y48 y49 y50 y51 y52 y53 y54 y55 y56 y57 y58 y59 y60 y61 y62 y63 y64 y65 y66 y67 y68=>k0 y53 y54 y55 (wL y63) (wL y64) y56 (wL y65) (wL y66) (wL y67) (wL y68))))))
def Je:PS CX aC:=fH Jd (FN 36 [.agg [AI,AI,AI,.dz tJ [],.dz tC [],AI,.dz tS [],.dz tW [],.dz tW [],.dz tB []]] 10 10 mF [.agg [RI,RI,RI,.own (KR 0 3) tJ [.F,.O m3,.F,.O [.F]] [],.own (KR 0 4) tC m2 [],RI,.own (KR 0 6) tS [.F,.O [.F,.F,.O m3],.F,.O m2,.O [.F,.F,.O m3]] [],.own (KR 0 7) tW [.F,.F,.F,.O m3,.F] [],.own (KR 0 8) tW [.F,.F,.F,.O m3,.F] [],.own (KR 0 9) tB [.F,.O m3] []]]) Tryz.f36 ⟨36,1,53,4⟩ [L1 [0,1,0,1,1,1] ⟨[(2,EP 0),(3,EP 1),(34,.one (LD tB)),(35,.one (LI)),(36,.one (LI))],[((KI 0),.box [LI,LI,LI,LA (KI 3) tJ,LA (KI 4) tC,LI,LA (KI 5) tS,LA (KI 6) tW,LA (KI 7) tW,LA (KI 8) tB]),((KI 1),.box [LI,LI,LI,LA (KI 9) tJ,LA (KI 10) tC,LI,LA (KI 11) tS,LA (KI 12) tW,LA (KI 13) tW,LA (KI 14) tB]),([4000000],.gone),((KI 3),.row tJ [.F,.O m3,.F,.O [.F]] []),((KI 4),.row tC m2 []),((KI 5),.row tS [.F,.O [.F,.F,.O m3],.F,.O m2,.O [.F,.F,.O m3]] []),((KI 6),.row tW [.F,.F,.F,.O m3,.F] []),((KI 7),.row tW [.F,.F,.F,.O m3,.F] []),((KI 8),.row tB [.F,.O m3] []),((KI 9),.row tJ [.F,.O m3,.F,.O [.F]] []),((KI 10),.row tC m2 []),((KI 11),.row tS [.F,.O [.F,.F,.O m3],.F,.O m2,.O [.F,.F,.O m3]] []),((KI 12),.row tW [.F,.F,.F,.O m3,.F] []),((KI 13),.row tW [.F,.F,.F,.O m3,.F] []),((KI 14),.row tB [.F,.O m3] [])]⟩ 25 22 gL (.exit 2) ⟨[(2,EP 0),(3,EP 1)],[((KI 0),.box [LI,LI,LI,LA (KI 2) tJ,LA (KI 3) tC,LI,LA (KI 4) tS,LA (KI 5) tW,LA (KI 6) tW,LA (KI 7) tB]),((KI 1),.box [LI,LI,LI,LA (KI 8) tJ,LA (KI 9) tC,LI,LA (KI 10) tS,LA (KI 11) tW,LA (KI 12) tW,LA (KI 13) tB]),((KI 2),.row tJ [.F,.O m3,.F,.O [.F]] []),((KI 3),.row tC m2 []),((KI 4),.row tS [.F,.O [.F,.F,.O m3],.F,.O m2,.O [.F,.F,.O m3]] []),((KI 5),.row tW [.F,.F,.F,.O m3,.F] []),((KI 6),.row tW [.F,.F,.F,.O m3,.F] []),((KI 7),.row tB [.F,.O m3] []),((KI 8),.row tJ [.F,.O m3,.F,.O [.F]] []),((KI 9),.row tC m2 []),((KI 10),.row tS [.F,.O [.F,.F,.O m3],.F,.O m2,.O [.F,.F,.O m3]] []),((KI 11),.row tW [.F,.F,.F,.O m3,.F] []),((KI 12),.row tW [.F,.F,.F,.O m3,.F] []),((KI 13),.row tB [.F,.O m3] [])]⟩,L1 [0,1,0,1,1] ⟨[(1,EP 0),(2,EP 1),(3,EP 2),(19,.one (LD tS)),(20,.one (LI)),(21,.one (LI))],[((KI 0),.box [LI,LI,LI,LD tJ,LD tC,LI,LD tS,LD tW,LD tW,LD tB]),((KI 1),.box [LI,LI,LI,LA (KI 4) tJ,LA (KI 5) tC,LI,LA (KI 6) tS,LA (KI 7) tW,LA (KI 8) tW,LA (KI 9) tB]),((KI 2),.box [LI,LI,LI,LA (KI 10) tJ,LA (KI 11) tC,LI,LA (KI 12) tS,LA (KI 13) tW,LA (KI 14) tW,LA (KI 15) tB]),([4000000],.gone),((KI 4),.row tJ [.F,.O m3,.F,.O [.F]] []),((KI 5),.row tC m2 []),((KI 6),.row tS [.F,.O [.F,.F,.O m3],.F,.O m2,.O [.F,.F,.O m3]] []),((KI 7),.row tW [.F,.F,.F,.O m3,.F] []),((KI 8),.row tW [.F,.F,.F,.O m3,.F] []),((KI 9),.row tB [.F,.O m3] []),((KI 10),.row tJ [.F,.O m3,.F,.O [.F]] []),((KI 11),.row tC m2 []),((KI 12),.row tS [.F,.O [.F,.F,.O m3],.F,.O m2,.O [.F,.F,.O m3]] []),((KI 13),.row tW [.F,.F,.F,.O m3,.F] []),((KI 14),.row tW [.F,.F,.F,.O m3,.F] []),((KI 15),.row tB [.F,.O m3] [])]⟩ 36 33 gM (.exit 0) ⟨[(1,EP 0),(2,EP 1),(3,EP 2)],[((KI 0),.box [LI,LI,LI,LD tJ,LD tC,LI,LD tS,LD tW,LD tW,LD tB]),((KI 1),.box [LI,LI,LI,LA (KI 4) tJ,LA (KI 5) tC,LI,LA (KI 6) tS,LA (KI 7) tW,LA (KI 8) tW,LA (KI 9) tB]),((KI 2),.box [LI,LI,LI,LA (KI 10) tJ,LA (KI 11) tC,LI,LA (KI 12) tS,LA (KI 13) tW,LA (KI 14) tW,LA (KI 15) tB]),([4000000],.gone),((KI 4),.row tJ [.F,.O m3,.F,.O [.F]] []),((KI 5),.row tC m2 []),((KI 6),.row tS [.F,.O [.F,.F,.O m3],.F,.O m2,.O [.F,.F,.O m3]] []),((KI 7),.row tW [.F,.F,.F,.O m3,.F] []),((KI 8),.row tW [.F,.F,.F,.O m3,.F] []),((KI 9),.row tB [.F,.O m3] []),((KI 10),.row tJ [.F,.O m3,.F,.O [.F]] []),((KI 11),.row tC m2 []),((KI 12),.row tS [.F,.O [.F,.F,.O m3],.F,.O m2,.O [.F,.F,.O m3]] []),((KI 13),.row tW [.F,.F,.F,.O m3,.F] []),((KI 14),.row tW [.F,.F,.F,.O m3,.F] []),((KI 15),.row tB [.F,.O m3] [])]⟩]
def dD:Nat->T->T->T->(T->An)->An
 | 0,_,_,_,_=>.bad
 | m+1,x0,x1,x2,k0 =>
  cond ((decide (x0.int>=x1.int))==true)
  (k0 (T.b (decide (x0.int<=x2.int))))
  (k0 (T.b false))
def NV:PS CX aC:=fH Je (FN 33 [.one (AI),.one (AI),.one (AI)] 3 1 dD [.one (RB)]) Tryz.f33 ⟨33,3,15,64⟩
def jo:Nat->T->(T->An)->An
 | 0,_,_=>.bad
 | m+1,x0,k0 =>
  k0 (T.i (IntKind.i64.wrap ((IntKind.i64.wrap ((((cO x0).drop 1).getD 0 dflt).int * 1000))+(((cO x0).drop 2).getD 0 dflt).int)))
def EF:PS CX aC:=fH NV (FN 121 [.EB [.sc (.int .i64),.sc (.int .i64),.sc (.int .i64),.sl tJ,.sl tC,.sc (.int .i64)] []] 1 1 jo [.one (RI)]) Tryz.f121 ⟨121,1,13,4⟩
def nR:Nat->T->T->T->(T->An)->An
 | 0,_,_,_,_=>.bad
 | m+1,x0,x1,x2,k0 =>
  k0 (T.b (x0.int==((cO x2).getD 0 dflt).int))
def Aq:PS CX aC:=fH EF (FN 168 [.agg [AI,AB],.EB tI []] 3 1 nR [.one (RB)]) Tryz.f168 ⟨168,2,8,8⟩
def aR (m:Nat):Nat->T->T->T->T->(T->An)->An->An
 | 0,_,_,_,_,_,_=>.bad
 | n+1,x0,x1,x2,x3,k0,k1 =>
  cond (decide (x3.int<x2.int))
  (aY x3 x0
  (nR m (aM x0 x3 0) (aM x0 x3 1) (T.l [(cO x1)])
  (fun y0=>cond y0.bool
  (k0 x3)
  (aR m n x0 (T.l [(cO x1)]) x2 (bq x3) k0 k1))))
  (k1 )
def dK:Nat->T->T->(T->An)->An
 | 0,_,_,_=>.bad
 | m+1,x0,x1,k0 =>
  aR m m (wL x0) (T.l [(cO x1)]) (T.i (x0.rows.length:Int)) (T.i 0)
  (fun y1=>k0 y1)
  (k0 (T.i (-1)))
def lZ:PS CX aC:=fH Aq (FN 167 [.one (.dz tC []),.fn 168 [.EB tI []]] 2 1 dK [.one (RI)]) Tryz.f167 ⟨167,2,19,16⟩ [L2 [0,1,0,1] ⟨[(0,.one (LD tC)),(1,.fn 168 [.rp [([4000000],0)] tI []]),(7,.one (LI)),(8,.one (LI))],[([4000000],.gone)]⟩ 4 1 0 aR .ret ⟨[(4,.one (LI))],[]⟩ (.exit 0) ⟨[],[]⟩]
def jP:Nat->T->T->(T->An)->An
 | 0,_,_,_=>.bad
 | m+1,x0,x1,k0 =>
  dK m (T.l (((cO x0).drop 4).getD 0 dflt).rows) (T.l [[x1]])
  (fun y0=>k0 y0)
def CS:PS CX aC:=fH lZ (FN 122 [.EB [.sc (.int .i64),.sc (.int .i64),.sc (.int .i64),.sl tJ,.sl tC,.sc (.int .i64)] [],.one (AI)] 2 1 jP [.one (RI)]) Tryz.f122 ⟨122,2,11,16⟩
def rT:Nat->T->(T->An)->An
 | 0,_,_=>.bad
 | m+1,x0,k0 =>
  cond ((decide (x0.int>=97))==true)
  (cond ((decide (x0.int<=122))==false)
  (cond ((decide (x0.int>=48))==true)
  (k0 (T.b (decide (x0.int<=57))))
  (k0 (T.b false)))
  (k0 (T.b true)))
  (cond ((decide (x0.int>=48))==true)
  (k0 (T.b (decide (x0.int<=57))))
  (k0 (T.b false)))
def Jf:PS CX aC:=fH CS (FN 220 [.one (.sc (.int .u8) (.l []))] 1 1 rT [.one (RB)]) Tryz.f220 ⟨220,1,17,4⟩
def kr (m:Nat):Nat->T->T->(T->An)->An->An
 | 0,_,_,_,_=>.bad
 | n+1,x0,x1,k0,k1 =>
  cond (decide (x1.int<(x0.str.size:Int)))
  (cond (decide ((0:Int)<=x1.int/\x1.int<(x0.str.size:Int)))
  (rT m (T.i ((x0.str.data.toList.getD (Int.toNat x1.int) 0).toNat:Int))
  (fun y0=>cond (!y0.bool)
  (k0 (T.b false))
  (kr m n x0 (bq x1) k0 k1)))
  (.bad))
  (k1 )
def DR:Nat->T->(T->An)->An
 | 0,_,_=>.bad
 | m+1,x0,k0 =>
  kr m m x0 (T.i 0)
  (fun y1=>k0 y1)
  (k0 (T.b true))
def PN:PS CX aC:=fH Jf (FN 212 [.one (AS)] 1 1 DR [.one (RB)]) Tryz.f212 ⟨212,1,15,4⟩ [L2 [0,1,0,1] ⟨[(0,.one (LS)),(3,.one (LI))],[]⟩ 2 1 0 kr .ret ⟨[(2,.one (LB))],[]⟩ (.exit 0) ⟨[],[]⟩]
def xZ:Nat->T->(T->An)->An
 | 0,_,_=>.bad
 | m+1,x0,k0 =>
  dD m (T.i (x0.str.size:Int)) (T.i 1) (T.i 12)
  (fun y0=>cond (y0.bool==true)
  (DR m x0
  (fun y1=>k0 (T.b y1.bool)))
  (k0 (T.b false)))
def Tt:PS CX aC:=fH PN (FN 197 [.one (AS)] 1 1 xZ [.one (RB)]) Tryz.f197 ⟨197,1,10,4⟩
def Eo:Nat->T->T->T->(T->An)->An
 | 0,_,_,_,_=>.bad
 | m+1,x0,x1,x2,k0 =>
  jn (fun (j5:T->An) =>
  cond (x0.int==1)
  (j5 (T.b true))
  (j5 (T.b (x0.int==3))))
  (fun y0=>cond y0.bool
  (xZ m x1
  (fun y1=>cond (y1.bool==true)
  (k0 (T.b (decide ((x2.str.size:Int)<=20))))
  (k0 (T.b false))))
  (cond (x0.int==2)
  (xZ m x1
  (fun y3=>cond (y3.bool==true)
  (k0 (T.b (x2.str.toList==(⟨#[]⟩:ByteArray).toList)))
  (k0 (T.b false))))
  (k0 (T.b false))))
def Vv:PS CX aC:=fH Tt (FN 172 [.agg [AI,AS,AS]] 3 1 Eo [.one (RB)]) Tryz.f172 ⟨172,1,27,4⟩
def jG (m:Nat):Nat->T->T->T->T->(T->An)->(T->An)->An
 | 0,_,_,_,_,_,_=>.bad
 | n+1,x0,x1,x2,x3,k0,k1 =>
  cond (decide (x3.int<x2.int))
  (aY x3 x1
  (Eo m (aM x1 x3 0) (aM x1 x3 1) (aM x1 x3 2)
  (fun y0=>cond ((!y0.bool)==false)
  (cond ((decide (x3.int > 0))==true)
  (cond (decide ((0:Int)<=(IntKind.i64.wrap (x3.int-1))/\(IntKind.i64.wrap (x3.int-1))<(x0.rows.length:Int)))
  (cond ((Op.bytesLess (aM x1 x3 1).str.toList (((x0.rows.getD (Int.toNat (IntKind.i64.wrap (x3.int-1))) []).drop 1).getD 0 dflt).str.toList)||((aM x1 x3 1).str.toList==(((x0.rows.getD (Int.toNat (IntKind.i64.wrap (x3.int-1))) []).drop 1).getD 0 dflt).str.toList))
  (k0 (T.b false))
  (jG m n x0 x1 x2 (bq x3) k0 k1))
  (.bad))
  (jG m n x0 x1 x2 (bq x3) k0 k1))
  (k0 (T.b false)))))
  (k1 x0)
def qF:Nat->T->(T->An)->An
 | 0,_,_=>.bad
 | m+1,x0,k0 =>
  jG m m (wL x0) (wL x0) (T.i (x0.rows.length:Int)) (T.i 0)
  (fun y2=>k0 y2)
  (fun y3=>dD m (T.i (y3.rows.length:Int)) (T.i 1) (T.i 8)
  (fun y4=>k0 y4))
def Tv:PS CX aC:=fH Vv (FN 129 [.one (.dz tO [])] 1 1 qF [.one (RB)]) Tryz.f129 ⟨129,1,34,4⟩ [L2 [0,1,0,1] ⟨[(0,.one (LD tO)),(5,.one (LD tO)),(6,.one (LI)),(7,.one (LI))],[([4000000],.gone)]⟩ 4 1 1 jG .ret ⟨[(2,.one (LB))],[]⟩ (.exit 0) ⟨[(0,.one (LD tO))],[([4000000],.gone)]⟩]
def mG (m:Nat):Nat->T->T->T->(T->An)->An
 | 0,_,_,_,_=>.bad
 | n+1,x0,x1,x2,k0 =>
  cond (decide (x2.int<(x0.str.size:Int)))
  (cond (decide ((0:Int)<=x2.int/\x2.int<(x0.str.size:Int)))
  (mG m n x0 (T.i (IntKind.u32.wrap ((jw .u32 (BitVec.ofInt IntKind.u32.bits x1.int ^^^ BitVec.ofInt IntKind.u32.bits (IntKind.u32.wrap ((x0.str.data.toList.getD (Int.toNat x2.int) 0).toNat:Int)))).int * 16777619))) (bq x2) k0)
  (.bad))
  (k0 x1)
def Jg:Nat->T->(T->An)->An
 | 0,_,_=>.bad
 | m+1,x0,k0 =>
  mG m m x0 (T.i 2166136261) (T.i 0)
  (fun y0=>k0 (T.i (IntKind.i64.wrap y0.int)))
def Vw:PS CX aC:=fH Tv (FN 87 [.one (AS)] 1 1 Jg [.one (RI)]) Tryz.f87 ⟨87,1,21,4⟩ [L1 [0,1,0,1,1] ⟨[(0,.one (LS)),(3,.one (⟨.sc,.sc (.int .u32),.l []⟩)),(4,.one (LI))],[]⟩ 3 1 mG (.exit 0) ⟨[(3,.one (⟨.sc,.sc (.int .u32),.l []⟩))],[]⟩]
def rU:Nat->T->T->(T->An)->An
 | 0,_,_,_=>.bad
 | m+1,x0,x1,k0 =>
  cond (decide (x1.int<1))
  (k0 (T.i 0))
  (Jg m x0
  (fun y0=>cond (!decide (x1.int=0))
  (k0 (T.i (Int.tmod y0.int x1.int)))
  (.bad)))
def NY:PS CX aC:=fH Vw (FN 39 [.one (AS),.one (AI)] 2 1 rU [.one (RI)]) Tryz.f39 ⟨39,2,11,16⟩
def ng:Nat->T->(T->An)->An
 | 0,_,_=>.bad
 | m+1,x0,k0 =>
  cond (decide ((0:Int)<=(x0.rows.length:Int)/\(x0.rows.length:Int)<=(x0.rows.length:Int)/\(x0.rows.length:Int)<=(x0.rows.length:Int)))
  (cond (decide ((0:Int)<=0/\0<=(x0.rows.length:Int)))
  (k0 (T.l (x0.rows.take (Int.toNat (x0.rows.length:Int)))))
  (.bad))
  (.bad)
def zU:PS CX aC:=fH NY (FN 41 [.one (.fz tI [])] 1 1 ng [.one (.fz tI [])]) Tryz.f41 ⟨41,1,9,4⟩
def iN (m:Nat):Nat->T->T->T->T->T->(T->An)->An
 | 0,_,_,_,_,_,_=>.bad
 | n+1,x0,x1,x2,x3,x4,k0 =>
  cond (decide (x3.int<x2.int))
  (aY x3 x1
  (rU m (aM x1 x3 1) x0
  (fun y0=>cond (decide ((x4.rows.length+1) * 1<=ay))
  (iN m n x0 x1 x2 (bq x3) (T.l (x4.rows++[[y0]])) k0)
  (.bad))))
  (k0 (wL x4))
def nP:Nat->T->T->(T->An)->An
 | 0,_,_,_=>.bad
 | m+1,x0,x1,k0 =>
  iN m m x1 (wL x0) (T.i (x0.rows.length:Int)) (T.i 0) (T.l [])
  (fun y1=>DF m (wL y1)
  (fun y2=>slices_Compact m (wL y2)
  (fun y3=>ng m (wL y3)
  (fun y4=>k0 (wL y4)))))
def KP:PS CX aC:=fH zU (FN 12 [.one (.dz tO []),.one (AI)] 2 1 nP [.one (.fz tI [])]) Tryz.f12 ⟨12,2,27,16⟩ [L1 [0,1,0,1,1] ⟨[(1,.one (LI)),(5,.one (LA (KI 0) tI)),(8,.one (LD tO)),(9,.one (LI)),(10,.one (LI))],[((KI 0),.row tI [.F] []),([4000000],.gone)]⟩ 5 1 iN (.exit 0) ⟨[(5,.one (LA (KI 0) tI))],[((KI 0),.row tI [.F] [])]⟩]
def cZ (m:Nat):Nat->T->T->T->T->(T->An)->An->An
 | 0,_,_,_,_,_,_=>.bad
 | n+1,x0,x1,x2,x3,k0,k1 =>
  cond (decide (x3.int<x2.int))
  (aY x3 x0
  (cond (x1.int==(aM x0 x3 0).int)
  (k0 x3)
  (cZ m n x0 x1 x2 (bq x3) k0 k1)))
  (k1 )
def mH:Nat->T->T->(T->An)->An
 | 0,_,_,_=>.bad
 | m+1,x0,x1,k0 =>
  cZ m m (wL x0) x1 (T.i (x0.rows.length:Int)) (T.i 0)
  (fun y0=>k0 y0)
  (k0 (T.i (-1)))
def yC:PS CX aC:=fH KP (FN 173 [.one (.dz tI []),.one (AI)] 2 1 mH [.one (RI)]) Tryz.f173 ⟨173,2,19,16⟩ [L2 [0,1,0,1] ⟨[(0,.one (LD tI)),(1,.one (LI)),(7,.one (LI)),(8,.one (LI))],[([4000000],.gone)]⟩ 4 1 0 cZ .ret ⟨[(4,.one (LI))],[]⟩ (.exit 0) ⟨[],[]⟩]
def gy:Nat->T->T->(T->An)->An
 | 0,_,_,_=>.bad
 | m+1,x0,x1,k0 =>
  mH m (wL x0) x1
  (fun y0=>k0 (T.b (decide (y0.int>=0))))
def vL:PS CX aC:=fH yC (FN 136 [.one (.dz tI []),.one (AI)] 2 1 gy [.one (RB)]) Tryz.f136 ⟨136,2,9,16⟩
def fD (m:Nat):Nat->T->T->T->T->T->T->T->T->T->T->(T->An)->(T->T->T->T->T->T->An)->An
 | 0,_,_,_,_,_,_,_,_,_,_,_,_=>.bad
 | n+1,x0,x1,x2,x3,x4,x5,x6,x7,x8,x9,k0,k1 =>
  cond (decide (x5.int<x4.int))
  ((fun (j10:T->An) =>
  aY x5 x3
  (gy m (wL x2) (aM x3 x5 0)
  (fun y6=>cond ((!y6.bool)==false)
  (cond ((decide (x5.int > 0))==true)
  (cond (decide ((0:Int)<=(IntKind.i64.wrap (x5.int-1))/\(IntKind.i64.wrap (x5.int-1))<(x9.rows.length:Int)))
  (cond (decide ((aM x3 x5 0).int<=((x9.rows.getD (Int.toNat (IntKind.i64.wrap (x5.int-1))) []).getD 0 dflt).int))
  (k0 (T.b false))
  (j10 (T.l [(cO x0)])))
  (.bad))
  (j10 (T.l [(cO x0)])))
  (k0 (T.b false)))))
  (fun y9=>fD m n (T.l [(cO y9)]) (T.i (x1.int.toNat:Int)) x2 x3 x4 (bq x5) x6 x7 x8 x9 k0 k1))
  (k1 (T.l [(cO x0)]) (T.i (x1.int.toNat:Int)) x6 x7 x8 x9)
def pE:Nat->T->T->T->T->T->(T->An)->An
 | 0,_,_,_,_,_,_=>.bad
 | m+1,x0,x1,x2,x3,x4,k0 =>
  jn (fun (j21:T->An) =>
  jo m (T.l [((cO x0).take 6)])
  (fun y0=>dD m x1 (T.i (IntKind.i64.wrap ((((cO x0).drop 1).getD 0 dflt).int * 1000))) (T.i (IntKind.i64.wrap (y0.int-1)))
  (fun y1=>cond ((!y1.bool)==false)
  (qF m (wL x2)
  (fun y2=>cond (!y2.bool)
  (k0 (T.b false))
  (j21 (T.l [(cO x0)]))))
  (k0 (T.b false)))))
  (fun y4=>nP m (wL x2) ((cO y4).getD 0 dflt)
  (fun y5=>fD m m (T.l [(cO y4)]) (T.i 0) (wL y5) (wL x4) (T.i (x4.rows.length:Int)) (T.i 0) x1 (wL x2) x3 (wL x4)
  (fun nE=>k0 nE)
  (fun nN y13 oJ su vV uZ=>jP m (T.l [((cO nN).take 6)]) oJ
  (fun sU=>cond (vV.int==1)
  (k0 (T.b (decide (sU.int<0))))
  (cond (vV.int==2)
  (cond ((decide (sU.int>=0))==true)
  (aY sU (((cO nN).drop 4).getD 0 dflt)
  (k0 (T.b ((((((cO nN).drop 4).getD 0 dflt).rows.getD (Int.toNat sU.int) []).drop 1).getD 0 dflt).bool)))
  (k0 (T.b false)))
  (cond (vV.int==3)
  (cond ((decide (sU.int>=0))==true)
  (aY sU (((cO nN).drop 4).getD 0 dflt)
  (k0 (T.b (!((((((cO nN).drop 4).getD 0 dflt).rows.getD (Int.toNat sU.int) []).drop 1).getD 0 dflt).bool))))
  (k0 (T.b false)))
  (k0 (T.b false))))))))
def FK:PS CX aC:=fH vL (FN 123 [.EB [.sc (.int .i64),.sc (.int .i64),.sc (.int .i64),.sl tJ,.sl tC,.sc (.int .i64)] [],.agg [AI,.dz tO [],AI,.dz tI []]] 5 1 pE [.one (RB)]) Tryz.f123 ⟨123,2,100,16⟩ [L2 [0,1,0,1,1,1] ⟨[(0,.rp [([4000000],0)] [.sc (.int .i64),.sc (.int .i64),.sc (.int .i64),.sl tJ,.sl tC,.sc (.int .i64)] []),(3,EP 1),(5,.one (LZ tI)),(35,.one (LD tI)),(36,.one (LI)),(37,.one (LI))],[([4000000],.gone),((KI 1),.box [LI,LD tO,LI,LD tI])]⟩ 10 1 6 fD .ret ⟨[(4,.one (LB))],[]⟩ (.exit 0) ⟨[(0,.rp [([4000000],0)] [.sc (.int .i64),.sc (.int .i64),.sc (.int .i64),.sl tJ,.sl tC,.sc (.int .i64)] []),(3,EP 1)],[([4000000],.gone),((KI 1),.box [LI,LD tO,LI,LD tI])]⟩]
def gB (m:Nat):Nat->T->T->T->T->T->T->T->T->T->T->(T->An)->An->An
 | 0,_,_,_,_,_,_,_,_,_,_,_,_=>.bad
 | n+1,x0,x1,x2,x3,x4,x5,x6,x7,x8,x9,k0,k1 =>
  cond (decide (x3.int<x2.int))
  (aY x3 x1
  (pE m (T.l [[x4,x5,x6,(wL x7),(wL x8),x9]]) (aM x1 x3 0) (wL (aM x1 x3 1)) (aM x1 x3 2) (wL (aM x1 x3 3))
  (fun uZ=>cond ((!uZ.bool)==false)
  (cond ((decide (x3.int > 0))==true)
  (cond (decide ((0:Int)<=(IntKind.i64.wrap (x3.int-1))/\(IntKind.i64.wrap (x3.int-1))<(x7.rows.length:Int)))
  (cond (decide ((aM x1 x3 0).int<=((x7.rows.getD (Int.toNat (IntKind.i64.wrap (x3.int-1))) []).getD 0 dflt).int))
  (k0 (T.b false))
  (gB m n (T.i (x0.int.toNat:Int)) x1 x2 (bq x3) x4 x5 x6 x7 x8 x9 k0 k1))
  (.bad))
  (gB m n (T.i (x0.int.toNat:Int)) x1 x2 (bq x3) x4 x5 x6 x7 x8 x9 k0 k1))
  (k0 (T.b false)))))
  (k1 )
def jq (m:Nat):Nat->T->T->T->T->T->T->T->T->T->T->(T->An)->(T->T->T->T->T->T->T->An)->An
 | 0,_,_,_,_,_,_,_,_,_,_,_,_=>.bad
 | n+1,x0,x1,x2,x3,x4,x5,x6,x7,x8,x9,k0,k1 =>
  cond (decide (x3.int<x2.int))
  (aY x3 x1
  (jo m (T.l [[x4,x5,x6,(wL x7),(wL x8),x9]])
  (fun y5=>dD m (aM x1 x3 0) (T.i 1000) (T.i (IntKind.i64.wrap (y5.int-1)))
  (fun y6=>cond ((!y6.bool)==false)
  (jP m (T.l [[x4,x5,x6,(wL x7),(wL x8),x9]]) (aM x1 x3 0)
  (fun y7=>cond (y7.int != x3.int)
  (k0 (T.b false))
  (jq m n (T.i (x0.int.toNat:Int)) x1 x2 (bq x3) x4 x5 x6 x7 x8 x9 k0 k1)))
  (k0 (T.b false))))))
  (k1 (T.i (x0.int.toNat:Int)) x4 x5 x6 x7 x8 x9)
def wK:Nat->T->T->T->T->T->T->(T->An)->An
 | 0,_,_,_,_,_,_,_=>.bad
 | m+1,x0,x1,x2,x3,x4,x5,k0 =>
  jn (fun (j20:An) =>
  dD m x0 (T.i 1) (T.i 8)
  (fun y0=>cond ((!y0.bool)==false)
  (dD m x1 (T.i 1) (T.i 900)
  (fun y1=>cond ((!y1.bool)==false)
  (dD m x2 (T.i 0) (T.i 999)
  (fun y2=>cond ((!y2.bool)==false)
  (cond ((decide ((x4.rows.length:Int) > 1000))==false)
  (dD m x5 (T.i 0) (T.i (x4.rows.length:Int))
  (fun y3=>cond (!y3.bool)
  (k0 (T.b false))
  (j20)))
  (k0 (T.b false)))
  (k0 (T.b false))))
  (k0 (T.b false))))
  (k0 (T.b false))))
  (jq m m (T.i 0) (wL x4) (T.i (x4.rows.length:Int)) (T.i 0) x0 x1 x2 (wL x3) (wL x4) x5
  (fun y9=>k0 y9)
  (fun nK nE nN y13 oJ su vV=>gB m m (T.i (nK.int.toNat:Int)) oJ (T.i (oJ.rows.length:Int)) (T.i 0) nE nN y13 oJ su vV
  (fun AU=>k0 AU)
  (k0 (T.b true))))
def NZ:PS CX aC:=fH FK (FN 77 [.agg [AI,AI,AI,.dz tJ [],.dz tC [],AI]] 6 1 wK [.one (RB)]) Tryz.f77 ⟨77,1,88,4⟩ [L2 [0,1,0,1,1,1] ⟨[(1,EP 0),(61,.one (LD tJ)),(62,.one (LI)),(63,.one (LI))],[((KI 0),.box [LI,LI,LI,LD tJ,LD tC,LI]),([4000000],.gone)]⟩ 10 1 0 gB .ret ⟨[(2,.one (LB))],[]⟩ (.exit 2) ⟨[],[]⟩,L2 [0,1,0,1,1] ⟨[(1,EP 0),(39,.one (LD tC)),(40,.one (LI)),(41,.one (LI))],[((KI 0),.box [LI,LI,LI,LD tJ,LD tC,LI]),([4000000],.gone)]⟩ 10 1 7 jq .ret ⟨[(2,.one (LB))],[]⟩ (.exit 0) ⟨[(1,EP 0)],[((KI 0),.box [LI,LI,LI,LD tJ,LD tC,LI]),([4000000],.gone)]⟩]
def sW:Nat->T->(T->An)->An
 | 0,_,_=>.bad
 | m+1,x0,k0 =>
  dD m x0 (T.i 0) (T.i 7)
  (fun y0=>k0 y0)
def Vx:PS CX aC:=fH NZ (FN 72 [.one (AI)] 1 1 sW [.one (RB)]) Tryz.f72 ⟨72,1,5,4⟩
def pF:Nat->T->(T->An)->An
 | 0,_,_=>.bad
 | m+1,x0,k0 =>
  dD m x0 (T.i 1) (T.i 1000000)
  (fun y0=>k0 y0)
def Vy:PS CX aC:=fH Vx (FN 171 [.one (AI)] 1 1 pF [.one (RB)]) Tryz.f171 ⟨171,1,5,4⟩
def BU:Nat->T->T->T->(T->An)->An
 | 0,_,_,_,_=>.bad
 | m+1,x0,x1,x2,k0 =>
  cond (x0.int==1)
  (pF m x1
  (fun y0=>cond (y0.bool==true)
  (qF m (wL x2)
  (fun y1=>k0 (T.b y1.bool)))
  (k0 (T.b false))))
  (cond (x0.int==2)
  (pF m x1
  (fun y6=>cond (y6.bool==true)
  (k0 (T.b ((x2.rows.length:Int)==0)))
  (k0 (T.b false))))
  (cond (x0.int==3)
  (pF m x1
  (fun y8=>cond (y8.bool==true)
  (k0 (T.b ((x2.rows.length:Int)==0)))
  (k0 (T.b false))))
  (k0 (T.b false))))
def Tw:PS CX aC:=fH Vy (FN 169 [.agg [AI,AI,.dz tO []]] 3 1 BU [.one (RB)]) Tryz.f169 ⟨169,1,27,4⟩
def lC (m:Nat):Nat->T->T->T->(T->An)->An->An
 | 0,_,_,_,_,_=>.bad
 | n+1,x0,x1,x2,k0,k1 =>
  cond (decide (x2.int>=0))
  (aY x2 x0
  (cond ((qB x0 x2 1).int==x1.int)
  (k0 x2)
  (lC m n x0 x1 (T.i (IntKind.i64.wrap (x2.int-1))) k0 k1)))
  (k1 )
def yc:Nat->T->T->(T->An)->An
 | 0,_,_,_=>.bad
 | m+1,x0,x1,k0 =>
  lC m m (wL x0) x1 (T.i (IntKind.i64.wrap ((x0.rows.length:Int)-1)))
  (fun y0=>k0 y0)
  (k0 (T.i (-1)))
def Tx:PS CX aC:=fH Tw (FN 182 [.one (.dz tR []),.one (AI)] 2 1 yc [.one (RI)]) Tryz.f182 ⟨182,2,21,16⟩ [L2 [0,1,0,1] ⟨[(0,.one (LD tR)),(1,.one (LI)),(5,.one (LI))],[([4000000],.gone)]⟩ 3 1 0 lC .ret ⟨[(4,.one (LI))],[]⟩ (.exit 0) ⟨[],[]⟩]
def gN (m:Nat):Nat->T->T->T->T->T->T->T->T->T->T->T->T->T->T->(T->An)->(T->T->T->T->T->T->T->An)->An
 | 0,_,_,_,_,_,_,_,_,_,_,_,_,_,_,_,_=>.bad
 | n+1,x0,x1,x2,x3,x4,x5,x6,x7,x8,x9,x10,bT,eH,jK,k0,k1 =>
  cond (decide (x10.int<x9.int))
  (aY x10 x8
  (cond ((aM x8 x10 1).str.toList==eH.str.toList)
  (k0 (T.b true))
  (gN m n x0 (T.i (x1.int.toNat:Int)) x2 x3 x4 x5 x6 x7 x8 x9 (bq x10) bT eH jK k0 k1)))
  (k1 x0 x2 x3 x4 x5 x6 x7)
def gP (m:Nat):Nat->T->T->T->T->T->T->T->(T->An)->(T->T->T->T->An)->An
 | 0,_,_,_,_,_,_,_,_,_=>.bad
 | n+1,x0,x1,x2,x3,x4,x5,x6,k0,k1 =>
  cond (decide (x6.int<x5.int))
  (aY x6 x4
  (gN m n x0 (T.i 0) x1 x2 x3 x4 x5 x6 x0 (T.i (x0.rows.length:Int)) (T.i 0) (aM x4 x6 0) (aM x4 x6 1) (aM x4 x6 2)
  (fun y0=>k0 y0)
  (fun y1 y2 y3 y4 y5 y6 y7=>gP m n y1 y2 y3 y4 y5 y6 (bq y7) k0 k1)))
  (k1 x0 x1 x2 x3)
def gQ (m:Nat):Nat->T->T->T->T->(T->An)->An->An
 | 0,_,_,_,_,_,_=>.bad
 | n+1,x0,x1,x2,x3,k0,k1 =>
  cond (decide (x3.int<x2.int))
  (aY x3 x1
  (gP m n x0 x1 x2 x3 (aM x1 x3 2) (T.i ((aM x1 x3 2).rows.length:Int)) (T.i 0)
  (fun y8=>k0 y8)
  (fun y9 nK nE nN=>gQ m n y9 nK nE (bq nN) k0 k1)))
  (k1 )
def rV:Nat->T->T->(T->An)->An
 | 0,_,_,_=>.bad
 | m+1,x0,x1,k0 =>
  gQ m m (wL x1) (wL x0) (T.i (x0.rows.length:Int)) (T.i 0)
  (fun y13=>k0 y13)
  (k0 (T.b false))
def Jh:PS CX aC:=fH Tx (FN 196 [.one (.dz tR []),.one (.dz tO [])] 2 1 rV [.one (RB)]) Tryz.f196 ⟨196,2,38,16⟩ [L2 [0,1,1,0,0,1,1,0,0,1,1,0,0,1,1,0,0,1,0,1] ⟨[(1,.one (LD tO)),(8,EP 1),(11,.one (LD tR)),(12,.one (LI)),(13,.one (LI)),(18,.one (LD tO)),(19,.one (LI)),(20,.one (LI)),(24,.one (LD tO)),(25,.one (LI)),(26,.one (LI))],[([4000000],.gone),((KI 1),.box [LI,LS,LS])]⟩ 14 1 7 gN .ret ⟨[(4,.one (LB))],[]⟩ (.exit 4) ⟨[(1,.one (LD tO)),(11,.one (LD tR)),(12,.one (LI)),(13,.one (LI)),(18,.one (LD tO)),(19,.one (LI)),(20,.one (LI))],[([4000000],.gone)]⟩,L2 [0,1,1,0,0,1,1,0,0,1,0,1] ⟨[(1,.one (LD tO)),(11,.one (LD tR)),(12,.one (LI)),(13,.one (LI)),(18,.one (LD tO)),(19,.one (LI)),(20,.one (LI))],[([4000000],.gone)]⟩ 7 1 4 gP .ret ⟨[(4,.one (LB))],[]⟩ (.exit 2) ⟨[(1,.one (LD tO)),(11,.one (LD tR)),(12,.one (LI)),(13,.one (LI))],[([4000000],.gone)]⟩,L2 [0,1,0,1] ⟨[(1,.one (LD tO)),(11,.one (LD tR)),(12,.one (LI)),(13,.one (LI))],[([4000000],.gone)]⟩ 4 1 0 gQ .ret ⟨[(4,.one (LB))],[]⟩ (.exit 0) ⟨[],[]⟩]
def zV:Nat->T->T->T->(T->An)->An
 | 0,_,_,_,_=>.bad
 | m+1,x0,x1,x2,k0 =>
  k0 (T.b (x0.str.toList==((cO x2).getD 0 dflt).str.toList))
def KQ:PS CX aC:=fH Jh (FN 150 [.agg [AS,AS],.EB tT []] 3 1 zV [.one (RB)]) Tryz.f150 ⟨150,2,8,8⟩
def aZ (m:Nat):Nat->T->T->T->T->(T->An)->An->An
 | 0,_,_,_,_,_,_=>.bad
 | n+1,x0,x1,x2,x3,k0,k1 =>
  cond (decide (x3.int<x2.int))
  (aY x3 x0
  (zV m (aM x0 x3 0) (aM x0 x3 1) (T.l [(cO x1)])
  (fun y0=>cond y0.bool
  (k0 x3)
  (aZ m n x0 (T.l [(cO x1)]) x2 (bq x3) k0 k1))))
  (k1 )
def dU:Nat->T->T->(T->An)->An
 | 0,_,_,_=>.bad
 | m+1,x0,x1,k0 =>
  aZ m m (wL x0) (T.l [(cO x1)]) (T.i (x0.rows.length:Int)) (T.i 0)
  (fun y1=>k0 y1)
  (k0 (T.i (-1)))
def nL:PS CX aC:=fH KQ (FN 149 [.one (.dz tP []),.fn 150 [.EB tT []]] 2 1 dU [.one (RI)]) Tryz.f149 ⟨149,2,19,16⟩ [L2 [0,1,0,1] ⟨[(0,.one (LD tP)),(1,.fn 150 [.rp [([4000000],0)] tT []]),(7,.one (LI)),(8,.one (LI))],[([4000000],.gone)]⟩ 4 1 0 aZ .ret ⟨[(4,.one (LI))],[]⟩ (.exit 0) ⟨[],[]⟩]
def u7:Nat->T->T->(T->An)->An
 | 0,_,_,_=>.bad
 | m+1,x0,x1,k0 =>
  dU m (wL x0) (T.l [[x1]])
  (fun y0=>k0 y0)
def PO:PS CX aC:=fH nL (FN 91 [.one (.dz tP []),.one (AS)] 2 1 u7 [.one (RI)]) Tryz.f91 ⟨91,2,8,16⟩
def zn:Nat->T->T->(T->T->An)->An
 | 0,_,_,_=>.bad
 | m+1,x0,x1,k0 =>
  u7 m (wL x0) x1
  (fun y0=>cond (decide (y0.int<0))
  (k0 (T.s (⟨#[]⟩:ByteArray)) (T.b false))
  (aY y0 x0
  (k0 (qB x0 y0 1) (T.b true))))
def PU:PS CX aC:=fH PO (FN 46 [.one (.dz tP []),.one (AS)] 2 2 zn [.one (RS),.one (RB)]) Tryz.f46 ⟨46,2,17,48⟩
def jH (m:Nat):Nat->T->T->T->T->(T->An)->An->An
 | 0,_,_,_,_,_,_=>.bad
 | n+1,x0,x1,x2,x3,k0,k1 =>
  cond (decide (x3.int<x2.int))
  (aY x3 x1
  (cond ((aM x1 x3 0).int != 3)
  (jH m n x0 x1 x2 (bq x3) k0 k1)
  (zn m (wL x0) (aM x1 x3 1)
  (fun y0 y1=>cond ((!(y1.bool==(!((aM x1 x3 2).str.toList==(⟨#[]⟩:ByteArray).toList))))==false)
  (cond (!(y0.str.toList==(aM x1 x3 2).str.toList))
  (k0 (T.b false))
  (jH m n x0 x1 x2 (bq x3) k0 k1))
  (k0 (T.b false))))))
  (k1 )
def BX:Nat->T->T->(T->An)->An
 | 0,_,_,_=>.bad
 | m+1,x0,x1,k0 =>
  jH m m (wL x0) (wL x1) (T.i (x1.rows.length:Int)) (T.i 0)
  (fun y3=>k0 y3)
  (k0 (T.b true))
def Tz:PS CX aC:=fH PU (FN 16 [.one (.dz tP []),.one (.dz tO [])] 2 1 BX [.one (RB)]) Tryz.f16 ⟨16,2,37,16⟩ [L2 [0,1,0,1] ⟨[(0,.one (LD tP)),(9,.one (LD tO)),(10,.one (LI)),(11,.one (LI))],[([4000000],.gone)]⟩ 4 1 0 jH .ret ⟨[(4,.one (LB))],[]⟩ (.exit 0) ⟨[],[]⟩]
def ku (m:Nat):Nat->T->T->T->T->(T->T->T->T->An)->An
 | 0,_,_,_,_,_=>.bad
 | n+1,x0,x1,x2,x3,k0 =>
  cond ((decide (x2.int<(x3.rows.length:Int)))==true)
  (aY x2 x3
  (cond (decide ((Int.toNat x2.int)<x3.rows.length))
  (cond ((Op.bytesLess (aM x3 x2 0).str.toList x0.str.toList)||((aM x3 x2 0).str.toList==x0.str.toList))
  (ku m n x0 x1 (bq x2) (wL x3) k0)
  (k0 x0 x1 x2 (wL x3)))
  (.bad)))
  (k0 x0 x1 x2 (wL x3))
def vg:Nat->T->T->T->(T->An)->An
 | 0,_,_,_,_=>.bad
 | m+1,x0,x1,x2,k0 =>
  u7 m (wL x0) x1
  (fun y0=>cond (decide (y0.int>=0))
  (aY y0 x0
  (cond (decide ((Int.toNat y0.int)<x0.rows.length))
  (k0 (T.l (x0.rows.set (Int.toNat y0.int) ((x0.rows.getD (Int.toNat y0.int) []).set 1 x2))))
  (.bad)))
  (ku m m x1 x2 (T.i 0) (wL x0)
  (fun y2 y3 y4 y5=>fq m (wL y5) y4 (T.l [[y2,y3]])
  (fun y6=>k0 (wL y6)))))
def PV:PS CX aC:=fH Tz (FN 48 [.one (.own tP m2 []),.one (AS),.one (AS)] 3 1 vg [.one (.own (KR 0 0) tP m2 [])]) Tryz.f48 ⟨48,3,42,65⟩ [L1 [0,0,1,1,1] ⟨[(0,.one (LA [0,0] tP)),(1,.one (LS)),(2,.one (LS)),(8,.one (LI))],[([0,0],.row tP m2 [])]⟩ 4 4 ku (.exit 0) ⟨[(0,.one (LA [0,0] tP)),(1,.one (LS)),(2,.one (LS)),(8,.one (LI))],[([0,0],.row tP m2 [])]⟩]
def gY (m:Nat):Nat->T->T->T->T->(T->An)->An
 | 0,_,_,_,_,_=>.bad
 | n+1,x0,x1,x2,x3,k0 =>
  cond (decide (x2.int<x1.int))
  (aY x2 x0
  (cond ((aM x0 x2 0).int==1)
  (vg m (wL x3) (aM x0 x2 1) (aM x0 x2 2)
  (fun y1=>gY m n x0 x1 (bq x2) (wL y1) k0))
  (cond ((aM x0 x2 0).int==2)
  (yX m (wL x3) (aM x0 x2 1)
  (fun y2=>gY m n x0 x1 (bq x2) (wL y2) k0))
  (gY m n x0 x1 (bq x2) (wL x3) k0))))
  (k0 (wL x3))
def yg:Nat->T->T->(T->An)->An
 | 0,_,_,_=>.bad
 | m+1,x0,x1,k0 =>
  aW m (wL x0)
  (fun y0=>gY m m (wL x1) (T.i (x1.rows.length:Int)) (T.i 0) (wL y0)
  (fun y6=>k0 (wL y6)))
def TA:PS CX aC:=fH PV (FN 17 [.one (.dz tP []),.one (.dz tO [])] 2 1 yg [.one (.own (KR 0 0) tP m2 [])]) Tryz.f17 ⟨17,2,34,16⟩ [L1 [0,1,0,1,1] ⟨[(5,.one (LA (KI 0) tP)),(10,.one (LD tO)),(11,.one (LI)),(12,.one (LI))],[((KI 0),.row tP m2 []),([4000000],.gone)]⟩ 4 1 gY (.exit 0) ⟨[(5,.one (LA (KI 0) tP))],[((KI 0),.row tP m2 [])]⟩]
def qp:Nat->T->T->T->T->T->T->(T->T->T->An)->(T->T->T->T->An)->An
 | 0,_,_,_,_,_,_,_,_=>.bad
 | m+1,x0,x1,x2,x3,x4,x5,k0,k1 =>
  yc m (wL x5) x3
  (fun y0=>cond (x2.int==1)
  ((fun (j5:An) =>
  cond ((decide (y0.int>=0))==false)
  (rV m (wL x1) (wL x4)
  (fun y1=>cond (y1.bool==false)
  (BX m (wL x0) (wL x4)
  (fun y2=>cond (!y2.bool)
  (k0 (T.b false) (wL x0) (wL x1))
  (j5)))
  (k0 (T.b false) (wL x0) (wL x1))))
  (k0 (T.b false) (wL x0) (wL x1)))
  (bg m (wL x4)
  (fun y4=>cond (decide ((x1.rows.length+1) * 3<=ay))
  (k0 (T.b true) (wL x0) (T.l (x1.rows++[[(T.i 1),x3,(wL y4)]])))
  (.bad))))
  (yc m (wL x1) x3
  (fun y6=>cond (decide (y6.int<0))
  (cond ((x2.int==3)==true)
  (k0 (T.b (!(decide (y0.int>=0)))) (wL x0) (wL x1))
  (k0 (T.b false) (wL x0) (wL x1)))
  (cond (x2.int==2)
  (aY y6 x1
  (cond (decide ((Int.toNat y6.int)<x1.rows.length))
  (yg m (wL x0) (wL (aM x1 y6 2))
  (fun y8=>bY m (wL x1) y6 (bq y6)
  (fun y9=>k1 (T.b (decide ((y8.rows.length:Int)<=60))) (wL x0) (wL y8) (wL y9))))
  (.bad)))
  (bY m (wL x1) y6 (bq y6)
  (fun nK=>k0 (T.b (decide ((x0.rows.length:Int)<=60))) (wL x0) (wL nK)))))))
def Hq:PS CX aC:=fH TA (F2 170 [.bx [.own tP m2 [],.own tR m3 []],.agg [AI,AI,.dz tO []],.one (.dz tR [])] 6 3 4 qp ⟨[.one (RB)],[[none,none],[none,none,none],[none]],[some [.own (KR 1000 0) tP m2 [],.own (KR 1000 1) tR m3 []],none,none]⟩ ⟨[.one (RB)],[[some (tP,m2,[]),none],[none,none,none],[none]],[some [.own (KR 1000 0) tP m2 [],.own (KR 1000 1) tR m3 []],none,none]⟩) Tryz.f170 ⟨170,3,104,65⟩
def eD (m:Nat):Nat->T->T->T->T->T->T->T->(T->T->T->An)->(T->T->T->An)->An
 | 0,_,_,_,_,_,_,_,_,_=>.bad
 | n+1,x0,x1,x2,x3,x4,x5,x6,k0,k1 =>
  cond (decide (x4.int<x3.int))
  ((fun (j15:T->T->An) =>
  aY x4 x2
  (BU m (aM x2 x4 0) (aM x2 x4 1) (wL (aM x2 x4 2))
  (fun y0=>cond ((!y0.bool)==false)
  (cond (decide ((0:Int)<=x4.int/\x4.int<=(x0.rows.length:Int)))
  (cond (decide ((0:Int)<=0/\0<=x4.int))
  (qp m (wL x5) (wL x6) (aM x2 x4 0) (aM x2 x4 1) (wL (aM x2 x4 2)) (T.l (x0.rows.take (Int.toNat x4.int)))
  (fun y1 y2 y3=>cond (!y1.bool)
  (k0 (T.b false) (T.l []) (T.l []))
  (j15 (wL y2) (wL y3)))
  (fun y4 y5 y6 y7=>cond (!y4.bool)
  (k0 (T.b false) (T.l []) (T.l []))
  (j15 (wL y6) (wL y7))))
  (.bad))
  (.bad))
  (k0 (T.b false) (T.l []) (T.l [])))))
  (fun y13 oJ=>eD m n x0 (T.i (x1.int.toNat:Int)) x2 x3 (bq x4) (wL y13) (wL oJ) k0 k1))
  (k1 (T.i (x1.int.toNat:Int)) (wL x5) (wL x6))
def qw:Nat->T->(T->T->T->An)->An
 | 0,_,_=>.bad
 | m+1,x0,k0 =>
  eD m m (wL x0) (T.i 0) (wL x0) (T.i (x0.rows.length:Int)) (T.i 0) (T.l []) (T.l [])
  (fun vV uZ sU=>k0 (wL uZ) (wL sU) vV)
  (fun AU y20 y21=>k0 (wL y20) (wL y21) (T.b true))
def Hr:PS CX aC:=fH Hq (FN 124 [.one (.dz tR [])] 1 3 qw [.one (.own (KR 0 0) tP m2 []),.one (.own (KR 1 0) tR m3 []),.one (RB)]) Tryz.f124 ⟨124,1,31,28⟩ [L2 [0,1,0,1,1] ⟨[(0,.one (LD tR)),(5,EP 1),(8,.one (LD tR)),(9,.one (LI)),(10,.one (LI))],[([4000000],.gone),((KI 1),.box [LA (KI 2) tP,LA (KI 3) tR]),((KI 2),.row tP m2 []),((KI 3),.row tR m3 [])]⟩ 7 3 3 eD .ret ⟨[(2,.one (LA (KI 0) tP)),(3,.one (LA (KI 1) tR)),(4,.one (LB))],[((KI 0),.row tP m2 []),((KI 1),.row tR m3 [])]⟩ (.exit 0) ⟨[(5,EP 0)],[((KI 0),.box [LA (KI 1) tP,LA (KI 2) tR]),((KI 1),.row tP m2 []),((KI 2),.row tR m3 [])]⟩]
def bE (m:Nat):Nat->T->T->T->T->(T->An)->An->An
 | 0,_,_,_,_,_,_=>.bad
 | n+1,x0,x1,x2,x3,k0,k1 =>
  cond (decide (x3.int<x2.int))
  (aY x3 x0
  (aY x3 x1
  (cond (!(((aM x0 x3 0).str.toList==(aM x1 x3 0).str.toList)&&(((aM x0 x3 1).str.toList==(aM x1 x3 1).str.toList)&&true)))
  (k0 (T.b false))
  (bE m n x0 x1 x2 (bq x3) k0 k1))))
  (k1 )
def dJ:Nat->T->T->(T->An)->An
 | 0,_,_,_=>.bad
 | m+1,x0,x1,k0 =>
  cond ((x0.rows.length:Int) != (x1.rows.length:Int))
  (k0 (T.b false))
  (bE m m (wL x0) (wL x1) (T.i (x0.rows.length:Int)) (T.i 0)
  (fun y0=>k0 y0)
  (k0 (T.b true)))
def pG:PS CX aC:=fH Hr (FN 125 [.one (.dz tP []),.one (.dz tP [])] 2 1 dJ [.one (RB)]) Tryz.f125 ⟨125,2,26,16⟩ [L2 [0,1,0,1,1] ⟨[(0,.one (LD tP)),(1,.one (LD tP)),(12,.one (LI)),(13,.one (LI))],[([4000000],.gone)]⟩ 4 1 0 bE .ret ⟨[(4,.one (LB))],[]⟩ (.exit 0) ⟨[],[]⟩]
def bL (m:Nat):Nat->T->T->T->T->(T->An)->An->An
 | 0,_,_,_,_,_,_=>.bad
 | n+1,x0,x1,x2,x3,k0,k1 =>
  cond (decide (x3.int<x2.int))
  (aY x3 x0
  (aY x3 x1
  (cond (!(((aM x0 x3 0).int==(aM x1 x3 0).int)&&(((aM x0 x3 1).str.toList==(aM x1 x3 1).str.toList)&&(((aM x0 x3 2).str.toList==(aM x1 x3 2).str.toList)&&true))))
  (k0 (T.b false))
  (bL m n x0 x1 x2 (bq x3) k0 k1))))
  (k1 )
def bU:Nat->T->T->(T->An)->An
 | 0,_,_,_=>.bad
 | m+1,x0,x1,k0 =>
  cond ((x0.rows.length:Int) != (x1.rows.length:Int))
  (k0 (T.b false))
  (bL m m (wL x0) (wL x1) (T.i (x0.rows.length:Int)) (T.i 0)
  (fun y0=>k0 y0)
  (k0 (T.b true)))
def qU:PS CX aC:=fH pG (FN 97 [.one (.dz tO []),.one (.dz tO [])] 2 1 bU [.one (RB)]) Tryz.f97 ⟨97,2,26,16⟩ [L2 [0,1,0,1,1] ⟨[(0,.one (LD tO)),(1,.one (LD tO)),(12,.one (LI)),(13,.one (LI))],[([4000000],.gone)]⟩ 4 1 0 bL .ret ⟨[(4,.one (LB))],[]⟩ (.exit 0) ⟨[],[]⟩]
def wM:Nat->T->T->T->T->T->T->(T->An)->An
 | 0,_,_,_,_,_,_,_=>.bad
 | m+1,x0,x1,x2,x3,x4,x5,k0 =>
  cond ((x0.int==x3.int)==true)
  (cond ((x1.int==x4.int)==true)
  (bU m (wL x2) (wL x5)
  (fun y0=>k0 (T.b y0.bool)))
  (k0 (T.b false)))
  (k0 (T.b false))
def N7:PS CX aC:=fH qU (FN 127 [.agg [AI,AI,.dz tO []],.agg [AI,AI,.dz tO []]] 6 1 wM [.one (RB)]) Tryz.f127 ⟨127,2,24,16⟩
def aJ (m:Nat):Nat->T->T->T->T->(T->An)->An->An
 | 0,_,_,_,_,_,_=>.bad
 | n+1,x0,x1,x2,x3,k0,k1 =>
  cond (decide (x3.int<x2.int))
  (aY x3 x1
  (aY x3 x0
  (wM m (aM x1 x3 0) (aM x1 x3 1) (wL (aM x1 x3 2)) (aM x0 x3 0) (aM x0 x3 1) (wL (aM x0 x3 2))
  (fun y0=>cond (!y0.bool)
  (k0 (T.b false))
  (aJ m n x0 x1 x2 (bq x3) k0 k1)))))
  (k1 )
def bC:Nat->T->T->(T->An)->An
 | 0,_,_,_=>.bad
 | m+1,x0,x1,k0 =>
  cond ((x0.rows.length:Int) != (x1.rows.length:Int))
  (k0 (T.b false))
  (aJ m m (wL x1) (wL x0) (T.i (x0.rows.length:Int)) (T.i 0)
  (fun y1=>k0 y1)
  (k0 (T.b true)))
def iB:PS CX aC:=fH N7 (FN 126 [.one (.dz tR []),.one (.dz tR []),.fn 127 []] 2 1 bC [.one (RB)]) Tryz.f126 ⟨126,3,32,64⟩ [L2 [0,1,0,1,1] ⟨[(1,.one (LD tR)),(2,.fn 127 []),(15,.one (LD tR)),(16,.one (LI)),(17,.one (LI))],[([4000000],.gone)]⟩ 4 1 0 aJ .ret ⟨[(6,.one (LB))],[]⟩ (.exit 0) ⟨[],[]⟩]
def wN:Nat->T->T->T->T->T->(T->An)->An
 | 0,_,_,_,_,_,_=>.bad
 | m+1,x0,x1,x2,x3,x4,k0 =>
  jn (fun (j9:An) =>
  sW m x0
  (fun y0=>cond ((!y0.bool)==false)
  (dD m x2 (T.i 0) (T.i (x1.rows.length:Int))
  (fun y1=>cond ((!y1.bool)==false)
  (cond (decide ((IntKind.i64.wrap ((x1.rows.length:Int)+(x4.rows.length:Int))) > 300))
  (k0 (T.b false))
  (j9))
  (k0 (T.b false))))
  (k0 (T.b false))))
  (qw m (wL x1)
  (fun y3 y4 y5=>cond (y5.bool==true)
  (dJ m (wL y3) (wL x3)
  (fun y6=>cond (y6.bool==true)
  (bC m (wL y4) (wL x4)
  (fun y7=>k0 (T.b y7.bool)))
  (k0 (T.b false))))
  (k0 (T.b false))))
def N8:PS CX aC:=fH iB (FN 78 [.agg [AI,.dz tR [],AI,.dz tP [],.dz tR []]] 5 1 wN [.one (RB)]) Tryz.f78 ⟨78,1,49,4⟩
def zo:Nat->T->T->T->T->T->(T->An)->An
 | 0,_,_,_,_,_,_=>.bad
 | m+1,x0,x1,x2,x3,x4,k0 =>
  jn (fun (j8:An) =>
  sW m x1
  (fun y0=>cond ((!y0.bool)==false)
  (pF m x2
  (fun y1=>cond (!y1.bool)
  (k0 (T.b false))
  (j8)))
  (k0 (T.b false))))
  (cond (x0.int==1)
  (qF m (wL x3)
  (fun y3=>cond (y3.bool==true)
  (k0 (T.b (!x4.bool)))
  (k0 (T.b false))))
  ((fun (j7:T->An) =>
  cond (x0.int==2)
  (j7 (T.b true))
  (j7 (T.b (x0.int==3))))
  (fun y5=>cond y5.bool
  (k0 (T.b ((x3.rows.length:Int)==0)))
  (cond (x0.int==4)
  (cond (((x3.rows.length:Int)==0)==true)
  (k0 (T.b (!x4.bool)))
  (k0 (T.b false)))
  (k0 (T.b false))))))
def PX:PS CX aC:=fH N8 (FN 128 [.agg [AI,AI,AI,.dz tO [],AB]] 5 1 zo [.one (RB)]) Tryz.f128 ⟨128,1,43,4⟩
def dW (m:Nat):Nat->T->T->T->T->T->(T->An)->(T->An)->An
 | 0,_,_,_,_,_,_,_=>.bad
 | n+1,x0,x1,x2,x3,x4,k0,k1 =>
  cond (decide (x4.int<x3.int))
  (aY x4 x2
  (zo m (aM x2 x4 0) (aM x2 x4 1) (aM x2 x4 2) (wL (aM x2 x4 3)) (aM x2 x4 4)
  (fun y0=>cond ((!y0.bool)==false)
  (cond (decide ((aM x2 x4 1).int>=((((cO x0).drop 6).getD 0 dflt).rows.length:Int)))
  (k0 (T.b false))
  (dW m n (T.l [(cO x0)]) x1 x2 x3 (bq x4) k0 k1))
  (k0 (T.b false)))))
  (k1 x1)
def kK:Nat->T->T->(T->An)->An
 | 0,_,_,_=>.bad
 | m+1,x0,x1,k0 =>
  dW m m (T.l [(cO x0)]) (wL x1) (wL x1) (T.i (x1.rows.length:Int)) (T.i 0)
  (fun y4=>k0 y4)
  (fun y5=>k0 (T.b (decide ((y5.rows.length:Int)<=400))))
def DT:PS CX aC:=fH PX (FN 79 [.EB [.sc (.int .i64),.sc (.int .i64),.sc (.int .i64),.sl tJ,.sl tC,.sc (.int .i64),.sl tS,.sl tW,.sl tW,.sl tB] [],.one (.dz tW [])] 2 1 kK [.one (RB)]) Tryz.f79 ⟨79,2,30,16⟩ [L2 [0,1,0,1] ⟨[(0,.rp [([4000000],0)] [.sc (.int .i64),.sc (.int .i64),.sc (.int .i64),.sl tJ,.sl tC,.sc (.int .i64),.sl tS,.sl tW,.sl tW,.sl tB] []),(1,.one (LD tW)),(7,.one (LD tW)),(8,.one (LI)),(9,.one (LI))],[([4000000],.gone)]⟩ 5 1 1 dW .ret ⟨[(4,.one (LB))],[]⟩ (.exit 0) ⟨[(1,.one (LD tW))],[([4000000],.gone)]⟩]
def oN:Nat->T->T->T->(T->An)->An
 | 0,_,_,_,_=>.bad
 | m+1,x0,x1,x2,k0 =>
  k0 (T.b (x0.int==((cO x2).getD 0 dflt).int))
def BZ:PS CX aC:=fH DT (FN 154 [.agg [AI,.dz tO []],.EB tI []] 3 1 oN [.one (RB)]) Tryz.f154 ⟨154,2,8,8⟩
def aU (m:Nat):Nat->T->T->T->T->(T->An)->An->An
 | 0,_,_,_,_,_,_=>.bad
 | n+1,x0,x1,x2,x3,k0,k1 =>
  cond (decide (x3.int<x2.int))
  (aY x3 x0
  (oN m (aM x0 x3 0) (wL (aM x0 x3 1)) (T.l [(cO x1)])
  (fun y0=>cond y0.bool
  (k0 x3)
  (aU m n x0 (T.l [(cO x1)]) x2 (bq x3) k0 k1))))
  (k1 )
def dN:Nat->T->T->(T->An)->An
 | 0,_,_,_=>.bad
 | m+1,x0,x1,k0 =>
  aU m m (wL x0) (T.l [(cO x1)]) (T.i (x0.rows.length:Int)) (T.i 0)
  (fun y1=>k0 y1)
  (k0 (T.i (-1)))
def mM:PS CX aC:=fH BZ (FN 153 [.one (.dz tB []),.fn 154 [.EB tI []]] 2 1 dN [.one (RI)]) Tryz.f153 ⟨153,2,19,16⟩ [L2 [0,1,0,1] ⟨[(0,.one (LD tB)),(1,.fn 154 [.rp [([4000000],0)] tI []]),(7,.one (LI)),(8,.one (LI))],[([4000000],.gone)]⟩ 4 1 0 aU .ret ⟨[(4,.one (LI))],[]⟩ (.exit 0) ⟨[],[]⟩]
def eF:Nat->T->T->(T->An)->An
 | 0,_,_,_=>.bad
 | m+1,x0,x1,k0 =>
  dN m (T.l (((cO x0).drop 9).getD 0 dflt).rows) (T.l [[x1]])
  (fun y0=>k0 y0)
def DU:PS CX aC:=fH mM (FN 96 [.EB [.sc (.int .i64),.sc (.int .i64),.sc (.int .i64),.sl tJ,.sl tC,.sc (.int .i64),.sl tS,.sl tW,.sl tW,.sl tB] [],.one (AI)] 2 1 eF [.one (RI)]) Tryz.f96 ⟨96,2,11,16⟩
def dX (m:Nat):Nat->T->T->T->T->(T->An)->(T->An)->An
 | 0,_,_,_,_,_,_=>.bad
 | n+1,x0,x1,x2,x3,k0,k1 =>
  cond (decide (x3.int<x2.int))
  (aY x3 x1
  (eF m (T.l [((cO x0).take 10)]) (aM x1 x3 0)
  (fun nN=>cond ((decide (nN.int<0))==false)
  (aY nN (((cO x0).drop 9).getD 0 dflt)
  (bU m (T.l ((((((cO x0).drop 9).getD 0 dflt).rows.getD (Int.toNat nN.int) []).drop 1).getD 0 dflt).rows) (wL (aM x1 x3 1))
  (fun y13=>cond (!y13.bool)
  (k0 (T.b false))
  (dX m n (T.l [(cO x0)]) x1 x2 (bq x3) k0 k1))))
  (k0 (T.b false)))))
  (k1 (T.l [(cO x0)]))
def dY (m:Nat):Nat->T->T->T->T->(T->An)->(T->An)->An
 | 0,_,_,_,_,_,_=>.bad
 | n+1,x0,x1,x2,x3,k0,k1 =>
  cond (decide (x3.int<x2.int))
  (aY x3 x1
  (eF m (T.l [((cO x0).take 10)]) (aM x1 x3 0)
  (fun y9=>cond (decide (y9.int<0))
  (k0 (T.b false))
  (dY m n (T.l [(cO x0)]) x1 x2 (bq x3) k0 k1))))
  (k1 (T.l [(cO x0)]))
def dZ (m:Nat):Nat->T->T->T->T->(T->An)->(T->An)->An
 | 0,_,_,_,_,_,_=>.bad
 | n+1,x0,x1,x2,x3,k0,k1 =>
  cond (decide (x3.int<x2.int))
  (aY x3 x1
  (qF m (wL (aM x1 x3 1))
  (fun y0=>cond ((!y0.bool)==false)
  (jo m (T.l [((cO x0).take 6)])
  (fun y1=>dD m (aM x1 x3 0) (T.i 1000) (T.i (IntKind.i64.wrap (y1.int-1)))
  (fun y2=>cond ((!y2.bool)==false)
  (eF m (T.l [((cO x0).take 10)]) (aM x1 x3 0)
  (fun y3=>cond (y3.int != x3.int)
  (k0 (T.b false))
  (dZ m n (T.l [(cO x0)]) x1 x2 (bq x3) k0 k1)))
  (k0 (T.b false)))))
  (k0 (T.b false)))))
  (k1 (T.l [(cO x0)]))
def ni:Nat->T->(T->An)->An
 | 0,_,_=>.bad
 | m+1,x0,k0 =>
  dZ m m (T.l [(cO x0)]) (((cO x0).drop 9).getD 0 dflt) (T.i ((((cO x0).drop 9).getD 0 dflt).rows.length:Int)) (T.i 0)
  (fun y7=>k0 y7)
  (fun y8=>dY m m (T.l [(cO y8)]) (((cO y8).drop 4).getD 0 dflt) (T.i ((((cO y8).drop 4).getD 0 dflt).rows.length:Int)) (T.i 0)
  (fun nK=>k0 nK)
  (fun nE=>dX m m (T.l [(cO nE)]) (((cO nE).drop 3).getD 0 dflt) (T.i ((((cO nE).drop 3).getD 0 dflt).rows.length:Int)) (T.i 0)
  (fun uZ=>k0 uZ)
  (fun sU=>k0 (T.b (decide (((((cO sU).drop 9).getD 0 dflt).rows.length:Int)<=1000))))))
def DV:PS CX aC:=fH DU (FN 80 [.EB [.sc (.int .i64),.sc (.int .i64),.sc (.int .i64),.sl tJ,.sl tC,.sc (.int .i64),.sl tS,.sl tW,.sl tW,.sl tB] []] 1 1 ni [.one (RB)]) Tryz.f80 ⟨80,1,97,4⟩ [L2 [0,1,0,1,1,1] ⟨[(0,.rp [([4000000],0)] [.sc (.int .i64),.sc (.int .i64),.sc (.int .i64),.sl tJ,.sl tC,.sc (.int .i64),.sl tS,.sl tW,.sl tW,.sl tB] []),(64,.one (LD tJ)),(65,.one (LI)),(66,.one (LI))],[([4000000],.gone)]⟩ 4 1 1 dX .ret ⟨[(2,.one (LB))],[]⟩ (.exit 4) ⟨[(0,.rp [([4000000],0)] [.sc (.int .i64),.sc (.int .i64),.sc (.int .i64),.sl tJ,.sl tC,.sc (.int .i64),.sl tS,.sl tW,.sl tW,.sl tB] [])],[([4000000],.gone)]⟩,L2 [0,1,0,1,1] ⟨[(0,.rp [([4000000],0)] [.sc (.int .i64),.sc (.int .i64),.sc (.int .i64),.sl tJ,.sl tC,.sc (.int .i64),.sl tS,.sl tW,.sl tW,.sl tB] []),(48,.one (LD tC)),(49,.one (LI)),(50,.one (LI))],[([4000000],.gone)]⟩ 4 1 1 dY .ret ⟨[(2,.one (LB))],[]⟩ (.exit 2) ⟨[(0,.rp [([4000000],0)] [.sc (.int .i64),.sc (.int .i64),.sc (.int .i64),.sl tJ,.sl tC,.sc (.int .i64),.sl tS,.sl tW,.sl tW,.sl tB] [])],[([4000000],.gone)]⟩,L2 [0,1,0,1] ⟨[(0,.rp [([4000000],0)] [.sc (.int .i64),.sc (.int .i64),.sc (.int .i64),.sl tJ,.sl tC,.sc (.int .i64),.sl tS,.sl tW,.sl tW,.sl tB] []),(13,.one (LD tB)),(14,.one (LI)),(15,.one (LI))],[([4000000],.gone)]⟩ 4 1 1 dZ .ret ⟨[(2,.one (LB))],[]⟩ (.exit 0) ⟨[(0,.rp [([4000000],0)] [.sc (.int .i64),.sc (.int .i64),.sc (.int .i64),.sl tJ,.sl tC,.sc (.int .i64),.sl tS,.sl tW,.sl tW,.sl tB] [])],[([4000000],.gone)]⟩]
def jr (m:Nat):Nat->T->T->T->T->T->T->T->T->T->T->T->T->T->T->(T->An)->(T->T->T->T->T->T->T->T->T->T->T->An)->An
 | 0,_,_,_,_,_,_,_,_,_,_,_,_,_,_,_,_=>.bad
 | n+1,x0,x1,x2,x3,x4,x5,x6,x7,x8,x9,x10,bT,eH,jK,k0,k1 =>
  cond (decide (x3.int<x2.int))
  ((fun (j4:An) =>
  aY x3 x1
  (cond (((aM x1 x3 0).int != x3.int)==false)
  (wN m (aM x1 x3 0) (wL (aM x1 x3 1)) (aM x1 x3 2) (wL (aM x1 x3 3)) (wL (aM x1 x3 4))
  (fun y2=>cond (!y2.bool)
  (k0 (T.b false))
  (j4)))
  (k0 (T.b false))))
  (jr m n (T.i (x0.int.toNat:Int)) x1 x2 (bq x3) x4 x5 x6 x7 x8 x9 x10 bT eH jK k0 k1))
  (k1 (T.i (x0.int.toNat:Int)) x4 x5 x6 x7 x8 x9 x10 bT eH jK)
def rX:Nat->T->T->T->T->T->T->T->T->T->T->(T->An)->An
 | 0,_,_,_,_,_,_,_,_,_,_,_=>.bad
 | m+1,x0,x1,x2,x3,x4,x5,x6,x7,x8,x9,k0 =>
  jn (fun (j21:An) =>
  wK m x0 x1 x2 (wL x3) (wL x4) x5
  (fun y0=>cond ((!y0.bool)==false)
  (cond ((x6.rows.length:Int) != x0.int)
  (k0 (T.b false))
  (j21))
  (k0 (T.b false))))
  (jr m m (T.i 0) (wL x6) (T.i (x6.rows.length:Int)) (T.i 0) x0 x1 x2 (wL x3) (wL x4) x5 (wL x6) (wL x7) (wL x8) (wL x9)
  (fun y5=>k0 y5)
  (fun y6 y7 y8 y9 nK nE nN y13 oJ su vV=>kK m (T.l [[y7,y8,y9,(wL nK),(wL nE),nN,(wL y13),(wL oJ),(wL su),(wL vV)]]) (wL oJ)
  (fun uZ=>cond (uZ.bool==true)
  (kK m (T.l [[y7,y8,y9,(wL nK),(wL nE),nN,(wL y13),(wL oJ),(wL su),(wL vV)]]) (wL su)
  (fun sU=>cond (sU.bool==true)
  (ni m (T.l [[y7,y8,y9,(wL nK),(wL nE),nN,(wL y13),(wL oJ),(wL su),(wL vV)]])
  (fun AU=>k0 (T.b AU.bool)))
  (k0 (T.b false))))
  (k0 (T.b false)))))
def N9:PS CX aC:=fH DV (FN 37 [.agg [AI,AI,AI,.dz tJ [],.dz tC [],AI,.dz tS [],.dz tW [],.dz tW [],.dz tB []]] 10 1 rX [.one (RB)]) Tryz.f37 ⟨37,1,47,4⟩ [L2 [0,1,0,1,1] ⟨[(1,EP 0),(19,.one (LD tS)),(20,.one (LI)),(21,.one (LI))],[((KI 0),.box [LI,LI,LI,LD tJ,LD tC,LI,LD tS,LD tW,LD tW,LD tB]),([4000000],.gone)]⟩ 14 1 11 jr .ret ⟨[(2,.one (LB))],[]⟩ (.exit 0) ⟨[(1,EP 0)],[((KI 0),.box [LI,LI,LI,LD tJ,LD tC,LI,LD tS,LD tW,LD tW,LD tB]),([4000000],.gone)]⟩]
def sZ:Nat->T->T->T->T->T->T->T->(T->T->T->T->T->T->T->An)->An
 | 0,_,_,_,_,_,_,_,_=>.bad
 | m+1,x0,x1,x2,x3,x4,x5,x6,k0 =>
  cond (decide ((0:Int)<=(IntKind.i64.wrap (x5.int+(zy (zA x6.int 0) (IntKind.i64.wrap ((x4.rows.length:Int)-x5.int)))))/\(IntKind.i64.wrap (x5.int+(zy (zA x6.int 0) (IntKind.i64.wrap ((x4.rows.length:Int)-x5.int)))))<=(x4.rows.length:Int)))
  (cond (decide ((0:Int)<=0/\0<=(IntKind.i64.wrap (x5.int+(zy (zA x6.int 0) (IntKind.i64.wrap ((x4.rows.length:Int)-x5.int)))))))
  (k0 (wL x3) x0 (bq x1) (T.i 0) (T.l []) (T.l (x4.rows.take (Int.toNat (IntKind.i64.wrap (x5.int+(zy (zA x6.int 0) (IntKind.i64.wrap ((x4.rows.length:Int)-x5.int)))))))) (T.i (IntKind.i64.wrap (x5.int+(zy (zA x6.int 0) (IntKind.i64.wrap ((x4.rows.length:Int)-x5.int)))))))
  (.bad))
  (.bad)
def FL:PS CX aC:=fH N9 (F1 86 [.bx [AI,AI,AI,.own tJ [.F,.F,.F,.O [.F]] [],.own tC m2 [],AI],.one (AI)] 7 7 sZ ⟨[],[[none,none,none,some (tJ,[.F,.F,.F,.O [.F]],[]),none,none],[none]],[some [RI,RI,RI,.own (KR 1000 3) tJ [.F,.F,.F,.O [.F]] [],.own (KR 1000 4) tC m2 [],RI],none]⟩) Tryz.f86 ⟨86,2,49,1⟩
def zW:Nat->T->T->T->T->T->T->T->T->T->T->T->T->T->T->(T->T->T->T->T->T->T->T->T->T->T->An)->(T->T->T->T->T->T->T->T->T->T->T->T->An)->An
 | 0,_,_,_,_,_,_,_,_,_,_,_,_,_,_,_,_=>.bad
 | m+1,x0,x1,x2,x3,x4,x5,x6,x7,x8,x9,x10,bT,eH,jK,k0,k1 =>
  cond (x10.int==1)
  (FI m x0 x1 x2 (wL x3) (wL x4) x5 (wL x6) (wL x7) (wL x8) (wL x9) (wL jK))
  (jn (fun (j10:T->An) =>
  cond (x10.int==2)
  (j10 (T.b true))
  (cond (x10.int==3)
  (j10 (T.b true))
  (j10 (T.b (x10.int==4)))))
  (fun y0=>cond y0.bool
  (Hf m x0 x1 x2 (wL x3) (wL x4) x5 (wL x6) (wL x7) (wL x8) (wL x9) x10 bT)
  (jn (fun (j9:T->An) =>
  cond (x10.int==5)
  (j9 (T.b true))
  (cond (x10.int==8)
  (j9 (T.b true))
  (j9 (T.b (x10.int==9)))))
  (fun y1=>cond y1.bool
  (FJ m x0 x1 x2 (wL x3) (wL x4) x5 (wL x6) (wL x7) (wL x8) (wL x9) x10 bT eH (wL jK))
  (cond (x10.int==6)
  (k0 (T.b true) x0 x1 x2 (wL x3) (wL x4) (T.i (x4.rows.length:Int)) (wL x6) (wL x7) (wL x8) (wL x9))
  (cond (x10.int==7)
  (DL m (T.l [[x0,x1,x2,(wL x3),(wL x4),x5]]))
  (cond (x10.int==10)
  (cond (x1.int==900)
  (k0 (T.b false) x0 x1 x2 (wL x3) (wL x4) x5 (wL x6) (wL x7) (wL x8) (wL x9))
  (sZ m x0 x1 x2 (wL x3) (wL x4) x5 eH
  (fun y2 y3 y4 y5 y6 y7 y8=>k1 (T.b true) (wL y2) y3 y4 y5 (wL y6) (wL y7) y8 (wL x6) (wL x7) (wL x8) (wL x9))))
  (k0 (T.b false) x0 x1 x2 (wL x3) (wL x4) x5 (wL x6) (wL x7) (wL x8) (wL x9)))))))))
def KS:PS CX aC:=fH FL (F2 38 [.bx [AI,AI,AI,.own tJ [.F,.F,.F,.O [.F]] [],.own tC m2 [],AI,.own tS mS [],.own tW m5 [],.own tW m5 [],.own tB m2 []],.agg [AI,AI,AI,.dz tO []]] 14 11 12 zW ⟨[.one (RB)],[[none,none,none,none,none,none,none,none,none,none],[none,none,none,none]],[some [RI,RI,RI,.own (KR 1000 3) tJ [.F,.F,.F,.O [.F]] [],.own (KR 1000 4) tC m2 [],RI,.own (KR 1000 6) tS mS [],.own (KR 1000 7) tW m5 [],.own (KR 1000 8) tW m5 [],.own (KR 1000 9) tB m2 []],none]⟩ ⟨[.one (RB)],[[none,none,none,some (tJ,[.F,.F,.F,.O [.F]],[]),none,none,none,none,none,none],[none,none,none,none]],[some [RI,RI,RI,.own (KR 1000 3) tJ [.F,.F,.F,.O [.F]] [],.own (KR 1000 4) tC m2 [],RI,.own (KR 1000 6) tS mS [],.own (KR 1000 7) tW m5 [],.own (KR 1000 8) tW m5 [],.own (KR 1000 9) tB m2 []],none]⟩) Tryz.f38 ⟨38,2,64,17⟩
def Lx:Nat->T->T->T->T->T->T->T->T->T->T->T->T->T->T->(T->T->T->T->T->T->T->T->T->T->T->An)->An
 | 0,_,_,_,_,_,_,_,_,_,_,_,_,_,_,_=>.bad
 | m+1,x0,x1,x2,x3,x4,x5,x6,x7,x8,x9,x10,bT,eH,jK,k0 =>
  mF m x0 x1 x2 (wL x3) (wL x4) x5 (wL x6) (wL x7) (wL x8) (wL x9)
  (fun y0 y1 y2 y3 y4 y5 y6 y7 y8 y9=>jn (fun (j55:T->T->T->T->T->T->T->T->T->T->T->An) =>
  rX m x0 x1 x2 (wL x3) (wL x4) x5 (wL x6) (wL x7) (wL x8) (wL x9)
  (fun nK=>cond (nK.bool==true)
  (zW m y0 y1 y2 (wL y3) (wL y4) y5 (wL y6) (wL y7) (wL y8) (wL y9) x10 bT eH (wL jK)
  (fun nE nN y13 oJ su vV uZ sU AU y20 y21=>j55 (T.b nE.bool) nN y13 oJ uZ (wL su) (wL vV) (wL sU) (wL AU) (wL y20) (wL y21))
  (fun y22 y23 y24 y25 Lu y27 y28 y29 Lv y31 y32 QK=>j55 (T.b y22.bool) y24 y25 Lu y29 (wL y27) (wL y28) (wL Lv) (wL y31) (wL y32) (wL QK)))
  (mF m y0 y1 y2 (wL y3) (wL y4) y5 (wL y6) (wL y7) (wL y8) (wL y9)
  (fun y56 y57 y58 y59 y60 y61 y62 y63 y64 y65=>k0 y56 y57 y58 (wL y59) (wL y60) y61 (wL y62) (wL y63) (wL y64) (wL y65) (T.b false)))))
  (fun y34 Ub Vq Vr y38 y39 Py Zb XQ Zc Zd=>mF m Ub Vq Vr (wL y39) (wL Py) y38 (wL Zb) (wL XQ) (wL Zc) (wL Zd)
  (fun XR XT y47 y48 y49 y50 y51 y52 y53 y54=>k0 XR XT y47 (wL y48) (wL y49) y50 (wL y51) (wL y52) (wL y53) (wL y54) y34)))
def aad:PS CX aC:=fH KS (FN 11 [.agg [AI,AI,AI,.dz tJ [],.dz tC [],AI,.dz tS [],.dz tW [],.dz tW [],.dz tB []],.agg [AI,AI,AI,.dz tO []]] 14 11 Lx [.agg [RI,RI,RI,.own (KR 0 3) tJ [.F,.F,.F,.O [.F]] [],.own (KR 0 4) tC m2 [],RI,.own (KR 0 6) tS mS [],.own (KR 0 7) tW m5 [],.own (KR 0 8) tW m5 [],.own (KR 0 9) tB m2 []],.one (RB)]) Tryz.f11 ⟨11,2,19,48⟩
def lD (m:Nat):Nat->T->T->T->T->T->T->T->T->T->T->T->T->T->T->T->T->T->T->T->T->T->(T->T->T->T->T->T->T->T->T->T->T->T->T->T->T->An)->An
 | 0,_,_,_,_,_,_,_,_,_,_,_,_,_,_,_,_,_,_,_,_,_,_=>.bad
 | n+1,x0,x1,x2,x3,x4,x5,x6,x7,x8,x9,x10,bT,eH,jK,nY,ug,uh,vB,x18,CG,x20,k0 =>
  cond (decide (x7.int<x6.int))
  ((fun (j8:T->An) =>
  aY x7 x5
  (cond ((aM x5 x7 0).int==CG.int)
  (yg m (wL x18) (wL (aM x5 x7 1))
  (fun y5=>j8 (wL y5)))
  (j8 (wL x18))))
  (fun y7=>lD m n (T.i (x0.int.toNat:Int)) (T.i (x1.int.toNat:Int)) x2 x3 x4 x5 x6 (bq x7) x8 x9 x10 bT eH jK nY ug uh vB (wL y7) CG x20 k0))
  (k0 (T.i (x0.int.toNat:Int)) x2 x3 x4 x8 x9 x10 bT eH jK nY ug uh vB (wL x18))
def lF (m:Nat):Nat->T->T->T->T->T->T->T->T->T->T->T->T->T->T->T->(T->An)->An
 | 0,_,_,_,_,_,_,_,_,_,_,_,_,_,_,_,_=>.bad
 | n+1,x0,x1,x2,x3,x4,x5,x6,x7,x8,x9,x10,bT,eH,jK,nY,k0 =>
  cond (decide (x3.int<x2.int))
  ((fun (j55:T->T->T->T->T->T->T->T->T->T->T->T->T->T->T->An) =>
  aY x3 x1
  (jn (fun (j24:T->T->An) =>
  cond ((!(aM x1 x3 1).bool)==false)
  (cond (decide (x3.int>=x9.int))
  (j55 (T.i (x0.int.toNat:Int)) x1 x2 x3 x4 x5 x6 x7 x8 x9 x10 bT eH jK (wL nY))
  (j24 (aM x1 x3 0) (aM x1 x3 1)))
  (j55 (T.i (x0.int.toNat:Int)) x1 x2 x3 x4 x5 x6 x7 x8 x9 x10 bT eH jK (wL nY)))
  (fun y3 y4=>lD m n (T.i (x0.int.toNat:Int)) (T.i 0) x1 x2 x3 jK (T.i (jK.rows.length:Int)) (T.i 0) x4 x5 x6 x7 x8 x9 x10 bT eH jK (wL nY) y3 y4
  (fun y9 nK nE nN y13 oJ su vV uZ sU AU y20 y21 y22 y23=>j55 (T.i (y9.int.toNat:Int)) nK nE nN y13 oJ su vV uZ sU AU y20 y21 y22 (wL y23)))))
  (fun Py Zb XQ Zc Zd XR XT y47 y48 y49 y50 y51 y52 y53 y54=>lF m n (T.i (Py.int.toNat:Int)) Zb XQ (bq Zc) Zd XR XT y47 y48 y49 y50 y51 y52 y53 (wL y54) k0))
  (k0 (wL nY))
def tq:Nat->T->T->T->T->T->T->T->T->T->T->(T->An)->An
 | 0,_,_,_,_,_,_,_,_,_,_,_=>.bad
 | m+1,x0,x1,x2,x3,x4,x5,x6,x7,x8,x9,k0 =>
  lF m m (T.i 0) (wL x4) (T.i (x4.rows.length:Int)) (T.i 0) x0 x1 x2 (wL x3) (wL x4) x5 (wL x6) (wL x7) (wL x8) (wL x9) (T.l [])
  (fun y56=>k0 (wL y56))
def TB:PS CX aC:=fH aad (FN 24 [.agg [AI,AI,AI,.dz tJ [],.dz tC [],AI,.dz tS [],.dz tW [],.dz tW [],.dz tB []]] 10 1 tq [.one (.own (KR 0 0) tP m2 [])]) Tryz.f24 ⟨24,1,46,4⟩ [L1 [0,1,1,1,0,0,1,1,0,0,1,0,1,1] ⟨[(1,EP 0),(3,.one (LA (KI 1) tP)),(5,EP 2),(10,.one (LD tC)),(11,.one (LI)),(12,.one (LI)),(28,.one (LD tB)),(29,.one (LI)),(30,.one (LI))],[((KI 0),.box [LI,LI,LI,LD tJ,LD tC,LI,LD tS,LD tW,LD tW,LD tB]),((KI 1),.row tP m2 []),((KI 2),.box [LI,LB]),([4000000],.gone)]⟩ 21 15 lD (.exit 2) ⟨[(1,EP 0),(3,.one (LA (KI 1) tP)),(10,.one (LD tC)),(11,.one (LI)),(12,.one (LI))],[((KI 0),.box [LI,LI,LI,LD tJ,LD tC,LI,LD tS,LD tW,LD tW,LD tB]),((KI 1),.row tP m2 []),([4000000],.gone)]⟩,L1 [0,1,0,1,1] ⟨[(1,EP 0),(3,.one (LA (KI 1) tP)),(10,.one (LD tC)),(11,.one (LI)),(12,.one (LI))],[((KI 0),.box [LI,LI,LI,LD tJ,LD tC,LI,LD tS,LD tW,LD tW,LD tB]),((KI 1),.row tP m2 []),([4000000],.gone)]⟩ 15 1 lF (.exit 0) ⟨[(3,.one (LA (KI 0) tP))],[((KI 0),.row tP m2 [])]⟩]
def gT (m:Nat):Nat->T->T->T->(T->An)->An->An
 | 0,_,_,_,_,_=>.bad
 | n+1,x0,x1,x2,k0,k1 =>
  mU x2 x0
  (aY x2 x0
  (aY x2 x1
  (cond (!(((aM x0 x2 0).str.toList==(aM x1 x2 0).str.toList)&&(((aM x0 x2 1).str.toList==(aM x1 x2 1).str.toList)&&true)))
  (k0 (T.b false))
  (gT m n x0 x1 (bq x2) k0 k1))))
  (k1 )
def mI:Nat->T->T->(T->An)->An
 | 0,_,_,_=>.bad
 | m+1,x0,x1,k0 =>
  cond ((x0.rows.length:Int) != (x1.rows.length:Int))
  (k0 (T.b false))
  (gT m m (wL x0) (wL x1) (T.i 0)
  (fun y0=>k0 y0)
  (k0 (T.b true)))
def Ji:PS CX aC:=fH TB (FN 19 [.one (.dz tP []),.one (.dz tP [])] 2 1 mI [.one (RB)]) Tryz.f19 ⟨19,2,26,16⟩ [L2 [0,1,0,1,1] ⟨[(0,.one (LD tP)),(1,.one (LD tP)),(5,.one (LI))],[([4000000],.gone)]⟩ 3 1 0 gT .ret ⟨[(4,.one (LB))],[]⟩ (.exit 0) ⟨[],[]⟩]
def jv (m:Nat):Nat->T->T->T->T->(T->An)->An
 | 0,_,_,_,_,_=>.bad
 | n+1,x0,x1,x2,x3,k0 =>
  cond (decide (x2.int<x1.int))
  (aY x2 x0
  (vg m (wL x3) (aM x0 x2 0) (aM x0 x2 1)
  (fun y1=>jv m n x0 x1 (bq x2) (wL y1) k0)))
  (k0 (wL x3))
def wO:Nat->T->T->(T->An)->An
 | 0,_,_,_=>.bad
 | m+1,x0,x1,k0 =>
  aW m (wL x0)
  (fun y0=>jv m m (wL x1) (T.i (x1.rows.length:Int)) (T.i 0) (wL y0)
  (fun y2=>k0 (wL y2)))
def Oa:PS CX aC:=fH Ji (FN 50 [.one (.dz tP []),.one (.dz tP [])] 2 1 wO [.one (.own (KR 0 0) tP m2 [])]) Tryz.f50 ⟨50,2,24,16⟩ [L1 [0,1,0,1,1] ⟨[(5,.one (LA (KI 0) tP)),(10,.one (LD tP)),(11,.one (LI)),(12,.one (LI))],[((KI 0),.row tP m2 []),([4000000],.gone)]⟩ 4 1 jv (.exit 0) ⟨[(5,.one (LA (KI 0) tP))],[((KI 0),.row tP m2 [])]⟩]
def kC (m:Nat):Nat->T->T->T->T->(T->An)->An
 | 0,_,_,_,_,_=>.bad
 | n+1,x0,x1,x2,x3,k0 =>
  cond (decide (x2.int<x1.int))
  (aY x2 x0
  (wO m (wL x3) (wL (aM x0 x2 3))
  (fun y0=>kC m n x0 x1 (bq x2) (wL y0) k0)))
  (k0 (wL x3))
def vk:Nat->T->T->T->T->T->T->T->T->T->T->(T->An)->An
 | 0,_,_,_,_,_,_,_,_,_,_,_=>.bad
 | m+1,x0,x1,x2,x3,x4,x5,x6,x7,x8,x9,k0 =>
  kC m m (wL x6) (T.i (x6.rows.length:Int)) (T.i 0) (T.l [])
  (fun y1=>k0 (wL y1))
def PY:PS CX aC:=fH Oa (FN 18 [.agg [AI,AI,AI,.dz tJ [],.dz tC [],AI,.dz tS [],.dz tW [],.dz tW [],.dz tB []]] 10 1 vk [.one (.own (KR 0 0) tP m2 [])]) Tryz.f18 ⟨18,1,19,4⟩ [L1 [0,1,0,1,1] ⟨[(3,.one (LA (KI 0) tP)),(7,.one (LD tS)),(8,.one (LI)),(9,.one (LI))],[((KI 0),.row tP m2 []),([4000000],.gone)]⟩ 4 1 kC (.exit 0) ⟨[(3,.one (LA (KI 0) tP))],[((KI 0),.row tP m2 [])]⟩]
def bX (m:Nat):Nat->T->T->T->T->T->(T->An)->An->An
 | 0,_,_,_,_,_,_,_=>.bad
 | n+1,x0,x1,x2,x3,x4,k0,k1 =>
  cond (decide (x4.int<x3.int))
  (aY x4 x2
  (cond (((aM x2 x4 0).int==x1.int)==true)
  (cond ((aM x2 x4 1).bool==true)
  (cond (decide (x4.int<(((cO x0).drop 5).getD 0 dflt).int))
  (k0 (T.b true))
  (bX m n (T.l [(cO x0)]) x1 x2 x3 (bq x4) k0 k1))
  (bX m n (T.l [(cO x0)]) x1 x2 x3 (bq x4) k0 k1))
  (bX m n (T.l [(cO x0)]) x1 x2 x3 (bq x4) k0 k1)))
  (k1 )
def l5:Nat->T->T->(T->An)->An
 | 0,_,_,_=>.bad
 | m+1,x0,x1,k0 =>
  bX m m (T.l [(cO x0)]) x1 (((cO x0).drop 4).getD 0 dflt) (T.i ((((cO x0).drop 4).getD 0 dflt).rows.length:Int)) (T.i 0)
  (fun y3=>k0 y3)
  (k0 (T.b false))
def CU:PS CX aC:=fH PY (FN 95 [.EB [.sc (.int .i64),.sc (.int .i64),.sc (.int .i64),.sl tJ,.sl tC,.sc (.int .i64),.sl tS,.sl tW,.sl tW,.sl tB] [],.one (AI)] 2 1 l5 [.one (RB)]) Tryz.f95 ⟨95,2,36,16⟩ [L2 [0,1,0,1] ⟨[(0,.rp [([4000000],0)] [.sc (.int .i64),.sc (.int .i64),.sc (.int .i64),.sl tJ,.sl tC,.sc (.int .i64),.sl tS,.sl tW,.sl tW,.sl tB] []),(1,.one (LI)),(11,.one (LD tC)),(12,.one (LI)),(13,.one (LI))],[([4000000],.gone)]⟩ 5 1 0 bX .ret ⟨[(4,.one (LB))],[]⟩ (.exit 0) ⟨[],[]⟩]
def kD (m:Nat):Nat->T->T->T->T->T->T->T->T->T->T->T->T->T->T->T->T->T->(T->An)->(T->T->T->T->T->T->T->T->T->T->T->T->T->T->An)->An
 | 0,_,_,_,_,_,_,_,_,_,_,_,_,_,_,_,_,_,_,_=>.bad
 | n+1,x0,x1,x2,x3,x4,x5,x6,x7,x8,x9,x10,bT,eH,jK,nY,ug,uh,k0,k1 =>
  cond (decide (x6.int<x5.int))
  ((fun (j2:An) =>
  aY x6 x4
  (cond (((aM x4 x6 0).int==2)==true)
  (l5 m (T.l [[x7,x8,x9,(wL x10),(wL bT),eH,(wL jK),(wL nY),(wL ug),(wL uh)]]) (aM x4 x6 1)
  (fun y0=>cond (!y0.bool)
  (k0 (T.b false))
  (j2)))
  (j2)))
  (kD m n (T.i (x0.int.toNat:Int)) x1 x2 x3 x4 x5 (bq x6) x7 x8 x9 x10 bT eH jK nY ug uh k0 k1))
  (k1 (T.i (x0.int.toNat:Int)) x1 x2 x3 x7 x8 x9 x10 bT eH jK nY ug uh)
def kE (m:Nat):Nat->T->T->T->T->T->T->T->T->T->T->T->T->T->T->(T->An)->An->An
 | 0,_,_,_,_,_,_,_,_,_,_,_,_,_,_,_,_=>.bad
 | n+1,x0,x1,x2,x3,x4,x5,x6,x7,x8,x9,x10,bT,eH,jK,k0,k1 =>
  cond (decide (x3.int<x2.int))
  (aY x3 x1
  (kD m n (T.i (x0.int.toNat:Int)) x1 x2 x3 (aM x1 x3 1) (T.i ((aM x1 x3 1).rows.length:Int)) (T.i 0) x4 x5 x6 x7 x8 x9 x10 bT eH jK
  (fun y3=>k0 y3)
  (fun y4 y5 y6 y7 y8 y9 nK nE nN y13 oJ su vV uZ=>kE m n (T.i (y4.int.toNat:Int)) y5 y6 (bq y7) y8 y9 nK nE nN y13 oJ su vV uZ k0 k1)))
  (k1 )
def zq:Nat->T->T->T->T->T->T->T->T->T->T->(T->An)->An
 | 0,_,_,_,_,_,_,_,_,_,_,_=>.bad
 | m+1,x0,x1,x2,x3,x4,x5,x6,x7,x8,x9,k0 =>
  kE m m (T.i 0) (wL x6) (T.i (x6.rows.length:Int)) (T.i 0) x0 x1 x2 (wL x3) (wL x4) x5 (wL x6) (wL x7) (wL x8) (wL x9)
  (fun sU=>k0 sU)
  (k0 (T.b true))
def PZ:PS CX aC:=fH CU (FN 52 [.agg [AI,AI,AI,.dz tJ [],.dz tC [],AI,.dz tS [],.dz tW [],.dz tW [],.dz tB []]] 10 1 zq [.one (RB)]) Tryz.f52 ⟨52,1,32,4⟩ [L2 [0,1,1,0,0,1,1,0,0,1,0,1] ⟨[(1,EP 0),(8,.one (LD tS)),(9,.one (LI)),(10,.one (LI)),(15,.one (LD tR)),(16,.one (LI)),(17,.one (LI))],[((KI 0),.box [LI,LI,LI,LD tJ,LD tC,LI,LD tS,LD tW,LD tW,LD tB]),([4000000],.gone)]⟩ 17 1 14 kD .ret ⟨[(2,.one (LB))],[]⟩ (.exit 2) ⟨[(1,EP 0),(8,.one (LD tS)),(9,.one (LI)),(10,.one (LI))],[((KI 0),.box [LI,LI,LI,LD tJ,LD tC,LI,LD tS,LD tW,LD tW,LD tB]),([4000000],.gone)]⟩,L2 [0,1,0,1] ⟨[(1,EP 0),(8,.one (LD tS)),(9,.one (LI)),(10,.one (LI))],[((KI 0),.box [LI,LI,LI,LD tJ,LD tC,LI,LD tS,LD tW,LD tW,LD tB]),([4000000],.gone)]⟩ 14 1 0 kE .ret ⟨[(2,.one (LB))],[]⟩ (.exit 0) ⟨[],[]⟩]
def iO (m:Nat):Nat->T->T->T->T->T->T->(T->An)->An
 | 0,_,_,_,_,_,_,_=>.bad
 | n+1,x0,x1,x2,x3,x4,x5,k0 =>
  cond (decide (x4.int<x3.int))
  (aY x4 x2
  (rU m (aM x2 x4 1) x1
  (fun y0=>cond (y0.int==x0.int)
  (cond (decide ((x5.rows.length+1) * 3<=ay))
  (iO m n x0 x1 x2 x3 (bq x4) (T.l (x5.rows++[[(aM x2 x4 0),(aM x2 x4 1),(aM x2 x4 2)]])) k0)
  (.bad))
  (iO m n x0 x1 x2 x3 (bq x4) (wL x5) k0))))
  (k0 (wL x5))
def zu:Nat->T->T->T->(T->An)->An
 | 0,_,_,_,_=>.bad
 | m+1,x0,x1,x2,k0 =>
  iO m m x1 x2 (wL x0) (T.i (x0.rows.length:Int)) (T.i 0) (T.l [])
  (fun y3=>k0 (wL y3))
def P5:PS CX aC:=fH PZ (FN 98 [.one (.dz tO []),.one (AI),.one (AI)] 3 1 zu [.one (.own (KR 0 0) tO m3 [])]) Tryz.f98 ⟨98,3,28,64⟩ [L1 [0,1,0,1,1] ⟨[(1,.one (LI)),(2,.one (LI)),(7,.one (LA (KI 0) tO)),(10,.one (LD tO)),(11,.one (LI)),(12,.one (LI))],[((KI 0),.row tO m3 []),([4000000],.gone)]⟩ 6 1 iO (.exit 0) ⟨[(7,.one (LA (KI 0) tO))],[((KI 0),.row tO m3 [])]⟩]
def lG (m:Nat):Nat->T->T->T->T->T->T->T->T->T->T->T->T->T->T->T->T->T->T->T->T->T->T->T->(T->An)->(T->T->T->T->T->T->T->T->T->T->T->T->T->T->An)->An
 | 0,_,_,_,_,_,_,_,_,_,_,_,_,_,_,_,_,_,_,_,_,_,_,_,_,_=>.bad
 | n+1,x0,x1,x2,x3,x4,x5,x6,x7,x8,x9,x10,bT,eH,jK,nY,ug,uh,vB,x18,CG,x20,x21,IW,k0,k1 =>
  cond (decide (x7.int<x6.int))
  ((fun (j4:An) =>
  aY x7 x5
  (cond ((aM x5 x7 0).int != 1)
  (j4)
  (eF m (T.l [[x8,x9,x10,(wL bT),(wL eH),jK,(wL nY),(wL ug),(wL uh),(wL vB)]]) (aM x5 x7 1)
  (fun y0=>cond ((decide (y0.int<0))==false)
  (aY y0 vB
  (zu m (wL (qB vB y0 1)) x18 x8
  (fun y1=>bU m (wL y1) (wL (aM x5 x7 2))
  (fun y2=>cond (!y2.bool)
  (k0 (T.b false))
  (j4)))))
  (k0 (T.b false))))))
  (lG m n (T.i (x0.int.toNat:Int)) (T.i (x1.int.toNat:Int)) x2 x3 x4 x5 x6 (bq x7) x8 x9 x10 bT eH jK nY ug uh vB x18 CG x20 x21 IW k0 k1))
  (k1 (T.i (x0.int.toNat:Int)) x2 x3 x4 x8 x9 x10 bT eH jK nY ug uh vB)
def lH (m:Nat):Nat->T->T->T->T->T->T->T->T->T->T->T->T->T->T->(T->An)->An->An
 | 0,_,_,_,_,_,_,_,_,_,_,_,_,_,_,_,_=>.bad
 | n+1,x0,x1,x2,x3,x4,x5,x6,x7,x8,x9,x10,bT,eH,jK,k0,k1 =>
  cond (decide (x3.int<x2.int))
  (aY x3 x1
  (lG m n (T.i (x0.int.toNat:Int)) (T.i 0) x1 x2 x3 (aM x1 x3 1) (T.i ((aM x1 x3 1).rows.length:Int)) (T.i 0) x4 x5 x6 x7 x8 x9 x10 bT eH jK (aM x1 x3 0) (aM x1 x3 1) (aM x1 x3 2) (aM x1 x3 3) (aM x1 x3 4)
  (fun y5=>k0 y5)
  (fun y6 y7 y8 y9 nK nE nN y13 oJ su vV uZ sU AU=>lH m n (T.i (y6.int.toNat:Int)) y7 y8 (bq y9) nK nE nN y13 oJ su vV uZ sU AU k0 k1)))
  (k1 )
def Ca:Nat->T->T->T->T->T->T->T->T->T->T->(T->An)->An
 | 0,_,_,_,_,_,_,_,_,_,_,_=>.bad
 | m+1,x0,x1,x2,x3,x4,x5,x6,x7,x8,x9,k0 =>
  lH m m (T.i 0) (wL x6) (T.i (x6.rows.length:Int)) (T.i 0) x0 x1 x2 (wL x3) (wL x4) x5 (wL x6) (wL x7) (wL x8) (wL x9)
  (fun y20=>k0 y20)
  (k0 (T.b true))
def TD:PS CX aC:=fH P5 (FN 53 [.agg [AI,AI,AI,.dz tJ [],.dz tC [],AI,.dz tS [],.dz tW [],.dz tW [],.dz tB []]] 10 1 Ca [.one (RB)]) Tryz.f53 ⟨53,1,50,4⟩ [L2 [0,1,1,0,0,1,1,0,0,1,0,1] ⟨[(1,EP 0),(4,EP 1),(9,.one (LD tS)),(10,.one (LI)),(11,.one (LI)),(16,.one (LD tR)),(17,.one (LI)),(18,.one (LI))],[((KI 0),.box [LI,LI,LI,LD tJ,LD tC,LI,LD tS,LD tW,LD tW,LD tB]),((KI 1),.box [LI,LD tR,LI,LD tP,LD tR]),([4000000],.gone)]⟩ 23 1 14 lG .ret ⟨[(2,.one (LB))],[]⟩ (.exit 2) ⟨[(1,EP 0),(9,.one (LD tS)),(10,.one (LI)),(11,.one (LI))],[((KI 0),.box [LI,LI,LI,LD tJ,LD tC,LI,LD tS,LD tW,LD tW,LD tB]),([4000000],.gone)]⟩,L2 [0,1,0,1] ⟨[(1,EP 0),(9,.one (LD tS)),(10,.one (LI)),(11,.one (LI))],[((KI 0),.box [LI,LI,LI,LD tJ,LD tC,LI,LD tS,LD tW,LD tW,LD tB]),([4000000],.gone)]⟩ 14 1 0 lH .ret ⟨[(2,.one (LB))],[]⟩ (.exit 0) ⟨[],[]⟩]
def bZ (m:Nat):Nat->T->T->T->T->(T->An)->An->An
 | 0,_,_,_,_,_,_=>.bad
 | n+1,x0,x1,x2,x3,k0,k1 =>
  cond (decide (x3.int<x2.int))
  (aY x3 x1
  (cond (((aM x1 x3 1).int==x0.int)==true)
  (cond (((aM x1 x3 0).int==1)==false)
  (cond ((aM x1 x3 0).int==2)
  (k0 (T.b true))
  (bZ m n x0 x1 x2 (bq x3) k0 k1))
  (k0 (T.b true)))
  (bZ m n x0 x1 x2 (bq x3) k0 k1)))
  (k1 )
def kN:Nat->T->T->(T->An)->An
 | 0,_,_,_=>.bad
 | m+1,x0,x1,k0 =>
  cond (decide ((0:Int)<=(zA 0 (zy (((cO x0).drop 2).getD 0 dflt).int ((((cO x0).drop 1).getD 0 dflt).rows.length:Int)))/\(zA 0 (zy (((cO x0).drop 2).getD 0 dflt).int ((((cO x0).drop 1).getD 0 dflt).rows.length:Int)))<=((((cO x0).drop 1).getD 0 dflt).rows.length:Int)))
  (cond (decide ((0:Int)<=0/\0<=(zA 0 (zy (((cO x0).drop 2).getD 0 dflt).int ((((cO x0).drop 1).getD 0 dflt).rows.length:Int)))))
  (bZ m m x1 (T.l ((((cO x0).drop 1).getD 0 dflt).rows.take (Int.toNat (zA 0 (zy (((cO x0).drop 2).getD 0 dflt).int ((((cO x0).drop 1).getD 0 dflt).rows.length:Int)))))) (T.i (((((cO x0).drop 1).getD 0 dflt).rows.take (Int.toNat (zA 0 (zy (((cO x0).drop 2).getD 0 dflt).int ((((cO x0).drop 1).getD 0 dflt).rows.length:Int))))).length:Int)) (T.i 0)
  (fun y1=>k0 y1)
  (k0 (T.b false)))
  (.bad))
  (.bad)
def Au:PS CX aC:=fH TD (FN 99 [.EB tS [],.one (AI)] 2 1 kN [.one (RB)]) Tryz.f99 ⟨99,2,45,16⟩ [L2 [0,1,0,1,1] ⟨[(1,.one (LI)),(24,.one (LD tR)),(25,.one (LI)),(26,.one (LI))],[([4000000],.gone)]⟩ 4 1 0 bZ .ret ⟨[(4,.one (LB))],[]⟩ (.exit 0) ⟨[],[]⟩]
def iP (m:Nat):Nat->T->T->T->T->T->T->T->T->T->T->T->T->T->T->T->T->T->T->T->T->(T->An)->(T->T->T->T->T->T->T->T->T->T->T->T->T->T->An)->An
 | 0,_,_,_,_,_,_,_,_,_,_,_,_,_,_,_,_,_,_,_,_,_,_=>.bad
 | n+1,x0,x1,x2,x3,x4,x5,x6,x7,x8,x9,x10,bT,eH,jK,nY,ug,uh,vB,x18,CG,k0,k1 =>
  cond (decide (x7.int<x6.int))
  ((fun (j4:An) =>
  aY x7 x5
  (cond ((decide ((aM x5 x7 0).int>=(nY.rows.length:Int)))==false)
  (cond (decide ((0:Int)<=(aM x5 x7 0).int/\(aM x5 x7 0).int<(nY.rows.length:Int)))
  (kN m (T.l [((nY.rows.getD (Int.toNat (aM x5 x7 0).int) []).take 5)]) x18
  (fun y2=>cond (!y2.bool)
  (k0 (T.b false))
  (j4)))
  (.bad))
  (k0 (T.b false))))
  (iP m n (T.i (x0.int.toNat:Int)) (T.i (x1.int.toNat:Int)) x2 x3 x4 x5 x6 (bq x7) x8 x9 x10 bT eH jK nY ug uh vB x18 CG k0 k1))
  (k1 (T.i (x0.int.toNat:Int)) x2 x3 x4 x8 x9 x10 bT eH jK nY ug uh vB)
def iQ (m:Nat):Nat->T->T->T->T->T->T->T->T->T->T->T->T->T->T->(T->An)->An->An
 | 0,_,_,_,_,_,_,_,_,_,_,_,_,_,_,_,_=>.bad
 | n+1,x0,x1,x2,x3,x4,x5,x6,x7,x8,x9,x10,bT,eH,jK,k0,k1 =>
  cond (decide (x3.int<x2.int))
  ((fun (j48:T->T->T->T->T->T->T->T->T->T->T->T->T->T->An) =>
  aY x3 x1
  (cond (!(aM x1 x3 1).bool)
  (j48 (T.i (x0.int.toNat:Int)) x1 x2 x3 x4 x5 x6 x7 x8 x9 x10 bT eH jK)
  (eF m (T.l [[x4,x5,x6,(wL x7),(wL x8),x9,(wL x10),(wL bT),(wL eH),(wL jK)]]) (aM x1 x3 0)
  (fun y0=>cond (decide (y0.int<0))
  (k0 (T.b false))
  (aY y0 jK
  (nP m (wL (qB jK y0 1)) x4
  (fun y1=>iP m n (T.i (x0.int.toNat:Int)) (T.i 0) x1 x2 x3 (wL y1) (T.i (y1.rows.length:Int)) (T.i 0) x4 x5 x6 x7 x8 x9 x10 bT eH jK (aM x1 x3 0) (aM x1 x3 1)
  (fun y5=>k0 y5)
  (fun y6 y7 y8 y9 nK nE nN y13 oJ su vV uZ sU AU=>j48 (T.i (y6.int.toNat:Int)) y7 y8 y9 nK nE nN y13 oJ su vV uZ sU AU))))))))
  (fun y34 Ub Vq Vr y38 y39 Py Zb XQ Zc Zd XR XT y47=>iQ m n (T.i (y34.int.toNat:Int)) Ub Vq (bq Vr) y38 y39 Py Zb XQ Zc Zd XR XT y47 k0 k1))
  (k1 )
def uD:Nat->T->T->T->T->T->T->T->T->T->T->(T->An)->An
 | 0,_,_,_,_,_,_,_,_,_,_,_=>.bad
 | m+1,x0,x1,x2,x3,x4,x5,x6,x7,x8,x9,k0 =>
  iQ m m (T.i 0) (wL x4) (T.i (x4.rows.length:Int)) (T.i 0) x0 x1 x2 (wL x3) (wL x4) x5 (wL x6) (wL x7) (wL x8) (wL x9)
  (fun y49=>k0 y49)
  (k0 (T.b true))
def KT:PS CX aC:=fH Au (FN 54 [.agg [AI,AI,AI,.dz tJ [],.dz tC [],AI,.dz tS [],.dz tW [],.dz tW [],.dz tB []]] 10 1 uD [.one (RB)]) Tryz.f54 ⟨54,1,56,4⟩ [L2 [0,1,1,1,1,1,0,0,1,1,0,0,1,0,1] ⟨[(1,EP 0),(4,EP 1),(10,.one (LD tC)),(11,.one (LI)),(12,.one (LI)),(33,.one (LZ tI)),(34,.one (LI)),(35,.one (LI))],[((KI 0),.box [LI,LI,LI,LD tJ,LD tC,LI,LD tS,LD tW,LD tW,LD tB]),((KI 1),.box [LI,LB]),([4000000],.gone)]⟩ 20 1 14 iP .ret ⟨[(2,.one (LB))],[]⟩ (.exit 2) ⟨[(1,EP 0),(10,.one (LD tC)),(11,.one (LI)),(12,.one (LI))],[((KI 0),.box [LI,LI,LI,LD tJ,LD tC,LI,LD tS,LD tW,LD tW,LD tB]),([4000000],.gone)]⟩,L2 [0,1,0,1] ⟨[(1,EP 0),(10,.one (LD tC)),(11,.one (LI)),(12,.one (LI))],[((KI 0),.box [LI,LI,LI,LD tJ,LD tC,LI,LD tS,LD tW,LD tW,LD tB]),([4000000],.gone)]⟩ 14 1 0 iQ .ret ⟨[(2,.one (LB))],[]⟩ (.exit 0) ⟨[],[]⟩]
def iR (m:Nat):Nat->T->T->T->T->(T->An)->An->An
 | 0,_,_,_,_,_,_=>.bad
 | n+1,x0,x1,x2,x3,k0,k1 =>
  cond (decide (x3.int<x2.int))
  (aY x3 x0
  (cond (x1.bool==(aM x0 x3 0).bool)
  (k0 x3)
  (iR m n x0 x1 x2 (bq x3) k0 k1)))
  (k1 )
def kY:Nat->T->T->(T->An)->An
 | 0,_,_,_=>.bad
 | m+1,x0,x1,k0 =>
  iR m m (wL x0) x1 (T.i (x0.rows.length:Int)) (T.i 0)
  (fun y0=>k0 y0)
  (k0 (T.i (-1)))
def wP:PS CX aC:=fH KT (FN 55 [.one (.dz [.sc (.bool)] []),.one (AB)] 2 1 kY [.one (RI)]) Tryz.f55 ⟨55,2,19,16⟩ [L2 [0,1,0,1] ⟨[(0,.one (LD [.sc (.bool)])),(1,.one (LB)),(7,.one (LI)),(8,.one (LI))],[([4000000],.gone)]⟩ 4 1 0 iR .ret ⟨[(4,.one (LI))],[]⟩ (.exit 0) ⟨[],[]⟩]
def Ep:Nat->T->T->T->T->T->T->T->T->T->T->(T->An)->An
 | 0,_,_,_,_,_,_,_,_,_,_,_=>.bad
 | m+1,x0,x1,x2,x3,x4,x5,x6,x7,x8,x9,k0 =>
  rX m x0 x1 x2 (wL x3) (wL x4) x5 (wL x6) (wL x7) (wL x8) (wL x9)
  (fun y0=>wE m x0 x1 x2 (wL x3) (wL x4) x5 (wL x6) (wL x7) (wL x8) (wL x9)
  (fun y1=>zq m x0 x1 x2 (wL x3) (wL x4) x5 (wL x6) (wL x7) (wL x8) (wL x9)
  (fun y2=>Ca m x0 x1 x2 (wL x3) (wL x4) x5 (wL x6) (wL x7) (wL x8) (wL x9)
  (fun y3=>uD m x0 x1 x2 (wL x3) (wL x4) x5 (wL x6) (wL x7) (wL x8) (wL x9)
  (fun y4=>kY m (T.l [[y0],[y1],[y2],[y3],[y4]]) (T.b false)
  (fun y5=>k0 (T.i (IntKind.i64.wrap (1+y5.int)))))))))
def Vz:PS CX aC:=fH wP (FN 20 [.agg [AI,AI,AI,.dz tJ [],.dz tC [],AI,.dz tS [],.dz tW [],.dz tW [],.dz tB []]] 10 1 Ep [.one (RI)]) Tryz.f20 ⟨20,1,18,4⟩
def iT (m:Nat):Nat->T->T->T->T->T->T->T->T->T->T->T->T->T->(T->An)->An->An
 | 0,_,_,_,_,_,_,_,_,_,_,_,_,_,_,_=>.bad
 | n+1,x0,x1,x2,x3,x4,x5,x6,x7,x8,x9,x10,bT,eH,k0,k1 =>
  mU x2 eH
  (aY x2 eH
  (cond ((aM eH x2 0).int==x0.int)
  (k0 x2)
  (iT m n x0 (T.i (x1.int.toNat:Int)) (bq x2) x3 x4 x5 x6 x7 x8 x9 x10 bT eH k0 k1)))
  (k1 )
def uE:Nat->T->T->T->T->T->T->T->T->T->T->T->(T->An)->An
 | 0,_,_,_,_,_,_,_,_,_,_,_,_=>.bad
 | m+1,x0,x1,x2,x3,x4,x5,x6,x7,x8,x9,x10,k0 =>
  iT m m x10 (T.i 0) (T.i 0) x0 x1 x2 (wL x3) (wL x4) x5 (wL x6) (wL x7) (wL x8) (wL x9)
  (fun y0=>k0 y0)
  (k0 (T.i (-1)))
def KU:PS CX aC:=fH Vz (FN 59 [.agg [AI,AI,AI,.dz tJ [],.dz tC [],AI,.dz tS [],.dz tW [],.dz tW [],.dz tB []],.one (AI)] 11 1 uE [.one (RI)]) Tryz.f59 ⟨59,2,22,16⟩ [L2 [0,1,0,1] ⟨[(1,.one (LI)),(2,EP 0),(5,.one (LI))],[((KI 0),.box [LI,LI,LI,LD tJ,LD tC,LI,LD tS,LD tW,LD tW,LD tB]),([4000000],.gone)]⟩ 13 1 0 iT .ret ⟨[(4,.one (LI))],[]⟩ (.exit 0) ⟨[],[]⟩]
def lI (m:Nat):Nat->T->T->T->T->T->T->T->T->T->T->T->T->T->(T->An)->An
 | 0,_,_,_,_,_,_,_,_,_,_,_,_,_,_=>.bad
 | n+1,x0,x1,x2,x3,x4,x5,x6,x7,x8,x9,x10,bT,eH,k0 =>
  jn (fun (j8:An) =>
  cond ((decide (x1.int<(x6.rows.length:Int)))==true)
  (cond (decide (x1.int<x7.int))
  (j8)
  (k0 (wL eH)))
  (k0 (wL eH)))
  ((fun (j7:T->An) =>
  aY x1 x6
  (uE m x2 x3 x4 (wL x5) (wL x6) x7 (wL x8) (wL x9) (wL x10) (wL bT) (aM x6 x1 0)
  (fun y1=>jn (fun (j4:T->An) =>
  aY x1 x6
  (cond ((qB x6 x1 1).bool==true)
  (j4 (T.b (decide (y1.int>=0))))
  (j4 (T.b false))))
  (fun y2=>cond y2.bool
  (aY y1 bT
  (xV m (wL eH) (wL (qB bT y1 1))
  (fun y3=>j7 (wL y3))))
  (j7 (wL eH))))))
  (fun y6=>lI m n (T.i (x0.int.toNat:Int)) (bq x1) x2 x3 x4 x5 x6 x7 x8 x9 x10 bT (wL y6) k0))
def Cb:Nat->T->T->T->T->T->T->T->T->T->T->(T->An)->An
 | 0,_,_,_,_,_,_,_,_,_,_,_=>.bad
 | m+1,x0,x1,x2,x3,x4,x5,x6,x7,x8,x9,k0 =>
  lI m m (T.i 0) (T.i 0) x0 x1 x2 (wL x3) (wL x4) x5 (wL x6) (wL x7) (wL x8) (wL x9) (T.l [])
  (fun y9=>k0 (wL y9))
def Ht:PS CX aC:=fH KU (FN 25 [.agg [AI,AI,AI,.dz tJ [],.dz tC [],AI,.dz tS [],.dz tW [],.dz tW [],.dz tB []]] 10 1 Cb [.one (.own (KR 0 0) tP m2 [])]) Tryz.f25 ⟨25,1,51,4⟩ [L1 [0,1,0,1,1] ⟨[(1,EP 0),(3,.one (LA (KI 1) tP)),(4,.one (LI))],[((KI 0),.box [LI,LI,LI,LD tJ,LD tC,LI,LD tS,LD tW,LD tW,LD tB]),((KI 1),.row tP m2 []),([4000000],.gone)]⟩ 13 1 lI (.exit 0) ⟨[(3,.one (LA (KI 0) tP))],[((KI 0),.row tP m2 [])]⟩]
def zX:Nat->T->(T->An)->An
 | 0,_,_=>.bad
 | m+1,x0,k0 =>
  Hg m (wL x0)
  (fun y0=>cond y0.bool
  (k0 (T.b true))
  (rH m (wL x0)
  (fun y1 y2 y3 y4 y5 y6 y7 y8 y9 nK=>Lx m y1 y2 y3 (wL y4) (wL y5) y6 (wL y7) (wL y8) (wL y9) (wL nK) (T.i 10) (T.i 0) (T.i 0) (T.l [])
  (fun nE nN y13 oJ su vV uZ sU AU y20 y21=>cond (y21.bool==true)
  (tq m nE nN y13 (wL oJ) (wL su) vV (wL uZ) (wL sU) (wL AU) (wL y20)
  (fun y22=>tq m y1 y2 y3 (wL y4) (wL y5) y6 (wL y7) (wL y8) (wL y9) (wL nK)
  (fun y23=>mI m (wL y22) (wL y23)
  (fun y24=>cond (y24.bool==true)
  (vk m nE nN y13 (wL oJ) (wL su) vV (wL uZ) (wL sU) (wL AU) (wL y20)
  (fun y25=>vk m y1 y2 y3 (wL y4) (wL y5) y6 (wL y7) (wL y8) (wL y9) (wL nK)
  (fun Lu=>mI m (wL y25) (wL Lu)
  (fun y27=>cond (y27.bool==true)
  (Ep m nE nN y13 (wL oJ) (wL su) vV (wL uZ) (wL sU) (wL AU) (wL y20)
  (fun y28=>cond ((y28.int==0)==true)
  (tq m y1 y2 y3 (wL y4) (wL y5) y6 (wL y7) (wL y8) (wL y9) (wL nK)
  (fun y29=>Cb m y1 y2 y3 (wL y4) (wL y5) y6 (wL y7) (wL y8) (wL y9) (wL nK)
  (fun Lv=>mI m (wL y29) (wL Lv)
  (fun y31=>k0 (T.b y31.bool)))))
  (k0 (T.b false))))
  (k0 (T.b false))))))
  (k0 (T.b false))))))
  (k0 (T.b false))))))
def vM:Fs:=⟨5,[.one (.fz tU [])],fun m vs k=>ap 1 (zX m) vs (lm 1 fun z=>k (XI ⟨[.one (RB)],[[none]],[none]⟩ z))⟩
theorem KV:Ns CX aC (vM::Ht.l)/\XJ CX aC vM:=fnG Ht.g vM Tryz.f5 ⟨5,1,43,4⟩ [] (fun _ _=>rfl) (fun _ _ _=>by kernel_rfl) trivial trivial (fun _ _ _ _ _=>by kernel_rfl)
end
end Go.Proofs.YtpchnmbcbcfhjaaGreat

