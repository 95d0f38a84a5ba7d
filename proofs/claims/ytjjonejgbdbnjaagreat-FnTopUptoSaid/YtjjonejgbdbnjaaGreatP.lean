/- A part of the proof: texts TP: see the last part's opening words. -/
import Derived.Test.YtjjonejgbdbnjaaGreatH
set_option linter.unusedVariables false
set_option linter.unusedSimpArgs false
set_option linter.unnecessarySimpa false
namespace Go.Proofs.YtjjonejgbdbnjaaGreat
open Go Go.E Go.Proofs
noncomputable section
def IU:Nat->T->(T->An)->An
 | 0,_,_=>.bad
 | m+1,x0,k0=>k0 (T.l (zS x0.rows))
def Da:List Arg:=[.one (.own tI [.F] [])]
def KN (m:Nat) (vs:List T) (k:gD->An):An:=IU m (vs.headD dflt) (fun z0=>k ⟨[],[[some (tI,[.F],z0.rows)]],[]⟩)
theorem IV (m:Nat) : ∀ vs k,mK CX au m 70 (fArgs Da vs) k=KN m vs k:=by
 intro vs k
 cases m with
 | zero=>rfl
 | succ m =>
  refine Eq.trans (b:=(IJ (fArgs Da vs)).bind k) (by kernel_rfl) ?_
  rfl
def Db:Fs:=⟨70,Da,KN⟩
def KO:List Fs:=Db::[]
theorem WK:aM CX au KO/\aY CX au Db:=⟨qO ahx (x:=Db) IV,IV⟩
def slices_Compact:Nat->T->(T->An)->An
 | 0,_,_=>.bad
 | m+1,x0,k0=>k0 (T.l (qm x0.rows))
def vI:List Arg:=[.one (.own tI [.F] [])]
def Ee (m:Nat) (vs:List T) (k:gD->An):An:=slices_Compact m (vs.headD dflt) (fun z0=>k ⟨[.one (.own [7000000] tI [.F] z0.rows)],[[none]],[]⟩)
theorem BO (m:Nat) : ∀ vs k,mK CX au m 72 (fArgs vI vs) k=Ee m vs k:=by
 intro vs k
 cases m with
 | zero=>rfl
 | succ m =>
  refine Eq.trans (b:=(w9 (fArgs vI vs)).bind k) (by kernel_rfl) ?_
  rfl
def vJ:Fs:=⟨72,vI,Ee⟩
def Ef:List Fs:=vJ::KO
theorem Pn:aM CX au Ef/\aY CX au vJ:=⟨qO WK.1 (x:=vJ) BO,BO⟩
def eD:Nat->T->(T->An)->An
 | 0,_,_=>.bad
 | m+1,x0,k0=>cond (decide (x0.rows.length * 3<=aD)) (k0 (T.l x0.rows)) .bad
def gG:List Arg:=[.one (.dz tO [])]
def mM (m:Nat) (vs:List T) (k:gD->An):An:=eD m (vs.headD dflt) (fun z0=>k ⟨[.one (.own [7000000] tO m3 z0.rows)],[[none]],[]⟩)
theorem mo (m:Nat) : ∀ vs k,mK CX au m 144 (fArgs gG vs) k=mM m vs k:=by
 intro vs k
 cases m with
 | zero=>rfl
 | succ m =>
  refine Eq.trans (b:=((vG tO) (fArgs gG vs)).bind k) (by kernel_rfl) ?_
  refine Eq.trans (b:=(cond (decide ((vs.headD dflt).rows.length * 3<=aD)) (R3.ok ⟨[.one (.own [7000000] tO m3 (vs.headD dflt).rows)],[[none]],[]⟩) .bad).bind k) (by kernel_rfl) ?_
  rw [iO]; rfl
def gH:Fs:=⟨144,gG,mM⟩
def mO:List Fs:=gH::Ef
theorem ug:aM CX au mO/\aY CX au gH:=⟨qO Pn.1 (x:=gH) mo,mo⟩
def dJ:Nat->T->(T->An)->An
 | 0,_,_=>.bad
 | m+1,x0,k0=>cond (decide (x0.rows.length * 2<=aD)) (k0 (T.l x0.rows)) .bad
def fq:List Arg:=[.one (.dz tP [])]
def jQ (m:Nat) (vs:List T) (k:gD->An):An:=dJ m (vs.headD dflt) (fun z0=>k ⟨[.one (.own [7000000] tP m2 z0.rows)],[[none]],[]⟩)
theorem jD (m:Nat) : ∀ vs k,mK CX au m 80 (fArgs fq vs) k=jQ m vs k:=by
 intro vs k
 cases m with
 | zero=>rfl
 | succ m =>
  refine Eq.trans (b:=((vG tP) (fArgs fq vs)).bind k) (by kernel_rfl) ?_
  refine Eq.trans (b:=(cond (decide ((vs.headD dflt).rows.length * 2<=aD)) (R3.ok ⟨[.one (.own [7000000] tP m2 (vs.headD dflt).rows)],[[none]],[]⟩) .bad).bind k) (by kernel_rfl) ?_
  rw [iO]; rfl
def fu:Fs:=⟨80,fq,jQ⟩
def jR:List Fs:=fu::mO
theorem qQ:aM CX au jR/\aY CX au fu:=⟨qO ug.1 (x:=fu) jD,jD⟩
def fH:Nat->T->T->T->(T->An)->An
 | 0,_,_,_,_=>.bad
 | m+1,x0,x1,x2,k0=>cond (decide (0<=x1.int/\x1.int<=(x0.rows.length:Int))&&decide (0<x2.rows.length)&&decide ((x0.rows.length+x2.rows.length) * 2<=aD)) (k0 (T.l (x0.rows.take x1.int.toNat++x2.rows++x0.rows.drop x1.int.toNat))) .bad
def eG:List Arg:=[.one (.own tP m2 []),.one (AI),.one (.own tP m2 [])]
def jE (m:Nat) (vs:List T) (k:gD->An):An:=fH m (vs.headD dflt) (vs.tail.headD dflt) (vs.tail.tail.headD dflt) (fun z0=>k ⟨[.one (.own [7000000] tP m2 z0.rows)],[[none],[none],[none]],[]⟩)
theorem jy (m:Nat) : ∀ vs k,mK CX au m 112 (fArgs eG vs) k=jE m vs k:=by
 intro vs k
 cases m with
 | zero=>rfl
 | succ m =>
  refine Eq.trans (b:=((zT tP) (fArgs eG vs)).bind k) (by kernel_rfl) ?_
  refine Eq.trans (b:=(cond (decide (0<=(vs.tail.headD dflt).int/\(vs.tail.headD dflt).int<=((vs.headD dflt).rows.length:Int))&&decide (0<(vs.tail.tail.headD dflt).rows.length)&&decide (((vs.headD dflt).rows.length+(vs.tail.tail.headD dflt).rows.length) * 2<=aD)) (R3.ok ⟨[.one (.own [7000000] tP m2 ((vs.headD dflt).rows.take (vs.tail.headD dflt).int.toNat++(vs.tail.tail.headD dflt).rows++(vs.headD dflt).rows.drop (vs.tail.headD dflt).int.toNat))],[[none],[none],[none]],[]⟩) .bad).bind k) (by kernel_rfl) ?_
  rw [iO]; rfl
def eH:Fs:=⟨112,eG,jE⟩
def jF:List Fs:=eH::jR
theorem qp:aM CX au jF/\aY CX au eH:=⟨qO qQ.1 (x:=eH) jy,jy⟩
def BP:Nat->T->T->(T->An)->An
 | 0,_,_,_=>.bad
 | m+1,x0,x1,k0=>cond (decide (x0.rows.length * 2<=aD)) (k0 (T.l (BN x0.rows x1))) .bad
def Dc:List Arg:=[.one (.dz tP []),.one (AS)]
def KP (m:Nat) (vs:List T) (k:gD->An):An:=BP m (vs.headD dflt) (vs.tail.headD dflt) (fun z0=>k ⟨[.one (.own [7000000] [.sc .str,.sc .str] m2 z0.rows)],[[none],[none]],[]⟩)
theorem IW (m:Nat) : ∀ vs k,mK CX au m 82 (fArgs Dc vs) k=KP m vs k:=by
 intro vs k
 cases m with
 | zero=>rfl
 | succ m =>
  refine Eq.trans (b:=(zV (fArgs Dc vs)).bind k) (by kernel_rfl) ?_
  refine Eq.trans (b:=(cond (decide ((vs.headD dflt).rows.length * 2<=aD)) (R3.ok ⟨[.one (.own [7000000] [.sc .str,.sc .str] m2 (BN (vs.headD dflt).rows (vs.tail.headD dflt)))],[[none],[none]],[]⟩) .bad).bind k) (by kernel_rfl) ?_
  rw [iO]; rfl
def Dh:Fs:=⟨82,Dc,KP⟩
def KQ:List Fs:=Dh::jF
theorem WL:aM CX au KQ/\aY CX au Dh:=⟨qO qp.1 (x:=Dh) IW,IW⟩
def bW:Nat->T->T->T->(T->An)->An
 | 0,_,_,_,_=>.bad
 | m+1,x0,x1,x2,k0=>cond (decide (0<=x1.int/\x1.int<x2.int/\x2.int<=(x0.rows.length:Int))) (k0 (T.l (x0.rows.take x1.int.toNat++x0.rows.drop x2.int.toNat))) .bad
def fI:List Arg:=[.one (.own tR m3 []),.one (AI),.one (AI)]
def kU (m:Nat) (vs:List T) (k:gD->An):An:=bW m (vs.headD dflt) (vs.tail.headD dflt) (vs.tail.tail.headD dflt) (fun z0=>k ⟨[.one (.own [7000000] tR m3 z0.rows)],[[none],[none],[none]],[]⟩)
theorem jS (m:Nat) : ∀ vs k,mK CX au m 145 (fArgs fI vs) k=kU m vs k:=by
 intro vs k
 cases m with
 | zero=>rfl
 | succ m =>
  refine Eq.trans (b:=((zU tR) (fArgs fI vs)).bind k) (by kernel_rfl) ?_
  refine Eq.trans (b:=(cond (decide (0<=(vs.tail.headD dflt).int/\(vs.tail.headD dflt).int<(vs.tail.tail.headD dflt).int/\(vs.tail.tail.headD dflt).int<=((vs.headD dflt).rows.length:Int))) (R3.ok ⟨[.one (.own [7000000] tR m3 ((vs.headD dflt).rows.take (vs.tail.headD dflt).int.toNat++(vs.headD dflt).rows.drop (vs.tail.tail.headD dflt).int.toNat))],[[none],[none],[none]],[]⟩) .bad).bind k) (by kernel_rfl) ?_
  rw [iO]; rfl
def fJ:Fs:=⟨145,fI,kU⟩
def kV:List Fs:=fJ::KQ
theorem rG:aM CX au kV/\aY CX au fJ:=⟨qO WL.1 (x:=fJ) jS,jS⟩
def uI:Nat->T->T->T->T->T->T->T->T->T->T->(T->An)->An
 | 0,_,_,_,_,_,_,_,_,_,_,_=>.bad
 | m+1,x0,x1,x2,x3,x4,x5,x6,x7,x8,x9,k0=>cond (decide ((vH x6.rows).length<=aD)) (k0 (T.b (nsB (vH x6.rows)))) .bad
def zW:List Arg:=[.agg [AI,AI,AI,.dz tJ [],.dz tC [],AI,.dz tS [],.dz tW [],.dz tW [],.dz tB []]]
def IX (m:Nat) (vs:List T) (k:gD->An):An:=uI m (vs.headD dflt) (vs.tail.headD dflt) (vs.tail.tail.headD dflt) (vs.tail.tail.tail.headD dflt) (vs.tail.tail.tail.tail.headD dflt) (vs.tail.tail.tail.tail.tail.headD dflt) (vs.tail.tail.tail.tail.tail.tail.headD dflt) (vs.tail.tail.tail.tail.tail.tail.tail.headD dflt) (vs.tail.tail.tail.tail.tail.tail.tail.tail.headD dflt) (vs.tail.tail.tail.tail.tail.tail.tail.tail.tail.headD dflt) (fun z0=>k ⟨[.one (.sc .bool z0)],[List.replicate 10 none],[]⟩)
theorem GX (m:Nat) : ∀ vs k,mK CX au m 9 (fArgs zW vs) k=IX m vs k:=by
 intro vs k
 cases m with
 | zero=>rfl
 | succ m =>
  refine Eq.trans (b:=(xg (fArgs zW vs)).bind k) (by kernel_rfl) ?_
  refine Eq.trans (b:=(cond (decide ((vH (vs.tail.tail.tail.tail.tail.tail.headD dflt).rows).length<=aD)) (R3.ok ⟨[.one (.sc .bool (.b (nsB (vH (vs.tail.tail.tail.tail.tail.tail.headD dflt).rows))))],[List.replicate 10 none],[]⟩) .bad).bind k) (by kernel_rfl) ?_
  rw [iO]; rfl
def zX:Fs:=⟨9,zW,IX⟩
def IY:List Fs:=zX::kV
theorem UN:aM CX au IY/\aY CX au zX:=⟨qO rG.1 (x:=zX) GX,GX⟩
def NJ:Nat->T->(T->An)->An
 | 0,_,_=>.bad
 | m+1,x0,k0 =>
  k0 (T.b (decide ((x0.rows.length:Int) > 1048576)))
def Mh:Fs:=⟨5,[.one (.dz tU [])],fun m vs k=>ap 1 (NJ m) vs (lm 1 fun z=>k (bg ⟨[.one (RB)],[[none]],[none]⟩ z))⟩
def UO:List Fs:=Mh::IY
theorem adL:aM CX au UO/\aY CX au Mh:=fF UN.1 Mh Tryz.f5 ⟨5,1,6,4⟩ [] (fun _ _=>rfl) (fun _ _ _=>by kernel_rfl) trivial trivial (fun _ _ _ _ _=>by kernel_rfl)
def kJ (m:Nat):Nat->T->T->T->(T->T->An)->An
 | 0,_,_,_,_=>.bad
 | n+1,x0,x1,x2,k0 =>
  jn (fun (j1:An) =>
  cond ((decide (x2.int<(x0.rows.length:Int)))==true)
  (cond (decide (x2.int<4000))
  (j1)
  (k0 x0 x1))
  (k0 x0 x1))
  (cond (decide ((0:Int)<=x2.int/\x2.int<(x0.rows.length:Int)))
  (kJ m n x0 (kG .i64 (BitVec.ofInt IntKind.i64.bits (IntKind.i64.wrap ((IntKind.i64.wrap ((IntKind.i64.wrap (x1.int * 137))+(IntKind.i64.wrap ((x0.rows.getD (Int.toNat x2.int) []).getD 0 dflt).int)))+11)) &&& BitVec.ofInt IntKind.i64.bits 1073741823)) (T.i (IntKind.i64.wrap (x2.int+1))) k0)
  (.bad))
def FK:Nat->T->(T->T->T->An)->An
 | 0,_,_=>.bad
 | m+1,x0,k0 =>
  kJ m m (T.l x0.rows) (T.i (IntKind.i64.wrap (381381+(x0.rows.length:Int)))) (T.i 0)
  (fun y2 y3=>k0 (T.l y2.rows) (T.i 0) y3)
def FL:Fs:=⟨23,[.one (.fz tU [])],fun m vs k=>ap 1 (FK m) vs (lm 3 fun z=>k (bg ⟨[.bx [2000031] [.fz tU [],RI,RI]],[[none]],[none]⟩ z))⟩
def ZJ:List Ls:=[⟨[0,1,0,1,1],⟨[(0,.one (LZ tU)),(3,.one (LI)),(4,.one (LI))],[]⟩,fun m n vs k=>ap 3 (kJ m n) vs (lm 2 fun z=>k (.exit 0) (aG ⟨[(0,.one (LZ tU)),(3,.one (LI))],[]⟩ z))⟩]
def NM:List Fs:=FL::UO
theorem ZK:aM CX au NM/\aY CX au FL:=fF adL.1 FL Tryz.f23 ⟨23,1,32,4⟩ ZJ (fun _ _=>rfl) (fun _ _ _=>by kernel_rfl) ⟨fun _ _ _=>rfl,trivial⟩ ⟨fun _ _ _ _ _ _=>by kernel_rfl,trivial⟩ (fun _ _ _ _ _=>by kernel_rfl)
def oC:Nat->T->T->(T->An)->An
 | 0,_,_,_=>.bad
 | m+1,x0,x1,k0 =>
  cond (decide ((IntKind.i64.wrap (3+(IntKind.i64.wrap (Int.tdiv (x0.rows.length:Int) 12)))) > x1.int))
  (k0 x1)
  (k0 (T.i (IntKind.i64.wrap (3+(IntKind.i64.wrap (Int.tdiv (x0.rows.length:Int) 12))))))
def Di:Fs:=⟨25,[.one (.fz tU []),.one (AI)],fun m vs k=>ap 2 (oC m) vs (lm 1 fun z=>k (bg ⟨[.one (RI)],[[none],[none]],[none,none]⟩ z))⟩
def KS:List Fs:=Di::NM
theorem WM:aM CX au KS/\aY CX au Di:=fF ZK.1 Di Tryz.f25 ⟨25,2,15,16⟩ [] (fun _ _=>rfl) (fun _ _ _=>by kernel_rfl) trivial trivial (fun _ _ _ _ _=>by kernel_rfl)
def oD:Nat->T->T->T->(T->T->T->T->An)->An
 | 0,_,_,_,_=>.bad
 | m+1,x0,x1,x2,k0 =>
  cond (decide (x1.int<(x0.rows.length:Int)))
  (cond (decide ((0:Int)<=x1.int/\x1.int<(x0.rows.length:Int)))
  (k0 (kG .i64 (BitVec.ofInt IntKind.i64.bits (IntKind.i64.wrap ((kG .i64 (BitVec.ofInt IntKind.i64.bits (kG .i64 (BitVec.ofInt IntKind.i64.bits (Int.fdiv (IntKind.i64.wrap ((IntKind.i64.wrap (x2.int * 6364136223846793005))+1442695040888963407)) (2 ^ (min (Int.toNat 33) IntKind.i64.bits))) ^^^ BitVec.ofInt IntKind.i64.bits (Int.fdiv (IntKind.i64.wrap ((IntKind.i64.wrap (x2.int * 6364136223846793005))+1442695040888963407)) (2 ^ (min (Int.toNat 47) IntKind.i64.bits))))).int &&& BitVec.ofInt IntKind.i64.bits 255)).int+(IntKind.i64.wrap ((x0.rows.getD (Int.toNat x1.int) []).getD 0 dflt).int))) &&& BitVec.ofInt IntKind.i64.bits 255)) (T.l x0.rows) (T.i (IntKind.i64.wrap (x1.int+1))) (T.i (IntKind.i64.wrap ((IntKind.i64.wrap (x2.int * 6364136223846793005))+1442695040888963407))))
  (.bad))
  (k0 (kG .i64 (BitVec.ofInt IntKind.i64.bits (kG .i64 (BitVec.ofInt IntKind.i64.bits (Int.fdiv (IntKind.i64.wrap ((IntKind.i64.wrap (x2.int * 6364136223846793005))+1442695040888963407)) (2 ^ (min (Int.toNat 33) IntKind.i64.bits))) ^^^ BitVec.ofInt IntKind.i64.bits (Int.fdiv (IntKind.i64.wrap ((IntKind.i64.wrap (x2.int * 6364136223846793005))+1442695040888963407)) (2 ^ (min (Int.toNat 47) IntKind.i64.bits))))).int &&& BitVec.ofInt IntKind.i64.bits 255)) (T.l x0.rows) x1 (T.i (IntKind.i64.wrap ((IntKind.i64.wrap (x2.int * 6364136223846793005))+1442695040888963407))))
def Dj:Fs:=⟨86,[.bx [.fz tU [],AI,AI]],fun m vs k=>ap 3 (oD m) vs (lm 4 fun z=>k (bg ⟨[.one (RI)],[[none,none,none]],[some [.fz tU [],RI,RI]]⟩ z))⟩
def KT:List Fs:=Dj::KS
theorem WO:aM CX au KT/\aY CX au Dj:=fF WM.1 Dj Tryz.f86 ⟨86,1,58,5⟩ [] (fun _ _=>rfl) (fun _ _ _=>by kernel_rfl) trivial trivial (fun _ _ _ _ _=>by kernel_rfl)
def bS:Nat->T->T->T->T->(T->T->T->T->An)->An
 | 0,_,_,_,_,_=>.bad
 | m+1,x0,x1,x2,x3,k0 =>
  cond (decide (x3.int<=0))
  (k0 (T.i 0) (T.l x0.rows) x1 x2)
  (cond (decide (x3.int<=256))
  (oD m (T.l x0.rows) x1 x2
  (fun y0 y1 y2 y3=>cond (!decide (x3.int=0))
  (k0 (T.i (Int.tmod y0.int x3.int)) (T.l y1.rows) y2 y3)
  (.bad)))
  (oD m (T.l x0.rows) x1 x2
  (fun y4 y5 y6 y7=>oD m (T.l y5.rows) y6 y7
  (fun y8 y9 nP ou=>oD m (T.l y9.rows) nP ou
  (fun oF y13 pJ uh=>cond (!decide (x3.int=0))
  (k0 (T.i (Int.tmod (IntKind.i64.wrap ((IntKind.i64.wrap ((IntKind.i64.wrap (y4.int * 65536))+(IntKind.i64.wrap (y8.int * 256))))+oF.int)) x3.int)) (T.l y13.rows) pJ uh)
  (.bad))))))
def zY:Fs:=⟨54,[.bx [.fz tU [],AI,AI],.one (AI)],fun m vs k=>ap 4 (bS m) vs (lm 4 fun z=>k (bg ⟨[.one (RI)],[[none,none,none],[none]],[some [.fz tU [],RI,RI],none]⟩ z))⟩
def I6:List Fs:=zY::KT
theorem UQ:aM CX au I6/\aY CX au zY:=fF WO.1 zY Tryz.f54 ⟨54,2,31,17⟩ [] (fun _ _=>rfl) (fun _ _ _=>by kernel_rfl) trivial trivial (fun _ _ _ _ _=>by kernel_rfl)
def vK:Nat->T->T->T->T->(T->T->T->T->An)->An
 | 0,_,_,_,_,_=>.bad
 | m+1,x0,x1,x2,x3,k0 =>
  bS m (T.l x0.rows) x1 x2 (T.i (x3.rows.length:Int))
  (fun y0 y1 y2 y3=>cond (decide ((0:Int)<=y0.int/\y0.int<(x3.rows.length:Int)))
  (k0 ((x3.rows.getD (Int.toNat y0.int) []).getD 0 dflt) (T.l y1.rows) y2 y3)
  (.bad))
def FM:Fs:=⟨41,[.bx [.fz tU [],AI,AI],.one (.dz tI [])],fun m vs k=>ap 4 (vK m) vs (lm 4 fun z=>k (bg ⟨[.one (RI)],[[none,none,none],[none]],[some [.fz tU [],RI,RI],none]⟩ z))⟩
def NN:List Fs:=FM::I6
theorem ZL:aM CX au NN/\aY CX au FM:=fF UQ.1 FM Tryz.f41 ⟨41,2,12,17⟩ [] (fun _ _=>rfl) (fun _ _ _=>by kernel_rfl) trivial trivial (fun _ _ _ _ _=>by kernel_rfl)
def bM:Nat->T->T->T->(T->An)->An
 | 0,_,_,_,_=>.bad
 | m+1,x0,x1,x2,k0 =>
  cond ((decide (x0.int>=x1.int))==true)
  (k0 (T.b (decide (x0.int<=x2.int))))
  (k0 (T.b false))
def I7:Fs:=⟨44,[.one (AI),.one (AI),.one (AI)],fun m vs k=>ap 3 (bM m) vs (lm 1 fun z=>k (bg ⟨[.one (RB)],[[none],[none],[none]],[none,none,none]⟩ z))⟩
def Qy:List Fs:=I7::NN
theorem abH:aM CX au Qy/\aY CX au I7:=fF ZL.1 I7 Tryz.f44 ⟨44,3,15,64⟩ [] (fun _ _=>rfl) (fun _ _ _=>by kernel_rfl) trivial trivial (fun _ _ _ _ _=>by kernel_rfl)
def wC:Nat->T->(T->T->T->T->T->T->An)->An
 | 0,_,_=>.bad
 | m+1,x0,k0 =>
  bM m x0 (T.i 1) (T.i 8)
  (fun y0=>cond (!y0.bool)
  (k0 (T.i 0) (T.i 0) (T.i 0) (T.l []) (T.l []) (T.i 0))
  (k0 x0 (T.i 1) (T.i 0) (T.l []) (T.l []) (T.i 0)))
def xP:Fs:=⟨45,[.one (AI)],fun m vs k=>ap 1 (wC m) vs (lm 6 fun z=>k (bg ⟨[.agg [RI,RI,RI,.own (KR 0 3) tJ m4 [],.own (KR 0 4) tC m2 [],RI]],[[none]],[none]⟩ z))⟩
def GY:List Fs:=xP::Qy
theorem Q7:aM CX au GY/\aY CX au xP:=fF abH.1 xP Tryz.f45 ⟨45,1,9,4⟩ [] (fun _ _=>rfl) (fun _ _ _=>by kernel_rfl) trivial trivial (fun _ _ _ _ _=>by kernel_rfl)
def Dk:Nat->T->(T->T->T->T->T->An)->An
 | 0,_,_=>.bad
 | m+1,x0,k0 =>
  bM m x0 (T.i 0) (T.i 7)
  (fun y0=>cond (!y0.bool)
  (k0 (T.i 0) (T.l []) (T.i 0) (T.l []) (T.l []))
  (k0 x0 (T.l []) (T.i 0) (T.l []) (T.l [])))
def xQ:Fs:=⟨46,[.one (AI)],fun m vs k=>ap 1 (Dk m) vs (lm 5 fun z=>k (bg ⟨[.agg [RI,.own (KR 0 1) tR m3 [],RI,.own (KR 0 3) tP m2 [],.own (KR 0 4) tR m3 []]],[[none]],[none]⟩ z))⟩
def GZ:List Fs:=xQ::GY
theorem Q8:aM CX au GZ/\aY CX au xQ:=fF Q7.1 xQ Tryz.f46 ⟨46,1,9,4⟩ [] (fun _ _=>rfl) (fun _ _ _=>by kernel_rfl) trivial trivial (fun _ _ _ _ _=>by kernel_rfl)
def iP (m:Nat):Nat->T->T->T->T->T->T->T->T->T->T->T->T->T->T->T->T->T->T->T->T->T->T->T->T->(T->T->T->T->T->T->T->T->T->T->T->T->T->T->T->T->T->T->T->T->T->T->An)->An
 | 0,_,_,_,_,_,_,_,_,_,_,_,_,_,_,_,_,_,_,_,_,_,_,_,_,_=>.bad
 | n+1,x0,x1,x2,x3,x4,x5,x6,x7,x8,x9,x10,bH,fT,kX,xk,KU,Po,Q9,x18,x19,x20,x21,x22,x23,k0 =>
  cond (decide (x3.int<x0.int))
  (Dk m x3
  (fun y7 y8 y9 nP ou=>cond (decide ((x20.rows.length+1) * 5<=aD))
  (iP m n x0 (T.i (x1.int.toNat:Int)) (T.i (x2.int.toNat:Int)) (T.i (IntKind.i64.wrap (x3.int+1))) x4 x5 x6 x7 x8 x9 x10 bH (T.l fT.rows) (T.l kX.rows) (T.l xk.rows) (T.l KU.rows) (T.l Po.rows) (T.l Q9.rows) (T.l x18.rows) (T.l x19.rows) (T.l (x20.rows++[[y7,(T.l y8.rows),y9,(T.l nP.rows),(T.l ou.rows)]])) (T.l x21.rows) (T.l x22.rows) (T.l x23.rows) k0)
  (.bad)))
  (k0 (T.i (x1.int.toNat:Int)) (T.i (x2.int.toNat:Int)) x4 x5 x6 x7 x8 x9 x10 bH (T.l fT.rows) (T.l kX.rows) (T.l xk.rows) (T.l KU.rows) (T.l Po.rows) (T.l Q9.rows) (T.l x18.rows) (T.l x19.rows) (T.l x20.rows) (T.l x21.rows) (T.l x22.rows) (T.l x23.rows))
def wD:Nat->T->(T->T->T->T->T->T->T->T->T->T->An)->An
 | 0,_,_=>.bad
 | m+1,x0,k0 =>
  bM m x0 (T.i 1) (T.i 8)
  (fun y0=>cond (!y0.bool)
  (k0 (T.i 0) (T.i 0) (T.i 0) (T.l []) (T.l []) (T.i 0) (T.l []) (T.l []) (T.l []) (T.l []))
  (wC m x0
  (fun y1 y2 y3 y4 y5 y6=>iP m m x0 (T.i 0) (T.i 0) (T.i 0) (T.i 0) (T.i 0) (T.i 0) (T.i 0) y1 y2 y3 y6 (T.l []) (T.l []) (T.l []) (T.l []) (T.l []) (T.l []) (T.l y4.rows) (T.l y5.rows) (T.l []) (T.l []) (T.l []) (T.l [])
  (fun oF y13 pJ uh xE vL u7 Ku y20 y21 y22 y23 y24 y25 Ra y27 y28 y29 UR y31 y32 y33=>k0 u7 Ku y20 (T.l y28.rows) (T.l y29.rows) y21 (T.l UR.rows) (T.l y31.rows) (T.l y32.rows) (T.l y33.rows)))))
def xR:Fs:=⟨16,[.one (AI)],fun m vs k=>ap 1 (wD m) vs (lm 10 fun z=>k (bg ⟨[.agg [RI,RI,RI,.own (KR 0 3) tJ m4 [],.own (KR 0 4) tC m2 [],RI,.own (KR 0 6) tS mS [],.own (KR 0 7) tW m5 [],.own (KR 0 8) tW m5 [],.own (KR 0 9) tB m2 []]],[[none]],[none]⟩ z))⟩
def Rb:List Ls:=[⟨[0,1,0,1,1,1],⟨[(0,.one (LI)),(2,EP 0),(3,EP 1),(4,.one (LI))],[((KI 0),.box [LI,LI,LI,LA (KI 2) tJ,LA (KI 3) tC,LI,LA (KI 4) tS,LA (KI 5) tW,LA (KI 6) tW,LA (KI 7) tB]),((KI 1),.box [LI,LI,LI,LA (KI 8) tJ,LA (KI 9) tC,LI,LA (KI 10) tS,LA (KI 11) tW,LA (KI 12) tW,LA (KI 13) tB]),((KI 2),.row tJ m4 []),((KI 3),.row tC m2 []),((KI 4),.row tS mS []),((KI 5),.row tW m5 []),((KI 6),.row tW m5 []),((KI 7),.row tB m2 []),((KI 8),.row tJ m4 []),((KI 9),.row tC m2 []),((KI 10),.row tS mS []),((KI 11),.row tW m5 []),((KI 12),.row tW m5 []),((KI 13),.row tB m2 [])]⟩,fun m n vs k=>ap 24 (iP m n) vs (lm 22 fun z=>k (.exit 0) (aG ⟨[(2,EP 0),(3,EP 1)],[((KI 0),.box [LI,LI,LI,LA (KI 2) tJ,LA (KI 3) tC,LI,LA (KI 4) tS,LA (KI 5) tW,LA (KI 6) tW,LA (KI 7) tB]),((KI 1),.box [LI,LI,LI,LA (KI 8) tJ,LA (KI 9) tC,LI,LA (KI 10) tS,LA (KI 11) tW,LA (KI 12) tW,LA (KI 13) tB]),((KI 2),.row tJ m4 []),((KI 3),.row tC m2 []),((KI 4),.row tS mS []),((KI 5),.row tW m5 []),((KI 6),.row tW m5 []),((KI 7),.row tB m2 []),((KI 8),.row tJ m4 []),((KI 9),.row tC m2 []),((KI 10),.row tS mS []),((KI 11),.row tW m5 []),((KI 12),.row tW m5 []),((KI 13),.row tB m2 [])]⟩ z))⟩]
def G5:List Fs:=xR::GZ
theorem Rc:aM CX au G5/\aY CX au xR:=fF Q8.1 xR Tryz.f16 ⟨16,1,25,4⟩ Rb (fun _ _=>rfl) (fun _ _ _=>by kernel_rfl) ⟨fun _ _ _=>rfl,trivial⟩ ⟨fun _ _ _ _ _ _=>by kernel_rfl,trivial⟩ (fun _ _ _ _ _=>by kernel_rfl)
def BQ:Nat->T->T->T->T->(T->T->T->T->An)->An
 | 0,_,_,_,_,_=>.bad
 | m+1,x0,x1,x2,x3,k0 =>
  bS m (T.l x0.rows) x1 x2 x3
  (fun y0 y1 y2 y3=>k0 (T.b (y0.int==0)) (T.l y1.rows) y2 y3)
def Dl:Fs:=⟨93,[.bx [.fz tU [],AI,AI],.one (AI)],fun m vs k=>ap 4 (BQ m) vs (lm 4 fun z=>k (bg ⟨[.one (RB)],[[none,none,none],[none]],[some [.fz tU [],RI,RI],none]⟩ z))⟩
def KV:List Fs:=Dl::G5
theorem WQ:aM CX au KV/\aY CX au Dl:=fF Rc.1 Dl Tryz.f93 ⟨93,2,9,17⟩ [] (fun _ _=>rfl) (fun _ _ _=>by kernel_rfl) trivial trivial (fun _ _ _ _ _=>by kernel_rfl)
def zZ:Nat->T->T->T->T->(T->T->T->T->An)->An
 | 0,_,_,_,_,_=>.bad
 | m+1,x0,x1,x2,x3,k0 =>
  bS m (T.l x0.rows) x1 x2 (T.i (x3.rows.length:Int))
  (fun y0 y1 y2 y3=>cond (decide ((0:Int)<=y0.int/\y0.int<(x3.rows.length:Int)))
  (k0 ((x3.rows.getD (Int.toNat y0.int) []).getD 0 dflt) (T.l y1.rows) y2 y3)
  (.bad))
def FN:Fs:=⟨157,[.bx [.fz tU [],AI,AI],.one (.dz tT [])],fun m vs k=>ap 4 (zZ m) vs (lm 4 fun z=>k (bg ⟨[.one (RS)],[[none,none,none],[none]],[some [.fz tU [],RI,RI],none]⟩ z))⟩
def NP:List Fs:=FN::KV
theorem ZM:aM CX au NP/\aY CX au FN:=fF WQ.1 FN Tryz.f157 ⟨157,2,12,17⟩ [] (fun _ _=>rfl) (fun _ _ _=>by kernel_rfl) trivial trivial (fun _ _ _ _ _=>by kernel_rfl)
def FP:Nat->T->T->T->(T->T->T->T->An)->An
 | 0,_,_,_,_=>.bad
 | m+1,x0,x1,x2,k0 =>
  zZ m (T.l x0.rows) x1 x2 (T.l [[(T.s (⟨#[97]⟩:ByteArray))],[(T.s (⟨#[98]⟩:ByteArray))],[(T.s (⟨#[99]⟩:ByteArray))],[(T.s (⟨#[107,49]⟩:ByteArray))],[(T.s (⟨#[107,50]⟩:ByteArray))],[(T.s (⟨#[109]⟩:ByteArray))],[(T.s (⟨#[122]⟩:ByteArray))]])
  (fun y0 y1 y2 y3=>k0 y0 (T.l y1.rows) y2 y3)
def FQ:Fs:=⟨156,[.bx [.fz tU [],AI,AI]],fun m vs k=>ap 3 (FP m) vs (lm 4 fun z=>k (bg ⟨[.one (RS)],[[none,none,none]],[some [.fz tU [],RI,RI]]⟩ z))⟩
def NQ:List Fs:=FQ::NP
theorem ZN:aM CX au NQ/\aY CX au FQ:=fF ZM.1 FQ Tryz.f156 ⟨156,1,6,5⟩ [] (fun _ _=>rfl) (fun _ _ _=>by kernel_rfl) trivial trivial (fun _ _ _ _ _=>by kernel_rfl)
def z8:Nat->T->T->T->(T->T->T->T->T->T->An)->An
 | 0,_,_,_,_=>.bad
 | m+1,x0,x1,x2,k0 =>
  vK m (T.l x0.rows) x1 x2 (T.l [[(T.i 1)],[(T.i 1)],[(T.i 1)],[(T.i 2)],[(T.i 3)]])
  (fun y0 y1 y2 y3=>FP m (T.l y1.rows) y2 y3
  (fun y4 y5 y6 y7=>cond (y0.int != 2)
  (zZ m (T.l y5.rows) y6 y7 (T.l [[(T.s (⟨#[49]⟩:ByteArray))],[(T.s (⟨#[50]⟩:ByteArray))],[(T.s (⟨#[120]⟩:ByteArray))],[(T.s (⟨#[]⟩:ByteArray))],[(T.s (⟨#[49]⟩:ByteArray))]])
  (fun y8 y9 nP ou=>k0 y0 y4 y8 (T.l y9.rows) nP ou))
  (k0 y0 y4 (T.s (⟨#[]⟩:ByteArray)) (T.l y5.rows) y6 y7)))
def FR:Fs:=⟨124,[.bx [.fz tU [],AI,AI]],fun m vs k=>ap 3 (z8 m) vs (lm 6 fun z=>k (bg ⟨[.agg [RI,RS,RS]],[[none,none,none]],[some [.fz tU [],RI,RI]]⟩ z))⟩
def NR:List Fs:=FR::NQ
theorem ZO:aM CX au NR/\aY CX au FR:=fF ZN.1 FR Tryz.f124 ⟨124,1,18,5⟩ [] (fun _ _=>rfl) (fun _ _ _=>by kernel_rfl) trivial trivial (fun _ _ _ _ _=>by kernel_rfl)
def iC (m:Nat):Nat->T->T->T->T->T->T->T->T->(T->T->T->T->T->T->An)->An
 | 0,_,_,_,_,_,_,_,_,_=>.bad
 | n+1,x0,x1,x2,x3,x4,x5,x6,x7,k0 =>
  cond (decide (x3.int<(x0.rows.length:Int)))
  (jn (fun (j3:T->T->An) =>
  cond ((!x2.bool)==true)
  (cond (decide ((0:Int)<=x3.int/\x3.int<(x0.rows.length:Int)))
  (cond (!(Op.bytesLess (((x0.rows.getD (Int.toNat x3.int) []).drop 1).getD 0 dflt).str.toList x5.str.toList))
  (cond (decide ((x7.rows.length+1) * 3<=aD))
  (j3 (T.b true) (T.l (x7.rows++[[x4,x5,x6]])))
  (.bad))
  (j3 x2 (T.l x7.rows)))
  (.bad))
  (j3 x2 (T.l x7.rows)))
  (fun y1 y2=>cond (decide ((0:Int)<=x3.int/\x3.int<(x0.rows.length:Int)))
  (cond (!((((x0.rows.getD (Int.toNat x3.int) []).drop 1).getD 0 dflt).str.toList==x5.str.toList))
  (cond (decide ((0:Int)<=x3.int/\x3.int<(x0.rows.length:Int)))
  (cond (decide ((y2.rows.length+1) * 3<=aD))
  (iC m n x0 (T.i (x1.int.toNat:Int)) y1 (T.i (IntKind.i64.wrap (x3.int+1))) x4 x5 x6 (T.l (y2.rows++[[((x0.rows.getD (Int.toNat x3.int) []).getD 0 dflt),((x0.rows.getD (Int.toNat x3.int) []).getD 1 dflt),((x0.rows.getD (Int.toNat x3.int) []).getD 2 dflt)]])) k0)
  (.bad))
  (.bad))
  (iC m n x0 (T.i (x1.int.toNat:Int)) y1 (T.i (IntKind.i64.wrap (x3.int+1))) x4 x5 x6 (T.l y2.rows) k0))
  (.bad)))
  (k0 (T.i (x1.int.toNat:Int)) x2 x4 x5 x6 (T.l x7.rows))
def Aa:Nat->T->T->T->T->(T->An)->An
 | 0,_,_,_,_,_=>.bad
 | m+1,x0,x1,x2,x3,k0 =>
  iC m m (T.l x0.rows) (T.i 0) (T.b false) (T.i 0) x1 x2 x3 (T.l [])
  (fun y8 y9 nP ou oF y13=>cond (!y9.bool)
  (cond (decide ((y13.rows.length+1) * 3<=aD))
  (k0 (T.l (y13.rows++[[nP,ou,oF]])))
  (.bad))
  (k0 (T.l y13.rows)))
def FT:Fs:=⟨123,[.one (.dz tO []),.agg [AI,AS,AS]],fun m vs k=>ap 4 (Aa m) vs (lm 1 fun z=>k (bg ⟨[.one (.own (KR 0 0) tO m3 [])],[[none],[none,none,none]],[none,none]⟩ z))⟩
def ZP:List Ls:=[⟨[0,1,0,1,1,1],⟨[(0,.one (LD tO)),(3,EP 1),(5,.one (LA (KI 2) tO)),(6,.one (LB)),(7,.one (LI))],[([4000000],.gone),((KI 1),.box [LI,LS,LS]),((KI 2),.row tO m3 [])]⟩,fun m n vs k=>ap 8 (iC m n) vs (lm 6 fun z=>k (.exit 0) (aG ⟨[(3,EP 0),(5,.one (LA (KI 1) tO)),(6,.one (LB))],[((KI 0),.box [LI,LS,LS]),((KI 1),.row tO m3 [])]⟩ z))⟩]
def NS:List Fs:=FT::NR
theorem ZQ:aM CX au NS/\aY CX au FT:=fF ZO.1 FT Tryz.f123 ⟨123,2,53,16⟩ ZP (fun _ _=>rfl) (fun _ _ _=>by kernel_rfl) ⟨fun _ _ _=>rfl,trivial⟩ ⟨fun _ _ _ _ _ _=>by kernel_rfl,trivial⟩ (fun _ _ _ _ _=>by kernel_rfl)
def lJ (m:Nat):Nat->T->T->T->T->T->T->(T->T->T->T->T->An)->An
 | 0,_,_,_,_,_,_,_=>.bad
 | n+1,x0,x1,x2,x3,x4,x5,k0 =>
  cond (decide (x1.int > 0))
  (z8 m (T.l x2.rows) x3 x4
  (fun y4 y5 y6 y7 y8 y9=>Aa m (T.l x5.rows) y4 y5 y6
  (fun nP=>lJ m n (T.i (x0.int.toNat:Int)) (T.i (IntKind.i64.wrap (x1.int-1))) (T.l y7.rows) y8 y9 (T.l nP.rows) k0)))
  (k0 (T.i (x0.int.toNat:Int)) x2 x3 x4 (T.l x5.rows))
def xq:Nat->T->T->T->(T->T->T->T->An)->An
 | 0,_,_,_,_=>.bad
 | m+1,x0,x1,x2,k0 =>
  bS m (T.l x0.rows) x1 x2 (T.i 4)
  (fun y0 y1 y2 y3=>lJ m m (T.i 0) (T.i (IntKind.i64.wrap (1+y0.int))) (T.l y1.rows) y2 y3 (T.l [])
  (fun ou oF y13 pJ uh=>k0 (T.l uh.rows) (T.l oF.rows) y13 pJ))
def Dm:Fs:=⟨94,[.bx [.fz tU [],AI,AI]],fun m vs k=>ap 3 (xq m) vs (lm 4 fun z=>k (bg ⟨[.one (.own (KR 0 0) tO m3 [])],[[none,none,none]],[some [.fz tU [],RI,RI]]⟩ z))⟩
def WR:List Ls:=[⟨[0,1,0,1,1],⟨[(0,.ptr [0,999999] 0 0 0),(3,.one (LA (KI 1) tO)),(4,.one (LI))],[([0,999999],.box [LZ tU,LI,LI]),((KI 1),.row tO m3 [])]⟩,fun m n vs k=>ap 6 (lJ m n) vs (lm 5 fun z=>k (.exit 0) (aG ⟨[(0,.ptr [0,999999] 0 0 0),(3,.one (LA (KI 1) tO))],[([0,999999],.box [LZ tU,LI,LI]),((KI 1),.row tO m3 [])]⟩ z))⟩]
def KY:List Fs:=Dm::NS
theorem WS:aM CX au KY/\aY CX au Dm:=fF ZQ.1 Dm Tryz.f94 ⟨94,1,18,5⟩ WR (fun _ _=>rfl) (fun _ _ _=>by kernel_rfl) ⟨fun _ _ _=>rfl,trivial⟩ ⟨fun _ _ _ _ _ _=>by kernel_rfl,trivial⟩ (fun _ _ _ _ _=>by kernel_rfl)
def pK:Nat->T->T->T->T->T->T->T->T->T->T->T->T->T->(T->T->T->T->T->T->T->An)->An
 | 0,_,_,_,_,_,_,_,_,_,_,_,_,_,_=>.bad
 | m+1,x0,x1,x2,x3,x4,x5,x6,x7,x8,x9,x10,bH,fT,k0 =>
  jn (fun (j16:T->T->T->T->An) =>
  cond ((decide ((x10.rows.length:Int) > 0))==true)
  (BQ m (T.l x0.rows) x1 x2 (T.i 2)
  (fun y0 y1 y2 y3=>j16 (T.b y0.bool) (T.l y1.rows) y2 y3))
  (j16 (T.b false) (T.l x0.rows) x1 x2))
  (fun y4 y5 y6 y7=>cond y4.bool
  (vK m (T.l y5.rows) y6 y7 (T.l [[(T.i 2)],[(T.i 2)],[(T.i 2)],[(T.i 2)],[(T.i 2)],[(T.i 2)],[(T.i 3)],[(T.i 4)]])
  (fun y8 y9 nP ou=>bS m (T.l y9.rows) nP ou (T.i (x10.rows.length:Int))
  (fun oF y13 pJ uh=>k0 y8 oF (T.i 0) (T.l []) (T.l y13.rows) pJ uh)))
  (bS m (T.l y5.rows) y6 y7 (T.i (x9.rows.length:Int))
  (fun vL u7 Ku y20=>bS m (T.l u7.rows) Ku y20 (T.i 14)
  (fun y21 y22 y23 y24=>jn (fun (j44:T->An) =>
  cond (y21.int==0)
  (j44 (T.b true))
  (cond (y21.int==1)
  (j44 (T.b true))
  (j44 (T.b (y21.int==2)))))
  (fun y25=>cond y25.bool
  (xq m (T.l y22.rows) y23 y24
  (fun Ra y27 y28 y29=>k0 (T.i 1) (T.i 0) (T.i 0) (T.l Ra.rows) (T.l y27.rows) y28 y29))
  (jn (fun (j43:T->An) =>
  cond (y21.int==3)
  (j43 (T.b true))
  (cond (y21.int==4)
  (j43 (T.b true))
  (cond (y21.int==5)
  (j43 (T.b true))
  (j43 (T.b (y21.int==6))))))
  (fun UR=>cond UR.bool
  (k0 (T.i 5) vL (T.i 0) (T.l []) (T.l y22.rows) y23 y24)
  (jn (fun (j42:T->An) =>
  cond (y21.int==7)
  (j42 (T.b true))
  (j42 (T.b (y21.int==8))))
  (fun y31=>cond y31.bool
  (k0 (T.i 6) (T.i 0) (T.i 0) (T.l []) (T.l y22.rows) y23 y24)
  (jn (fun (j41:T->An) =>
  cond (y21.int==9)
  (j41 (T.b true))
  (j41 (T.b (y21.int==10))))
  (fun y32=>cond y32.bool
  (k0 (T.i 7) (T.i 0) (T.i 0) (T.l []) (T.l y22.rows) y23 y24)
  (cond (y21.int==11)
  (k0 (T.i 8) vL (T.i 0) (T.l []) (T.l y22.rows) y23 y24)
  (cond (y21.int==12)
  (bS m (T.l y22.rows) y23 y24 (T.i 3)
  (fun y33 y34 y35 y36=>k0 (T.i 9) vL y33 (T.l []) (T.l y34.rows) y35 y36))
  (bS m (T.l y22.rows) y23 y24 (T.i 3)
  (fun y37 y38 y39 y40=>k0 (T.i 10) (T.i 0) y37 (T.l []) (T.l y38.rows) y39 y40)))))))))))))))
def xS:Fs:=⟨56,[.bx [.fz tU [],AI,AI],.agg [AI,AI,AI,.dz tJ [],.dz tC [],AI,.dz tS [],.dz tW [],.dz tW [],.dz tB []]],fun m vs k=>ap 13 (pK m) vs (lm 7 fun z=>k (bg ⟨[.agg [RI,RI,RI,.own (KR 0 3) tO m3 []]],[[none,none,none],[none,none,none,none,none,none,none,none,none,none]],[some [.fz tU [],RI,RI],none]⟩ z))⟩
def G6:List Fs:=xS::KY
theorem Rf:aM CX au G6/\aY CX au xS:=fF WS.1 xS Tryz.f56 ⟨56,2,65,17⟩ [] (fun _ _=>rfl) (fun _ _ _=>by kernel_rfl) trivial trivial (fun _ _ _ _ _=>by kernel_rfl)
def kK (m:Nat):Nat->T->T->(T->An)->(T->An)->An
 | 0,_,_,_,_=>.bad
 | n+1,x0,x1,k0,k1 =>
  cond (decide (x1.int<(x0.str.size:Int)))
  (cond (decide ((0:Int)<=x1.int/\x1.int<(x0.str.size:Int)))
  (bM m (T.i (IntKind.i64.wrap ((x0.str.data.toList.getD (Int.toNat x1.int) 0).toNat:Int))) (T.i 97) (T.i 122)
  (fun y0=>cond ((!y0.bool)==true)
  (cond (decide ((0:Int)<=x1.int/\x1.int<(x0.str.size:Int)))
  (bM m (T.i (IntKind.i64.wrap ((x0.str.data.toList.getD (Int.toNat x1.int) 0).toNat:Int))) (T.i 48) (T.i 57)
  (fun y1=>cond (!y1.bool)
  (k0 (T.b false))
  (kK m n x0 (T.i (IntKind.i64.wrap (x1.int+1))) k0 k1)))
  (.bad))
  (kK m n x0 (T.i (IntKind.i64.wrap (x1.int+1))) k0 k1)))
  (.bad))
  (k1 x0)
def FU:Nat->T->(T->An)->An
 | 0,_,_=>.bad
 | m+1,x0,k0 =>
  kK m m x0 (T.i 0)
  (fun y3=>k0 y3)
  (fun y4=>bM m (T.i (y4.str.size:Int)) (T.i 1) (T.i 12)
  (fun y5=>k0 y5))
def FV:Fs:=⟨158,[.one (AS)],fun m vs k=>ap 1 (FU m) vs (lm 1 fun z=>k (bg ⟨[.one (RB)],[[none]],[none]⟩ z))⟩
def ZR:List Ls:=[⟨[0,1,0,1],⟨[(0,.one (LS)),(3,.one (LI))],[]⟩,fun m n vs k=>ap 2 (kK m n) vs (lm 1 fun z=>k .ret (aG ⟨[(2,.one (LB))],[]⟩ z)) (lm 1 fun z=>k (.exit 0) (aG ⟨[(0,.one (LS))],[]⟩ z))⟩]
def NT:List Fs:=FV::G6
theorem ZT:aM CX au NT/\aY CX au FV:=fF Rf.1 FV Tryz.f158 ⟨158,1,27,4⟩ ZR (fun _ _=>rfl) (fun _ _ _=>by kernel_rfl) ⟨fun _ _ _=>rfl,trivial⟩ ⟨fun _ _ _ _ _ _=>by kernel_rfl,trivial⟩ (fun _ _ _ _ _=>by kernel_rfl)
def Kh:Nat->T->T->T->(T->An)->An
 | 0,_,_,_,_=>.bad
 | m+1,x0,x1,x2,k0 =>
  bM m x0 (T.i 1) (T.i 3)
  (fun y0=>cond ((!y0.bool)==false)
  (cond ((x0.int==2)==true)
  (cond (!(x2.str.toList==(⟨#[]⟩:ByteArray).toList))
  (k0 (T.b false))
  (FU m x1
  (fun y6=>cond (y6.bool==true)
  (k0 (T.b (decide ((x2.str.size:Int)<=20))))
  (k0 (T.b false)))))
  (FU m x1
  (fun y8=>cond (y8.bool==true)
  (k0 (T.b (decide ((x2.str.size:Int)<=20))))
  (k0 (T.b false)))))
  (k0 (T.b false)))
def I8:Fs:=⟨126,[.agg [AI,AS,AS]],fun m vs k=>ap 3 (Kh m) vs (lm 1 fun z=>k (bg ⟨[.one (RB)],[[none,none,none]],[none]⟩ z))⟩
def Qz:List Fs:=I8::NT
theorem abJ:aM CX au Qz/\aY CX au I8:=fF ZT.1 I8 Tryz.f126 ⟨126,1,26,4⟩ [] (fun _ _=>rfl) (fun _ _ _=>by kernel_rfl) trivial trivial (fun _ _ _ _ _=>by kernel_rfl)
def kL (m:Nat):Nat->T->T->(T->An)->(T->An)->An
 | 0,_,_,_,_=>.bad
 | n+1,x0,x1,k0,k1 =>
  cond (decide (x1.int<(x0.rows.length:Int)))
  (cond (decide ((0:Int)<=x1.int/\x1.int<(x0.rows.length:Int)))
  (Kh m ((x0.rows.getD (Int.toNat x1.int) []).getD 0 dflt) ((x0.rows.getD (Int.toNat x1.int) []).getD 1 dflt) ((x0.rows.getD (Int.toNat x1.int) []).getD 2 dflt)
  (fun y0=>cond ((!y0.bool)==false)
  (cond ((decide (x1.int > 0))==true)
  (cond (decide ((0:Int)<=(IntKind.i64.wrap (x1.int-1))/\(IntKind.i64.wrap (x1.int-1))<(x0.rows.length:Int)))
  (cond (decide ((0:Int)<=x1.int/\x1.int<(x0.rows.length:Int)))
  (cond (!(Op.bytesLess (((x0.rows.getD (Int.toNat (IntKind.i64.wrap (x1.int-1))) []).drop 1).getD 0 dflt).str.toList (((x0.rows.getD (Int.toNat x1.int) []).drop 1).getD 0 dflt).str.toList))
  (k0 (T.b false))
  (kL m n x0 (T.i (IntKind.i64.wrap (x1.int+1))) k0 k1))
  (.bad))
  (.bad))
  (kL m n x0 (T.i (IntKind.i64.wrap (x1.int+1))) k0 k1))
  (k0 (T.b false))))
  (.bad))
  (k1 x0)
def mq:Nat->T->(T->An)->An
 | 0,_,_=>.bad
 | m+1,x0,k0 =>
  kL m m (T.l x0.rows) (T.i 0)
  (fun y2=>k0 y2)
  (fun y3=>bM m (T.i (y3.rows.length:Int)) (T.i 1) (T.i 8)
  (fun y4=>k0 y4))
def FW:Fs:=⟨98,[.one (.dz tO [])],fun m vs k=>ap 1 (mq m) vs (lm 1 fun z=>k (bg ⟨[.one (RB)],[[none]],[none]⟩ z))⟩
def ZU:List Ls:=[⟨[0,1,0,1],⟨[(0,.one (LD tO)),(3,.one (LI))],[([4000000],.gone)]⟩,fun m n vs k=>ap 2 (kL m n) vs (lm 1 fun z=>k .ret (aG ⟨[(2,.one (LB))],[]⟩ z)) (lm 1 fun z=>k (.exit 0) (aG ⟨[(0,.one (LD tO))],[([4000000],.gone)]⟩ z))⟩]
def NU:List Fs:=FW::Qz
theorem ZV:aM CX au NU/\aY CX au FW:=fF abJ.1 FW Tryz.f98 ⟨98,1,37,4⟩ ZU (fun _ _=>rfl) (fun _ _ _=>by kernel_rfl) ⟨fun _ _ _=>rfl,trivial⟩ ⟨fun _ _ _ _ _ _=>by kernel_rfl,trivial⟩ (fun _ _ _ _ _=>by kernel_rfl)
def jG:Nat->T->(T->An)->An
 | 0,_,_=>.bad
 | m+1,x0,k0 =>
  cond (decide ((0+x0.rows.length) * 3<=aD))
  (k0 (T.l x0.rows))
  (.bad)
def vM:Fs:=⟨117,[.one (.dz tO [])],fun m vs k=>ap 1 (jG m) vs (lm 1 fun z=>k (bg ⟨[.one (.own (KR 0 0) tO m3 [])],[[none]],[none]⟩ z))⟩
def Eh:List Fs:=vM::NU
theorem Pp:aM CX au Eh/\aY CX au vM:=fF ZV.1 vM Tryz.f117 ⟨117,1,6,4⟩ [] (fun _ _=>rfl) (fun _ _ _=>by kernel_rfl) trivial trivial (fun _ _ _ _ _=>by kernel_rfl)
def nU (m:Nat):Nat->T->T->T->(T->An)->An
 | 0,_,_,_,_=>.bad
 | n+1,x0,x1,x2,k0 =>
  cond (decide (x2.int<(x0.str.size:Int)))
  (cond (decide ((0:Int)<=x2.int/\x2.int<(x0.str.size:Int)))
  (nU m n x0 (kG .i64 (BitVec.ofInt IntKind.i64.bits (IntKind.i64.wrap ((kG .i64 (BitVec.ofInt IntKind.i64.bits x1.int ^^^ BitVec.ofInt IntKind.i64.bits (IntKind.i64.wrap ((x0.str.data.toList.getD (Int.toNat x2.int) 0).toNat:Int)))).int * 16777619)) &&& BitVec.ofInt IntKind.i64.bits 4294967295)) (T.i (IntKind.i64.wrap (x2.int+1))) k0)
  (.bad))
  (k0 x1)
def Pq:Nat->T->(T->An)->An
 | 0,_,_=>.bad
 | m+1,x0,k0 =>
  nU m m x0 (T.i 2166136261) (T.i 0)
  (fun y0=>k0 y0)
def I9:Fs:=⟨128,[.one (AS)],fun m vs k=>ap 1 (Pq m) vs (lm 1 fun z=>k (bg ⟨[.one (RI)],[[none]],[none]⟩ z))⟩
def abK:List Ls:=[⟨[0,1,0,1,1],⟨[(0,.one (LS)),(3,.one (LI)),(4,.one (LI))],[]⟩,fun m n vs k=>ap 3 (nU m n) vs (lm 1 fun z=>k (.exit 0) (aG ⟨[(3,.one (LI))],[]⟩ z))⟩]
def QA:List Fs:=I9::Eh
theorem abL:aM CX au QA/\aY CX au I9:=fF Pp.1 I9 Tryz.f128 ⟨128,1,20,4⟩ abK (fun _ _=>rfl) (fun _ _ _=>by kernel_rfl) ⟨fun _ _ _=>rfl,trivial⟩ ⟨fun _ _ _ _ _ _=>by kernel_rfl,trivial⟩ (fun _ _ _ _ _=>by kernel_rfl)
def qR:Nat->T->T->(T->An)->An
 | 0,_,_,_=>.bad
 | m+1,x0,x1,k0 =>
  cond (decide (x1.int<1))
  (k0 (T.i 0))
  (Pq m x0
  (fun y0=>cond (!decide (x1.int=0))
  (k0 (T.i (Int.tmod y0.int x1.int)))
  (.bad)))
def Ab:Fs:=⟨102,[.one (AS),.one (AI)],fun m vs k=>ap 2 (qR m) vs (lm 1 fun z=>k (bg ⟨[.one (RI)],[[none],[none]],[none,none]⟩ z))⟩
def Ja:List Fs:=Ab::QA
theorem UU:aM CX au Ja/\aY CX au Ab:=fF abL.1 Ab Tryz.f102 ⟨102,2,11,16⟩ [] (fun _ _=>rfl) (fun _ _ _=>by kernel_rfl) trivial trivial (fun _ _ _ _ _=>by kernel_rfl)
def mZ (m:Nat):Nat->T->T->T->(T->An)->An->An
 | 0,_,_,_,_,_=>.bad
 | n+1,x0,x1,x2,k0,k1 =>
  cond (decide (x2.int<(x0.rows.length:Int)))
  (cond (decide ((0:Int)<=x2.int/\x2.int<(x0.rows.length:Int)))
  (cond (((x0.rows.getD (Int.toNat x2.int) []).getD 0 dflt).int==x1.int)
  (k0 (T.b true))
  (mZ m n x0 x1 (T.i (IntKind.i64.wrap (x2.int+1))) k0 k1))
  (.bad))
  (k1 )
def qw:Nat->T->T->(T->An)->An
 | 0,_,_,_=>.bad
 | m+1,x0,x1,k0 =>
  mZ m m (T.l x0.rows) x1 (T.i 0)
  (fun y0=>k0 y0)
  (k0 (T.b false))
def FX:Fs:=⟨125,[.one (.dz tI []),.one (AI)],fun m vs k=>ap 2 (qw m) vs (lm 1 fun z=>k (bg ⟨[.one (RB)],[[none],[none]],[none,none]⟩ z))⟩
def ZW:List Ls:=[⟨[0,1,0,1],⟨[(0,.one (LD tI)),(1,.one (LI)),(5,.one (LI))],[([4000000],.gone)]⟩,fun m n vs k=>ap 3 (mZ m n) vs (lm 1 fun z=>k .ret (aG ⟨[(4,.one (LB))],[]⟩ z)) (lm 0 fun z=>k (.exit 0) (aG ⟨[],[]⟩ z))⟩]
def NV:List Fs:=FX::Ja
theorem ZX:aM CX au NV/\aY CX au FX:=fF UU.1 FX Tryz.f125 ⟨125,2,18,16⟩ ZW (fun _ _=>rfl) (fun _ _ _=>by kernel_rfl) ⟨fun _ _ _=>rfl,trivial⟩ ⟨fun _ _ _ _ _ _=>by kernel_rfl,trivial⟩ (fun _ _ _ _ _=>by kernel_rfl)
def ng (m:Nat):Nat->T->T->T->(T->T->T->An)->An
 | 0,_,_,_,_=>.bad
 | n+1,x0,x1,x2,k0 =>
  jn (fun (j2:An) =>
  cond ((decide (x1.int > 0))==true)
  (cond (decide ((0:Int)<=(IntKind.i64.wrap (x1.int-1))/\(IntKind.i64.wrap (x1.int-1))<(x2.rows.length:Int)))
  (cond (decide ((Int.toNat (IntKind.i64.wrap (x1.int-1)))<x2.rows.length))
  (cond (decide (((x2.rows.getD (Int.toNat (IntKind.i64.wrap (x1.int-1))) []).getD 0 dflt).int > x0.int))
  (j2)
  (k0 x0 x1 (T.l x2.rows)))
  (.bad))
  (.bad))
  (k0 x0 x1 (T.l x2.rows)))
  (cond (decide ((0:Int)<=(IntKind.i64.wrap (x1.int-1))/\(IntKind.i64.wrap (x1.int-1))<(x2.rows.length:Int)))
  (cond (decide ((Int.toNat (IntKind.i64.wrap (x1.int-1)))<x2.rows.length))
  (cond (decide ((0:Int)<=x1.int/\x1.int<(x2.rows.length:Int)))
  (cond (decide ((Int.toNat x1.int)<x2.rows.length))
  (ng m n x0 (T.i (IntKind.i64.wrap (x1.int-1))) (T.l (x2.rows.set (Int.toNat x1.int) ((x2.rows.getD (Int.toNat x1.int) []).set 0 ((x2.rows.getD (Int.toNat (IntKind.i64.wrap (x1.int-1))) []).getD 0 dflt)))) k0)
  (.bad))
  (.bad))
  (.bad))
  (.bad))
def sS:Nat->T->T->(T->An)->An
 | 0,_,_,_=>.bad
 | m+1,x0,x1,k0 =>
  qw m (T.l x0.rows) x1
  (fun y0=>cond y0.bool
  (k0 (T.l x0.rows))
  (cond (decide ((0+x0.rows.length) * 1<=aD))
  (cond (decide ((x0.rows.length+1) * 1<=aD))
  (ng m m x1 (T.i (IntKind.i64.wrap (((x0.rows++[[x1]]).length:Int)-1))) (T.l (x0.rows++[[x1]]))
  (fun y3 y4 y5=>cond (decide ((0:Int)<=y4.int/\y4.int<(y5.rows.length:Int)))
  (cond (decide ((Int.toNat y4.int)<y5.rows.length))
  (k0 (T.l (y5.rows.set (Int.toNat y4.int) ((y5.rows.getD (Int.toNat y4.int) []).set 0 y3))))
  (.bad))
  (.bad)))
  (.bad))
  (.bad)))
def FY:Fs:=⟨129,[.one (.fz tI []),.one (AI)],fun m vs k=>ap 2 (sS m) vs (lm 1 fun z=>k (bg ⟨[.one (.fz tI [])],[[none],[none]],[none,none]⟩ z))⟩
def ZY:List Ls:=[⟨[0,0,1,1,1,1],⟨[(1,.one (LI)),(5,.one (LA (KI 0) tI)),(6,.one (LI))],[((KI 0),.row tI [.F] [])]⟩,fun m n vs k=>ap 3 (ng m n) vs (lm 3 fun z=>k (.exit 0) (aG ⟨[(1,.one (LI)),(5,.one (LA (KI 0) tI)),(6,.one (LI))],[((KI 0),.row tI [.F] [])]⟩ z))⟩]
def NY:List Fs:=FY::NV
theorem Z0:aM CX au NY/\aY CX au FY:=fF ZX.1 FY Tryz.f129 ⟨129,2,46,16⟩ ZY (fun _ _=>rfl) (fun _ _ _=>by kernel_rfl) ⟨fun _ _ _=>rfl,trivial⟩ ⟨fun _ _ _ _ _ _=>by kernel_rfl,trivial⟩ (fun _ _ _ _ _=>by kernel_rfl)
def iQ (m:Nat):Nat->T->T->T->T->(T->An)->(T->An)->An
 | 0,_,_,_,_,_,_=>.bad
 | n+1,x0,x1,x2,x3,k0,k1 =>
  cond (decide (x3.int<(x0.rows.length:Int)))
  (cond (decide ((0:Int)<=x3.int/\x3.int<(x0.rows.length:Int)))
  (qR m (((x0.rows.getD (Int.toNat x3.int) []).drop 1).getD 0 dflt) x1
  (fun y2=>sS m (T.l x2.rows) y2
  (fun y3=>iQ m n x0 x1 (T.l y3.rows) (T.i (IntKind.i64.wrap (x3.int+1))) k0 k1)))
  (.bad))
  (k0 x2)
def oJ (m:Nat):Nat->T->T->T->T->(T->An)->(T->An)->An
 | 0,_,_,_,_,_,_=>.bad
 | n+1,x0,x1,x2,x3,k0,k1 =>
  cond (decide (x2.int<(x0.rows.length:Int)))
  (cond (decide ((0:Int)<=x2.int/\x2.int<(x0.rows.length:Int)))
  (qR m (((x0.rows.getD (Int.toNat x2.int) []).drop 1).getD 0 dflt) x1
  (fun y0=>sS m (T.l x3.rows) y0
  (fun y1=>iQ m n x0 x1 (T.l y1.rows) (T.i (IntKind.i64.wrap (x2.int+1))) k0 k1)))
  (.bad))
  (k1 (T.l x3.rows))
def Ac:Pack:=⟨[(5,.one (LZ tI))],[]⟩
def Ad:Pack:=⟨[(5,.one (LA (KI 0) tI))],[((KI 0),.fz tI [])]⟩
def gK:Nat->T->T->(T->An)->An
 | 0,_,_,_=>.bad
 | m+1,x0,x1,k0 =>
  oJ m m (T.l x0.rows) x1 (T.i 0) (T.l [])
  (fun y4=>k0 (T.l y4.rows))
  (fun y5=>k0 (T.l y5.rows))
def xU:Fs:=⟨103,[.one (.dz tO []),.one (AI)],fun m vs k=>ap 2 (gK m) vs (lm 1 fun z=>k (bg ⟨[.one (.fz tI [])],[[none],[none]],[none,none]⟩ z))⟩
def Rh:List Ls:=[⟨[0,1,0,1,1],⟨[(0,.one (LD tO)),(1,.one (LI)),(5,.one (LZ tI)),(6,.one (LI))],[([4000000],.gone)]⟩,fun m n vs k=>ap 4 (iQ m n) vs (lm 1 fun z=>k (.exit 0) (aG Ac z)) (lm 1 fun z=>k (.exit 0) (aG Ad z))⟩,⟨[0,1,0,1,1],⟨[(0,.one (LD tO)),(1,.one (LI)),(5,.one (LA (KI 1) tI)),(6,.one (LI))],[([4000000],.gone),((KI 1),.fz tI [])]⟩,fun m n vs k=>ap 4 (oJ m n) vs (lm 1 fun z=>k (.exit 0) (aG Ac z)) (lm 1 fun z=>k (.exit 0) (aG Ad z))⟩]
def G7:List Fs:=xU::NY
theorem Ri:aM CX au G7/\aY CX au xU:=fF Z0.1 xU Tryz.f103 ⟨103,2,24,16⟩ Rh (fun _ _=>rfl) (fun _ _ _=>by kernel_rfl) ⟨fun _ _ _=>rfl,fun _ _ _=>rfl,trivial⟩ ⟨fun _ _ _ _ _ _=>by kernel_rfl,fun _ _ _ _ _ _=>by kernel_rfl,trivial⟩ (fun _ _ _ _ _=>by kernel_rfl)
def iR (m:Nat):Nat->T->T->T->T->T->(T->An)->An
 | 0,_,_,_,_,_,_=>.bad
 | n+1,x0,x1,x2,x3,x4,k0 =>
  cond (decide (x3.int<(x0.rows.length:Int)))
  (cond (decide ((0:Int)<=x3.int/\x3.int<(x0.rows.length:Int)))
  (qR m (((x0.rows.getD (Int.toNat x3.int) []).drop 1).getD 0 dflt) x2
  (fun y0=>cond (y0.int==x1.int)
  (cond (decide ((0:Int)<=x3.int/\x3.int<(x0.rows.length:Int)))
  (cond (decide ((x4.rows.length+1) * 3<=aD))
  (iR m n x0 x1 x2 (T.i (IntKind.i64.wrap (x3.int+1))) (T.l (x4.rows++[[((x0.rows.getD (Int.toNat x3.int) []).getD 0 dflt),((x0.rows.getD (Int.toNat x3.int) []).getD 1 dflt),((x0.rows.getD (Int.toNat x3.int) []).getD 2 dflt)]])) k0)
  (.bad))
  (.bad))
  (iR m n x0 x1 x2 (T.i (IntKind.i64.wrap (x3.int+1))) (T.l x4.rows) k0)))
  (.bad))
  (k0 (T.l x4.rows))
def xu:Nat->T->T->T->(T->An)->An
 | 0,_,_,_,_=>.bad
 | m+1,x0,x1,x2,k0 =>
  iR m m (T.l x0.rows) x1 x2 (T.i 0) (T.l [])
  (fun y3=>k0 (T.l y3.rows))
def Dn:Fs:=⟨65,[.one (.dz tO []),.one (AI),.one (AI)],fun m vs k=>ap 3 (xu m) vs (lm 1 fun z=>k (bg ⟨[.one (.own (KR 0 0) tO m3 [])],[[none],[none],[none]],[none,none,none]⟩ z))⟩
def WU:List Ls:=[⟨[0,1,0,1,1],⟨[(0,.one (LD tO)),(1,.one (LI)),(2,.one (LI)),(7,.one (LA (KI 1) tO)),(8,.one (LI))],[([4000000],.gone),((KI 1),.row tO m3 [])]⟩,fun m n vs k=>ap 5 (iR m n) vs (lm 1 fun z=>k (.exit 0) (aG ⟨[(7,.one (LA (KI 0) tO))],[((KI 0),.row tO m3 [])]⟩ z))⟩]
def KZ:List Fs:=Dn::G7
theorem WV:aM CX au KZ/\aY CX au Dn:=fF Ri.1 Dn Tryz.f65 ⟨65,3,33,64⟩ WU (fun _ _=>rfl) (fun _ _ _=>by kernel_rfl) ⟨fun _ _ _=>rfl,trivial⟩ ⟨fun _ _ _ _ _ _=>by kernel_rfl,trivial⟩ (fun _ _ _ _ _=>by kernel_rfl)
def iT (m:Nat):Nat->T->T->T->T->T->T->T->T->T->T->T->T->T->T->T->(T->An)->An
 | 0,_,_,_,_,_,_,_,_,_,_,_,_,_,_,_,_=>.bad
 | n+1,x0,x1,x2,x3,x4,x5,x6,x7,x8,x9,x10,bH,fT,kX,xk,k0 =>
  cond (decide (x3.int<(x2.rows.length:Int)))
  ((fun (j5:T->An) =>
  cond (decide ((0:Int)<=x3.int/\x3.int<(x2.rows.length:Int)))
  (qw m (T.l kX.rows) ((x2.rows.getD (Int.toNat x3.int) []).getD 0 dflt)
  (fun y1=>cond (!y1.bool)
  (cond (decide ((0:Int)<=x3.int/\x3.int<(x2.rows.length:Int)))
  (cond (decide ((0:Int)<=x3.int/\x3.int<(x2.rows.length:Int)))
  (xu m (T.l bH.rows) ((x2.rows.getD (Int.toNat x3.int) []).getD 0 dflt) x4
  (fun y2=>cond (decide ((xk.rows.length+1) * 5<=aD))
  (j5 (T.l (xk.rows++[[(T.i 1),((x2.rows.getD (Int.toNat x3.int) []).getD 0 dflt),x10,(T.l y2.rows),(T.b false)]])))
  (.bad)))
  (.bad))
  (.bad))
  (j5 (T.l xk.rows))))
  (.bad))
  (fun y4=>iT m n (T.i (x0.int.toNat:Int)) (T.i (x1.int.toNat:Int)) x2 (T.i (IntKind.i64.wrap (x3.int+1))) x4 x5 x6 x7 x8 x9 x10 bH fT kX (T.l y4.rows) k0))
  (k0 (T.l xk.rows))
def rX:Nat->T->T->T->T->T->T->T->T->T->T->(T->An)->An
 | 0,_,_,_,_,_,_,_,_,_,_,_=>.bad
 | m+1,x0,x1,x2,x3,x4,x5,x6,x7,x8,x9,k0 =>
  gK m (T.l x7.rows) x0
  (fun y0=>iT m m (T.i 0) (T.i 0) (T.l y0.rows) (T.i 0) x0 x1 x2 (T.l x3.rows) (T.l x4.rows) x5 x6 (T.l x7.rows) x8 (T.l x9.rows) (T.l [])
  (fun y6=>k0 (T.l y6.rows)))
def xV:Fs:=⟨151,[.agg [AI,AI,AI,.dz tJ [],.dz tC [],AI],.agg [AI,.dz tO [],AI,.dz tI []]],fun m vs k=>ap 10 (rX m) vs (lm 1 fun z=>k (bg ⟨[.one (.own (KR 0 0) tW m5 [])],[[none,none,none,none,none,none],[none,none,none,none]],[none,none]⟩ z))⟩
def Rj:List Ls:=[⟨[0,1,0,1,1,1],⟨[(2,EP 0),(3,EP 1),(5,.one (LA (KI 2) tW)),(6,.one (LZ tI)),(7,.one (LI))],[((KI 0),.box [LI,LI,LI,LD tJ,LD tC,LI]),((KI 1),.box [LI,LD tO,LI,LD tI]),((KI 2),.row tW m5 []),([4000000],.gone)]⟩,fun m n vs k=>ap 15 (iT m n) vs (lm 1 fun z=>k (.exit 0) (aG ⟨[(5,.one (LA (KI 0) tW))],[((KI 0),.row tW m5 [])]⟩ z))⟩]
def G8:List Fs:=xV::KZ
theorem Rk:aM CX au G8/\aY CX au xV:=fF WV.1 xV Tryz.f151 ⟨151,2,48,16⟩ Rj (fun _ _=>rfl) (fun _ _ _=>by kernel_rfl) ⟨fun _ _ _=>rfl,trivial⟩ ⟨fun _ _ _ _ _ _=>by kernel_rfl,trivial⟩ (fun _ _ _ _ _=>by kernel_rfl)
def wE:Nat->T->T->T->T->T->T->T->(T->T->T->T->T->T->T->T->An)->An
 | 0,_,_,_,_,_,_,_,_=>.bad
 | m+1,x0,x1,x2,x3,x4,x5,x6,k0 =>
  jn (fun (j4:An) =>
  mq m (T.l x6.rows)
  (fun y0=>cond ((!y0.bool)==false)
  (cond ((x2.int==999)==false)
  (cond (decide ((x4.rows.length:Int)>=1000))
  (k0 (T.l []) (T.i 0) x0 x1 x2 (T.l x3.rows) (T.l x4.rows) x5)
  (j4))
  (k0 (T.l []) (T.i 0) x0 x1 x2 (T.l x3.rows) (T.l x4.rows) x5))
  (k0 (T.l []) (T.i 0) x0 x1 x2 (T.l x3.rows) (T.l x4.rows) x5)))
  (jG m (T.l x6.rows)
  (fun y2=>cond (decide ((x3.rows.length+1) * 4<=aD))
  (rX m x0 x1 (T.i (IntKind.i64.wrap (x2.int+1))) (T.l (x3.rows++[[(T.i (IntKind.i64.wrap ((IntKind.i64.wrap (x1.int * 1000))+x2.int))),(T.l y2.rows),(T.i 1),(T.l [])]])) (T.l x4.rows) x5 (T.i (IntKind.i64.wrap ((IntKind.i64.wrap (x1.int * 1000))+x2.int))) (T.l y2.rows) (T.i 1) (T.l [])
  (fun y3=>k0 (T.l y3.rows) (T.i (IntKind.i64.wrap ((IntKind.i64.wrap (x1.int * 1000))+x2.int))) x0 x1 (T.i (IntKind.i64.wrap (x2.int+1))) (T.l (x3.rows++[[(T.i (IntKind.i64.wrap ((IntKind.i64.wrap (x1.int * 1000))+x2.int))),(T.l y2.rows),(T.i 1),(T.l [])]])) (T.l x4.rows) x5))
  (.bad)))
def xW:Fs:=⟨116,[.bx [AI,AI,AI,.own tJ m4 [],.own tC m2 [],AI],.one (.dz tO [])],fun m vs k=>ap 7 (wE m) vs (lm 8 fun z=>k (bg ⟨[.one (.own (KR 0 0) tW m5 []),.one (RI)],[[none,none,none,none,none,none],[none]],[some [RI,RI,RI,.own (KR 1000 3) tJ m4 [],.own (KR 1000 4) tC m2 [],RI],none]⟩ z))⟩
def G9:List Fs:=xW::G8
theorem Rl:aM CX au G9/\aY CX au xW:=fF Rk.1 xW Tryz.f116 ⟨116,2,64,49⟩ [] (fun _ _=>rfl) (fun _ _ _=>by kernel_rfl) trivial trivial (fun _ _ _ _ _=>by kernel_rfl)
def uJ:Nat->T->T->T->T->T->(T->T->T->T->T->An)->An
 | 0,_,_,_,_,_,_=>.bad
 | m+1,x0,x1,x2,x3,x4,k0 =>
  jG m (T.l x3.rows)
  (fun y0=>k0 x0 x1 x2 (T.l y0.rows) x4)
def Ae:Fs:=⟨121,[.agg [AI,AI,AI,.dz tO [],AB]],fun m vs k=>ap 5 (uJ m) vs (lm 5 fun z=>k (bg ⟨[.agg [RI,RI,RI,.own (KR 0 3) tO m3 [],RB]],[[none,none,none,none,none]],[none]⟩ z))⟩
def Jb:List Fs:=Ae::G9
theorem UW:aM CX au Jb/\aY CX au Ae:=fF Rl.1 Ae Tryz.f121 ⟨121,1,8,4⟩ [] (fun _ _=>rfl) (fun _ _ _=>by kernel_rfl) trivial trivial (fun _ _ _ _ _=>by kernel_rfl)
def jT (m:Nat):Nat->T->T->T->T->T->T->T->T->T->T->T->T->T->(T->T->T->T->T->T->T->T->T->T->T->An)->(T->T->T->T->T->T->T->T->T->T->T->An)->An
 | 0,_,_,_,_,_,_,_,_,_,_,_,_,_,_,_=>.bad
 | n+1,x0,x1,x2,x3,x4,x5,x6,x7,x8,x9,x10,bH,fT,k0,k1 =>
  cond (decide (x2.int<(x1.rows.length:Int)))
  ((fun (j12:T->An) =>
  cond (decide ((x10.rows.length:Int)<400))
  (cond (decide ((0:Int)<=x2.int/\x2.int<(x1.rows.length:Int)))
  (uJ m ((x1.rows.getD (Int.toNat x2.int) []).getD 0 dflt) ((x1.rows.getD (Int.toNat x2.int) []).getD 1 dflt) ((x1.rows.getD (Int.toNat x2.int) []).getD 2 dflt) (T.l ((x1.rows.getD (Int.toNat x2.int) []).getD 3 dflt).rows) ((x1.rows.getD (Int.toNat x2.int) []).getD 4 dflt)
  (fun y5 y6 y7 y8 y9=>cond (decide ((x10.rows.length+1) * 5<=aD))
  (j12 (T.l (x10.rows++[[y5,y6,y7,(T.l y8.rows),y9]])))
  (.bad)))
  (.bad))
  (j12 (T.l x10.rows)))
  (fun ou=>jT m n (T.i (x0.int.toNat:Int)) x1 (T.i (IntKind.i64.wrap (x2.int+1))) x3 x4 x5 x6 (T.l x7.rows) (T.l x8.rows) (T.l x9.rows) (T.l ou.rows) (T.l bH.rows) (T.l fT.rows) k0 k1))
  (k0 (T.i (x0.int.toNat:Int)) x3 x4 x5 x6 (T.l x7.rows) (T.l x8.rows) (T.l x9.rows) (T.l x10.rows) (T.l bH.rows) (T.l fT.rows))
def jU (m:Nat):Nat->T->T->T->T->T->T->T->T->T->T->T->T->T->(T->T->T->T->T->T->T->T->T->T->T->An)->(T->T->T->T->T->T->T->T->T->T->T->An)->An
 | 0,_,_,_,_,_,_,_,_,_,_,_,_,_,_,_=>.bad
 | n+1,x0,x1,x2,x3,x4,x5,x6,x7,x8,x9,x10,bH,fT,k0,k1 =>
  cond (decide (x2.int<(x1.rows.length:Int)))
  (cond (decide ((x10.rows.length:Int)<400))
  (cond (decide ((0:Int)<=x2.int/\x2.int<(x1.rows.length:Int)))
  (uJ m ((x1.rows.getD (Int.toNat x2.int) []).getD 0 dflt) ((x1.rows.getD (Int.toNat x2.int) []).getD 1 dflt) ((x1.rows.getD (Int.toNat x2.int) []).getD 2 dflt) (T.l ((x1.rows.getD (Int.toNat x2.int) []).getD 3 dflt).rows) ((x1.rows.getD (Int.toNat x2.int) []).getD 4 dflt)
  (fun y0 y1 y2 y3 y4=>cond (decide ((x10.rows.length+1) * 5<=aD))
  (jT m n (T.i (x0.int.toNat:Int)) x1 (T.i (IntKind.i64.wrap (x2.int+1))) x3 x4 x5 x6 (T.l x7.rows) (T.l x8.rows) (T.l x9.rows) (T.l (x10.rows++[[y0,y1,y2,(T.l y3.rows),y4]])) (T.l bH.rows) (T.l fT.rows) k0 k1)
  (.bad)))
  (.bad))
  (jU m n (T.i (x0.int.toNat:Int)) x1 (T.i (IntKind.i64.wrap (x2.int+1))) x3 x4 x5 x6 (T.l x7.rows) (T.l x8.rows) (T.l x9.rows) (T.l x10.rows) (T.l bH.rows) (T.l fT.rows) k0 k1))
  (k1 (T.i (x0.int.toNat:Int)) x3 x4 x5 x6 (T.l x7.rows) (T.l x8.rows) (T.l x9.rows) (T.l x10.rows) (T.l bH.rows) (T.l fT.rows))
def BR:Pack:=⟨[(0,.ptr [0,999999] 0 0 0)],[([0,999999],.box [LI,LI,LI,LA [0,3] tJ,LA [0,4] tC,LI,LA [0,6] tS,LA (KI 4) tW,LA [0,8] tW,LA [0,9] tB]),([0,3],.row tJ m4 []),([0,4],.row tC m2 []),([0,6],.row tS mS []),((KI 4),.row tW m5 []),([0,8],.row tW m5 []),([0,9],.row tB m2 [])]⟩
def BS:Pack:=⟨[(0,.ptr [0,999999] 0 0 0)],[([0,999999],.box [LI,LI,LI,LA [0,3] tJ,LA [0,4] tC,LI,LA [0,6] tS,LA [0,7] tW,LA [0,8] tW,LA [0,9] tB]),([0,3],.row tJ m4 []),([0,4],.row tC m2 []),([0,6],.row tS mS []),([0,7],.row tW m5 []),([0,8],.row tW m5 []),([0,9],.row tB m2 [])]⟩
def jB:Nat->T->T->T->T->T->T->T->T->T->T->T->(T->T->T->T->T->T->T->T->T->T->An)->An
 | 0,_,_,_,_,_,_,_,_,_,_,_,_=>.bad
 | m+1,x0,x1,x2,x3,x4,x5,x6,x7,x8,x9,x10,k0 =>
  jU m m (T.i 0) (T.l x10.rows) (T.i 0) x0 x1 x2 x5 (T.l x3.rows) (T.l x4.rows) (T.l x6.rows) (T.l x7.rows) (T.l x8.rows) (T.l x9.rows)
  (fun y13 pJ uh xE vL u7 Ku y20 y21 y22 y23=>k0 (T.l u7.rows) (T.l Ku.rows) (T.l y20.rows) (T.l y22.rows) (T.l y23.rows) pJ uh xE vL (T.l y21.rows))
  (fun y24 y25 Ra y27 y28 y29 UR y31 y32 y33 y34=>k0 (T.l y29.rows) (T.l UR.rows) (T.l y31.rows) (T.l y33.rows) (T.l y34.rows) y25 Ra y27 y28 (T.l y32.rows))
def Af:Fs:=⟨90,[.bx [AI,AI,AI,.own tJ m4 [],.own tC m2 [],AI,.own tS mS [],.own tW m5 [],.own tW m5 [],.own tB m2 []],.one (.dz tW [])],fun m vs k=>ap 11 (jB m) vs (lm 10 fun z=>k (bg ⟨[],[[none,none,none,some (tJ,m4,[]),some (tC,m2,[]),none,some (tS,mS,[]),none,some (tW,m5,[]),some (tB,m2,[])],[none]],[some [RI,RI,RI,.par 0 3,.par 0 4,RI,.par 0 6,.own (KR 1000 7) tW m5 [],.par 0 8,.par 0 9],none]⟩ z))⟩
def UY:List Ls:=[⟨[0,1],⟨[(0,.ptr [0,999999] 0 0 0),(1,.one (LD tW)),(4,.one (LI))],[([0,999999],.box [LI,LI,LI,LA [0,3] tJ,LA [0,4] tC,LI,LA [0,6] tS,LA (KI 5) tW,LA [0,8] tW,LA [0,9] tB]),([4000000],.gone),([0,3],.row tJ m4 []),([0,4],.row tC m2 []),([0,6],.row tS mS []),((KI 5),.row tW m5 []),([0,8],.row tW m5 []),([0,9],.row tB m2 [])]⟩,fun m n vs k=>ap 13 (jT m n) vs (lm 11 fun z=>k (.exit 0) (aG BR z)) (lm 11 fun z=>k (.exit 0) (aG BS z))⟩,⟨[0,1],⟨[(0,.ptr [0,999999] 0 0 0),(1,.one (LD tW)),(4,.one (LI))],[([0,999999],.box [LI,LI,LI,LA [0,3] tJ,LA [0,4] tC,LI,LA [0,6] tS,LA [0,7] tW,LA [0,8] tW,LA [0,9] tB]),([4000000],.gone),([0,3],.row tJ m4 []),([0,4],.row tC m2 []),([0,6],.row tS mS []),([0,7],.row tW m5 []),([0,8],.row tW m5 []),([0,9],.row tB m2 [])]⟩,fun m n vs k=>ap 13 (jU m n) vs (lm 11 fun z=>k (.exit 0) (aG BR z)) (lm 11 fun z=>k (.exit 0) (aG BS z))⟩]
def Jc:List Fs:=Af::Jb
theorem UZ:aM CX au Jc/\aY CX au Af:=fF UW.1 Af Tryz.f90 ⟨90,2,31,1⟩ UY (fun _ _=>rfl) (fun _ _ _=>by kernel_rfl) ⟨fun _ _ _=>rfl,fun _ _ _=>rfl,trivial⟩ ⟨fun _ _ _ _ _ _=>by kernel_rfl,fun _ _ _ _ _ _=>by kernel_rfl,trivial⟩ (fun _ _ _ _ _=>by kernel_rfl)
def wF:Nat->T->T->T->T->T->T->T->T->T->T->T->(T->T->T->T->T->T->T->T->T->T->T->An)->An
 | 0,_,_,_,_,_,_,_,_,_,_,_,_=>.bad
 | m+1,x0,x1,x2,x3,x4,x5,x6,x7,x8,x9,x10,k0 =>
  cond ((x9.rows.length:Int)==1000)
  (k0 (T.b false) x0 x1 x2 (T.l x3.rows) (T.l x4.rows) x5 (T.l x6.rows) (T.l x7.rows) (T.l x8.rows) (T.l x9.rows))
  (wE m x0 x1 x2 (T.l x3.rows) (T.l x4.rows) x5 (T.l x10.rows)
  (fun y0 y1 y2 y3 y4 y5 y6 y7=>cond (y1.int==0)
  (k0 (T.b false) y2 y3 y4 (T.l y5.rows) (T.l y6.rows) y7 (T.l x6.rows) (T.l x7.rows) (T.l x8.rows) (T.l x9.rows))
  (jG m (T.l x10.rows)
  (fun y8=>cond (decide ((x9.rows.length+1) * 2<=aD))
  (jB m y2 y3 y4 (T.l y5.rows) (T.l y6.rows) y7 (T.l x6.rows) (T.l x7.rows) (T.l x8.rows) (T.l (x9.rows++[[y1,(T.l y8.rows)]])) (T.l y0.rows)
  (fun y9 nP ou oF y13 pJ uh xE vL u7=>k0 (T.b true) pJ uh xE (T.l y9.rows) (T.l nP.rows) vL (T.l ou.rows) (T.l u7.rows) (T.l oF.rows) (T.l y13.rows)))
  (.bad)))))
def xX:Fs:=⟨87,[.bx [AI,AI,AI,.own tJ m4 [],.own tC m2 [],AI,.own tS mS [],.own tW m5 [],.own tW m5 [],.own tB m2 []],.one (.dz tO [])],fun m vs k=>ap 11 (wF m) vs (lm 11 fun z=>k (bg ⟨[.one (RB)],[[none,none,none,none,none,none,none,none,none,none],[none]],[some [RI,RI,RI,.own (KR 1000 3) tJ m4 [],.own (KR 1000 4) tC m2 [],RI,.own (KR 1000 6) tS mS [],.own (KR 1000 7) tW m5 [],.own (KR 1000 8) tW m5 [],.own (KR 1000 9) tB m2 []],none]⟩ z))⟩
def He:List Fs:=xX::Jc
theorem Rm:aM CX au He/\aY CX au xX:=fF UZ.1 xX Tryz.f87 ⟨87,2,39,17⟩ [] (fun _ _=>rfl) (fun _ _ _=>by kernel_rfl) trivial trivial (fun _ _ _ _ _=>by kernel_rfl)
def nV (m:Nat):Nat->T->T->T->(T->An)->An->An
 | 0,_,_,_,_,_=>.bad
 | n+1,x0,x1,x2,k0,k1 =>
  cond (decide (x2.int<(x0.rows.length:Int)))
  (cond (decide ((0:Int)<=x2.int/\x2.int<(x0.rows.length:Int)))
  (cond ((((x0.rows.getD (Int.toNat x2.int) []).drop 1).getD 0 dflt).int==x1.int)
  (k0 x2)
  (nV m n x0 x1 (T.i (IntKind.i64.wrap (x2.int+1))) k0 k1))
  (.bad))
  (k1 )
def Ei:Nat->T->T->(T->An)->An
 | 0,_,_,_=>.bad
 | m+1,x0,x1,k0 =>
  nV m m (T.l x0.rows) x1 (T.i 0)
  (fun y0=>k0 y0)
  (k0 (T.i (-1)))
def Jd:Fs:=⟨159,[.one (.dz tR []),.one (AI)],fun m vs k=>ap 2 (Ei m) vs (lm 1 fun z=>k (bg ⟨[.one (RI)],[[none],[none]],[none,none]⟩ z))⟩
def abM:List Ls:=[⟨[0,1,0,1],⟨[(0,.one (LD tR)),(1,.one (LI)),(5,.one (LI))],[([4000000],.gone)]⟩,fun m n vs k=>ap 3 (nV m n) vs (lm 1 fun z=>k .ret (aG ⟨[(4,.one (LI))],[]⟩ z)) (lm 0 fun z=>k (.exit 0) (aG ⟨[],[]⟩ z))⟩]
def QB:List Fs:=Jd::He
theorem abN:aM CX au QB/\aY CX au Jd:=fF Rm.1 Jd Tryz.f159 ⟨159,2,20,16⟩ abM (fun _ _=>rfl) (fun _ _ _=>by kernel_rfl) ⟨fun _ _ _=>rfl,trivial⟩ ⟨fun _ _ _ _ _ _=>by kernel_rfl,trivial⟩ (fun _ _ _ _ _=>by kernel_rfl)
def dR (m:Nat):Nat->T->T->T->T->T->T->T->T->T->(T->An)->An
 | 0,_,_,_,_,_,_,_,_,_,_=>.bad
 | n+1,x0,x1,x2,x3,x4,x5,x6,x7,x8,k0 =>
  cond (decide (x3.int<(x5.rows.length:Int)))
  (jn (fun (j4:T->An) =>
  cond (decide ((0:Int)<=x3.int/\x3.int<(x5.rows.length:Int)))
  (cond (((((x5.rows.getD (Int.toNat x3.int) []).drop 1).getD 0 dflt).int==x0.int)==true)
  (cond (decide ((0:Int)<=x3.int/\x3.int<(x5.rows.length:Int)))
  (cond (((x5.rows.getD (Int.toNat x3.int) []).getD 0 dflt).int==2)
  (j4 (T.i 3))
  (j4 x2))
  (.bad))
  (j4 x2))
  (.bad))
  (fun y2=>cond (decide ((0:Int)<=x3.int/\x3.int<(x5.rows.length:Int)))
  (cond (((((x5.rows.getD (Int.toNat x3.int) []).drop 1).getD 0 dflt).int==x0.int)==true)
  (cond (decide ((0:Int)<=x3.int/\x3.int<(x5.rows.length:Int)))
  (cond (((x5.rows.getD (Int.toNat x3.int) []).getD 0 dflt).int==3)
  (dR m n x0 (T.i (x1.int.toNat:Int)) (T.i 4) (T.i (IntKind.i64.wrap (x3.int+1))) x4 x5 x6 x7 x8 k0)
  (dR m n x0 (T.i (x1.int.toNat:Int)) y2 (T.i (IntKind.i64.wrap (x3.int+1))) x4 x5 x6 x7 x8 k0))
  (.bad))
  (dR m n x0 (T.i (x1.int.toNat:Int)) y2 (T.i (IntKind.i64.wrap (x3.int+1))) x4 x5 x6 x7 x8 k0))
  (.bad)))
  (k0 x2)
def nW:Nat->T->T->T->T->T->T->(T->An)->An
 | 0,_,_,_,_,_,_,_=>.bad
 | m+1,x0,x1,x2,x3,x4,x5,k0 =>
  Ei m (T.l x4.rows) x5
  (fun y0=>cond (decide (y0.int>=0))
  (k0 (T.i 1))
  (dR m m x5 (T.i 0) (T.i 2) (T.i 0) x0 (T.l x1.rows) x2 (T.l x3.rows) (T.l x4.rows)
  (fun y7=>k0 y7)))
def vN:Fs:=⟨175,[.agg [AI,.dz tR [],AI,.dz tP [],.dz tR []],.one (AI)],fun m vs k=>ap 6 (nW m) vs (lm 1 fun z=>k (bg ⟨[.one (RI)],[[none,none,none,none,none],[none]],[none,none]⟩ z))⟩
def Pt:List Ls:=[⟨[0,1,0,1,1,1],⟨[(1,.one (LI)),(2,EP 0),(5,.one (LI)),(6,.one (LI))],[((KI 0),.box [LI,LD tR,LI,LD tP,LD tR]),([4000000],.gone)]⟩,fun m n vs k=>ap 9 (dR m n) vs (lm 1 fun z=>k (.exit 0) (aG ⟨[(5,.one (LI))],[]⟩ z))⟩]
def Ej:List Fs:=vN::QB
theorem Pv:aM CX au Ej/\aY CX au vN:=fF abN.1 vN Tryz.f175 ⟨175,2,54,16⟩ Pt (fun _ _=>rfl) (fun _ _ _=>by kernel_rfl) ⟨fun _ _ _=>rfl,trivial⟩ ⟨fun _ _ _ _ _ _=>by kernel_rfl,trivial⟩ (fun _ _ _ _ _=>by kernel_rfl)
def iU (m:Nat):Nat->T->T->T->T->T->(T->An)->(T->T->T->T->An)->An
 | 0,_,_,_,_,_,_,_=>.bad
 | n+1,x0,x1,x2,x3,x4,k0,k1 =>
  cond (decide (x4.int<(x1.rows.length:Int)))
  (cond (decide ((0:Int)<=x2.int/\x2.int<(x0.rows.length:Int)))
  (cond (decide ((0:Int)<=x3.int/\x3.int<((((x0.rows.getD (Int.toNat x2.int) []).drop 2).getD 0 dflt).rows.length:Int)))
  (cond (decide ((0:Int)<=x4.int/\x4.int<(x1.rows.length:Int)))
  (cond (((((((x0.rows.getD (Int.toNat x2.int) []).drop 2).getD 0 dflt).rows.getD (Int.toNat x3.int) []).drop 1).getD 0 dflt).str.toList==(((x1.rows.getD (Int.toNat x4.int) []).drop 1).getD 0 dflt).str.toList)
  (k0 (T.b true))
  (iU m n x0 x1 x2 x3 (T.i (IntKind.i64.wrap (x4.int+1))) k0 k1))
  (.bad))
  (.bad))
  (.bad))
  (k1 x0 x1 x2 x3)
def iV (m:Nat):Nat->T->T->T->T->(T->An)->(T->T->T->An)->An
 | 0,_,_,_,_,_,_=>.bad
 | n+1,x0,x1,x2,x3,k0,k1 =>
  cond (decide ((0:Int)<=x2.int/\x2.int<(x0.rows.length:Int)))
  (cond (decide (x3.int<((((x0.rows.getD (Int.toNat x2.int) []).drop 2).getD 0 dflt).rows.length:Int)))
  (iU m n x0 x1 x2 x3 (T.i 0)
  (fun y0=>k0 y0)
  (fun y1 y2 y3 y4=>iV m n y1 y2 y3 (T.i (IntKind.i64.wrap (y4.int+1))) k0 k1))
  (k1 x0 x1 x2))
  (.bad)
def iW (m:Nat):Nat->T->T->T->(T->An)->An->An
 | 0,_,_,_,_,_=>.bad
 | n+1,x0,x1,x2,k0,k1 =>
  cond (decide (x2.int<(x0.rows.length:Int)))
  (iV m n x0 x1 x2 (T.i 0)
  (fun y5=>k0 y5)
  (fun y6 y7 y8=>iW m n y6 y7 (T.i (IntKind.i64.wrap (y8.int+1))) k0 k1))
  (k1 )
def rY:Nat->T->T->(T->An)->An
 | 0,_,_,_=>.bad
 | m+1,x0,x1,k0 =>
  iW m m (T.l x0.rows) (T.l x1.rows) (T.i 0)
  (fun y9=>k0 y9)
  (k0 (T.b false))
def xY:Fs:=⟨161,[.one (.dz tR []),.one (.dz tO [])],fun m vs k=>ap 2 (rY m) vs (lm 1 fun z=>k (bg ⟨[.one (RB)],[[none],[none]],[none,none]⟩ z))⟩
def Rn:List Ls:=[⟨[0,1,0,0,1,0,0,1,0,0,1,0,0,1,0,1],⟨[(0,.one (LD tR)),(1,.one (LD tO)),(5,.one (LI)),(6,.one (LI)),(7,.one (LI))],[([4000000],.gone)]⟩,fun m n vs k=>ap 5 (iU m n) vs (lm 1 fun z=>k .ret (aG ⟨[(4,.one (LB))],[]⟩ z)) (lm 4 fun z=>k (.exit 4) (aG ⟨[(0,.one (LD tR)),(1,.one (LD tO)),(5,.one (LI)),(6,.one (LI))],[([4000000],.gone)]⟩ z))⟩,⟨[0,1,0,0,1,0,0,1,0,1],⟨[(0,.one (LD tR)),(1,.one (LD tO)),(5,.one (LI)),(6,.one (LI))],[([4000000],.gone)]⟩,fun m n vs k=>ap 4 (iV m n) vs (lm 1 fun z=>k .ret (aG ⟨[(4,.one (LB))],[]⟩ z)) (lm 3 fun z=>k (.exit 2) (aG ⟨[(0,.one (LD tR)),(1,.one (LD tO)),(5,.one (LI))],[([4000000],.gone)]⟩ z))⟩,⟨[0,1,0,1],⟨[(0,.one (LD tR)),(1,.one (LD tO)),(5,.one (LI))],[([4000000],.gone)]⟩,fun m n vs k=>ap 3 (iW m n) vs (lm 1 fun z=>k .ret (aG ⟨[(4,.one (LB))],[]⟩ z)) (lm 0 fun z=>k (.exit 0) (aG ⟨[],[]⟩ z))⟩]
def Hf:List Fs:=xY::Ej
theorem Ro:aM CX au Hf/\aY CX au xY:=fF Pv.1 xY Tryz.f161 ⟨161,2,45,16⟩ Rn (fun _ _=>rfl) (fun _ _ _=>by kernel_rfl) ⟨fun _ _ _=>rfl,fun _ _ _=>rfl,fun _ _ _=>rfl,trivial⟩ ⟨fun _ _ _ _ _ _=>by kernel_rfl,fun _ _ _ _ _ _=>by kernel_rfl,fun _ _ _ _ _ _=>by kernel_rfl,trivial⟩ (fun _ _ _ _ _=>by kernel_rfl)
def lM (m:Nat):Nat->T->T->T->(T->T->An)->An->An
 | 0,_,_,_,_,_=>.bad
 | n+1,x0,x1,x2,k0,k1 =>
  cond (decide (x2.int<(x0.rows.length:Int)))
  (cond (decide ((0:Int)<=x2.int/\x2.int<(x0.rows.length:Int)))
  (cond (((x0.rows.getD (Int.toNat x2.int) []).getD 0 dflt).str.toList==x1.str.toList)
  (cond (decide ((0:Int)<=x2.int/\x2.int<(x0.rows.length:Int)))
  (k0 (((x0.rows.getD (Int.toNat x2.int) []).drop 1).getD 0 dflt) (T.b true))
  (.bad))
  (lM m n x0 x1 (T.i (IntKind.i64.wrap (x2.int+1))) k0 k1))
  (.bad))
  (k1 )
def BU:Nat->T->T->(T->T->An)->An
 | 0,_,_,_=>.bad
 | m+1,x0,x1,k0 =>
  lM m m (T.l x0.rows) x1 (T.i 0)
  (fun y0 y1=>k0 y0 y1)
  (k0 (T.s (⟨#[]⟩:ByteArray)) (T.b false))
def Dp:Fs:=⟨178,[.one (.dz tP []),.one (AS)],fun m vs k=>ap 2 (BU m) vs (lm 2 fun z=>k (bg ⟨[.one (RS),.one (RB)],[[none],[none]],[none,none]⟩ z))⟩
def WW:List Ls:=[⟨[0,1,0,1],⟨[(0,.one (LD tP)),(1,.one (LS)),(6,.one (LI))],[([4000000],.gone)]⟩,fun m n vs k=>ap 3 (lM m n) vs (lm 2 fun z=>k .ret (aG ⟨[(4,.one (LS)),(5,.one (LB))],[]⟩ z)) (lm 0 fun z=>k (.exit 0) (aG ⟨[],[]⟩ z))⟩]
def K5:List Fs:=Dp::Hf
theorem WX:aM CX au K5/\aY CX au Dp:=fF Ro.1 Dp Tryz.f178 ⟨178,2,25,48⟩ WW (fun _ _=>rfl) (fun _ _ _=>by kernel_rfl) ⟨fun _ _ _=>rfl,trivial⟩ ⟨fun _ _ _ _ _ _=>by kernel_rfl,trivial⟩ (fun _ _ _ _ _=>by kernel_rfl)
def kM (m:Nat):Nat->T->T->T->(T->An)->An->An
 | 0,_,_,_,_,_=>.bad
 | n+1,x0,x1,x2,k0,k1 =>
  cond (decide (x2.int<(x1.rows.length:Int)))
  (cond (decide ((0:Int)<=x2.int/\x2.int<(x1.rows.length:Int)))
  (cond (((x1.rows.getD (Int.toNat x2.int) []).getD 0 dflt).int != 3)
  (kM m n x0 x1 (T.i (IntKind.i64.wrap (x2.int+1))) k0 k1)
  (cond (decide ((0:Int)<=x2.int/\x2.int<(x1.rows.length:Int)))
  (BU m (T.l x0.rows) (((x1.rows.getD (Int.toNat x2.int) []).drop 1).getD 0 dflt)
  (fun y0 y1=>cond (decide ((0:Int)<=x2.int/\x2.int<(x1.rows.length:Int)))
  (cond ((!(y1.bool==(!((((x1.rows.getD (Int.toNat x2.int) []).drop 2).getD 0 dflt).str.toList==(⟨#[]⟩:ByteArray).toList))))==false)
  (cond (decide ((0:Int)<=x2.int/\x2.int<(x1.rows.length:Int)))
  (cond (!(y0.str.toList==(((x1.rows.getD (Int.toNat x2.int) []).drop 2).getD 0 dflt).str.toList))
  (k0 (T.b false))
  (kM m n x0 x1 (T.i (IntKind.i64.wrap (x2.int+1))) k0 k1))
  (.bad))
  (k0 (T.b false)))
  (.bad)))
  (.bad)))
  (.bad))
  (k1 )
def Ag:Nat->T->T->(T->An)->An
 | 0,_,_,_=>.bad
 | m+1,x0,x1,k0 =>
  kM m m (T.l x0.rows) (T.l x1.rows) (T.i 0)
  (fun y3=>k0 y3)
  (k0 (T.b true))
def FZ:Fs:=⟨162,[.one (.dz tP []),.one (.dz tO [])],fun m vs k=>ap 2 (Ag m) vs (lm 1 fun z=>k (bg ⟨[.one (RB)],[[none],[none]],[none,none]⟩ z))⟩
def Z4:List Ls:=[⟨[0,1,0,1],⟨[(0,.one (LD tP)),(1,.one (LD tO)),(5,.one (LI))],[([4000000],.gone)]⟩,fun m n vs k=>ap 3 (kM m n) vs (lm 1 fun z=>k .ret (aG ⟨[(4,.one (LB))],[]⟩ z)) (lm 0 fun z=>k (.exit 0) (aG ⟨[],[]⟩ z))⟩]
def NZ:List Fs:=FZ::K5
theorem Z5:aM CX au NZ/\aY CX au FZ:=fF WX.1 FZ Tryz.f162 ⟨162,2,47,16⟩ Z4 (fun _ _=>rfl) (fun _ _ _=>by kernel_rfl) ⟨fun _ _ _=>rfl,trivial⟩ ⟨fun _ _ _ _ _ _=>by kernel_rfl,trivial⟩ (fun _ _ _ _ _=>by kernel_rfl)
def lN (m:Nat):Nat->T->T->T->T->T->T->T->T->(T->An)->An
 | 0,_,_,_,_,_,_,_,_,_=>.bad
 | n+1,x0,x1,x2,x3,x4,x5,x6,x7,k0 =>
  cond (decide (x2.int<(x7.rows.length:Int)))
  (cond (decide ((0:Int)<=x2.int/\x2.int<(x7.rows.length:Int)))
  (lN m n (T.i (x0.int.toNat:Int)) (T.i (IntKind.i64.wrap (x1.int+((((x7.rows.getD (Int.toNat x2.int) []).drop 2).getD 0 dflt).rows.length:Int)))) (T.i (IntKind.i64.wrap (x2.int+1))) x3 x4 x5 x6 x7 k0)
  (.bad))
  (k0 x1)
def BX:Nat->T->T->T->T->T->T->(T->An)->An
 | 0,_,_,_,_,_,_,_=>.bad
 | m+1,x0,x1,x2,x3,x4,x5,k0 =>
  lN m m (T.i 0) (T.i (IntKind.i64.wrap ((x3.rows.length:Int)+(x5.rows.length:Int)))) (T.i 0) x0 (T.l x1.rows) x2 (T.l x3.rows) (T.l x4.rows)
  (fun y0=>k0 y0)
def Dq:Fs:=⟨184,[.agg [AI,.dz tR [],AI,.dz tP [],.dz tR []],.one (.dz tO [])],fun m vs k=>ap 6 (BX m) vs (lm 1 fun z=>k (bg ⟨[.one (RI)],[[none,none,none,none,none],[none]],[none,none]⟩ z))⟩
def WY:List Ls:=[⟨[0,1,0,1,1],⟨[(2,EP 0),(5,.one (LI)),(6,.one (LI))],[((KI 0),.box [LI,LD tR,LI,LD tP,LD tR]),([4000000],.gone)]⟩,fun m n vs k=>ap 8 (lN m n) vs (lm 1 fun z=>k (.exit 0) (aG ⟨[(5,.one (LI))],[]⟩ z))⟩]
def K6:List Fs:=Dq::NZ
theorem WZ:aM CX au K6/\aY CX au Dq:=fF Z5.1 Dq Tryz.f184 ⟨184,2,30,16⟩ WY (fun _ _=>rfl) (fun _ _ _=>by kernel_rfl) ⟨fun _ _ _=>rfl,trivial⟩ ⟨fun _ _ _ _ _ _=>by kernel_rfl,trivial⟩ (fun _ _ _ _ _=>by kernel_rfl)
def F3:Nat->T->T->T->(T->An)->An
 | 0,_,_,_,_=>.bad
 | m+1,x0,x1,x2,k0 =>
  bM m x1 (T.i 1) (T.i 1000000)
  (fun y0=>cond (!y0.bool)
  (k0 (T.b false))
  (cond (x0.int==1)
  (mq m (T.l x2.rows)
  (fun y1=>k0 y1))
  (cond (x0.int==2)
  (k0 (T.b ((x2.rows.length:Int)==0)))
  (cond (x0.int==3)
  (k0 (T.b ((x2.rows.length:Int)==0)))
  (k0 (T.b false))))))
def F4:Fs:=⟨160,[.agg [AI,AI,.dz tO []]],fun m vs k=>ap 3 (F3 m) vs (lm 1 fun z=>k (bg ⟨[.one (RB)],[[none,none,none]],[none]⟩ z))⟩
def N7:List Fs:=F4::K6
theorem Z6:aM CX au N7/\aY CX au F4:=fF WZ.1 F4 Tryz.f160 ⟨160,1,21,4⟩ [] (fun _ _=>rfl) (fun _ _ _=>by kernel_rfl) trivial trivial (fun _ _ _ _ _=>by kernel_rfl)
def jH:Nat->T->T->T->(T->T->T->An)->An
 | 0,_,_,_,_=>.bad
 | m+1,x0,x1,x2,k0 =>
  jG m (T.l x2.rows)
  (fun y0=>k0 x0 x1 (T.l y0.rows))
def vO:Fs:=⟨163,[.agg [AI,AI,.dz tO []]],fun m vs k=>ap 3 (jH m) vs (lm 3 fun z=>k (bg ⟨[.agg [RI,RI,.own (KR 0 2) tO m3 []]],[[none,none,none]],[none]⟩ z))⟩
def El:List Fs:=vO::N7
theorem Pw:aM CX au El/\aY CX au vO:=fF Z6.1 vO Tryz.f163 ⟨163,1,8,4⟩ [] (fun _ _=>rfl) (fun _ _ _=>by kernel_rfl) trivial trivial (fun _ _ _ _ _=>by kernel_rfl)
def lQ (m:Nat):Nat->T->T->T->T->(T->T->T->T->An)->An
 | 0,_,_,_,_,_=>.bad
 | n+1,x0,x1,x2,x3,k0 =>
  cond ((decide (x3.int<(x0.rows.length:Int)))==true)
  (cond (decide ((0:Int)<=x3.int/\x3.int<(x0.rows.length:Int)))
  (cond ((Op.bytesLess ((x0.rows.getD (Int.toNat x3.int) []).getD 0 dflt).str.toList x1.str.toList)||(((x0.rows.getD (Int.toNat x3.int) []).getD 0 dflt).str.toList==x1.str.toList))
  (lQ m n x0 x1 x2 (T.i (IntKind.i64.wrap (x3.int+1))) k0)
  (k0 x0 x1 x2 x3))
  (.bad))
  (k0 x0 x1 x2 x3)
def lS (m:Nat):Nat->T->T->T->T->T->(T->An)->(T->T->T->An)->An
 | 0,_,_,_,_,_,_,_=>.bad
 | n+1,x0,x1,x2,x3,x4,k0,k1 =>
  cond (decide (x3.int<(x4.rows.length:Int)))
  (cond (decide ((0:Int)<=x3.int/\x3.int<(x4.rows.length:Int)))
  (cond (decide ((Int.toNat x3.int)<x4.rows.length))
  (cond (((x4.rows.getD (Int.toNat x3.int) []).getD 0 dflt).str.toList==x1.str.toList)
  (cond (decide ((0:Int)<=x3.int/\x3.int<(x4.rows.length:Int)))
  (cond (decide ((Int.toNat x3.int)<x4.rows.length))
  (k0 (T.l (x4.rows.set (Int.toNat x3.int) ((x4.rows.getD (Int.toNat x3.int) []).set 1 x2))))
  (.bad))
  (.bad))
  (lS m n x0 x1 x2 (T.i (IntKind.i64.wrap (x3.int+1))) (T.l x4.rows) k0 k1))
  (.bad))
  (.bad))
  (k1 x0 x1 x2)
def BZ:Nat->T->T->T->(T->An)->An
 | 0,_,_,_,_=>.bad
 | m+1,x0,x1,x2,k0 =>
  cond (decide ((0+x0.rows.length) * 2<=aD))
  (lS m m (T.l x0.rows) x1 x2 (T.i 0) (T.l x0.rows)
  (fun y0=>k0 (T.l y0.rows))
  (fun y1 y2 y3=>lQ m m y1 y2 y3 (T.i 0)
  (fun y5 y6 y7 y8=>cond (decide ((0:Int)<=y8.int/\y8.int<=(y5.rows.length:Int)))
  (cond (decide ((0:Int)<=0/\0<=y8.int))
  (cond (decide ((0+(y5.rows.take (Int.toNat y8.int)).length) * 2<=aD))
  (cond (decide (((y5.rows.take (Int.toNat y8.int)).length+1) * 2<=aD))
  (cond (decide ((0:Int)<=(y5.rows.length:Int)/\(y5.rows.length:Int)<=(y5.rows.length:Int)))
  (cond (decide ((0:Int)<=y8.int/\y8.int<=(y5.rows.length:Int)))
  (cond (decide ((((y5.rows.take (Int.toNat y8.int))++[[y6,y7]]).length+((y5.rows.take (Int.toNat (y5.rows.length:Int))).drop (Int.toNat y8.int)).length) * 2<=aD))
  (k0 (T.l (((y5.rows.take (Int.toNat y8.int))++[[y6,y7]])++((y5.rows.take (Int.toNat (y5.rows.length:Int))).drop (Int.toNat y8.int)))))
  (.bad))
  (.bad))
  (.bad))
  (.bad))
  (.bad))
  (.bad))
  (.bad))))
  (.bad)
def Dr:Fs:=⟨179,[.one (.dz tP []),.one (AS),.one (AS)],fun m vs k=>ap 3 (BZ m) vs (lm 1 fun z=>k (bg ⟨[.one (.own (KR 0 0) tP m2 [])],[[none],[none],[none]],[none,none,none]⟩ z))⟩
def W9:List Ls:=[⟨[0,0,1,1,1,1],⟨[(0,.one (LD tP)),(1,.one (LS)),(2,.one (LS)),(9,.one (LI))],[([4000000],.gone)]⟩,fun m n vs k=>ap 4 (lQ m n) vs (lm 4 fun z=>k (.exit 2) (aG ⟨[(0,.one (LD tP)),(1,.one (LS)),(2,.one (LS)),(9,.one (LI))],[([4000000],.gone)]⟩ z))⟩,⟨[0,1,0,1,1],⟨[(0,.one (LD tP)),(1,.one (LS)),(2,.one (LS)),(7,.one (LA (KI 1) tP)),(8,.one (LI))],[([4000000],.gone),((KI 1),.row tP m2 [])]⟩,fun m n vs k=>ap 5 (lS m n) vs (lm 1 fun z=>k .ret (aG ⟨[(6,.one (LA (KI 0) tP))],[((KI 0),.row tP m2 [])]⟩ z)) (lm 3 fun z=>k (.exit 0) (aG ⟨[(0,.one (LD tP)),(1,.one (LS)),(2,.one (LS))],[([4000000],.gone)]⟩ z))⟩]
def K7:List Fs:=Dr::El
theorem Xa:aM CX au K7/\aY CX au Dr:=fF Pw.1 Dr Tryz.f179 ⟨179,3,62,64⟩ W9 (fun _ _=>rfl) (fun _ _ _=>by kernel_rfl) ⟨fun _ _ _=>rfl,fun _ _ _=>rfl,trivial⟩ ⟨fun _ _ _ _ _ _=>by kernel_rfl,fun _ _ _ _ _ _=>by kernel_rfl,trivial⟩ (fun _ _ _ _ _=>by kernel_rfl)
def iX (m:Nat):Nat->T->T->T->T->(T->An)->An
 | 0,_,_,_,_,_=>.bad
 | n+1,x0,x1,x2,x3,k0 =>
  cond (decide (x2.int<(x0.rows.length:Int)))
  (cond (decide ((0:Int)<=x2.int/\x2.int<(x0.rows.length:Int)))
  (cond (!(((x0.rows.getD (Int.toNat x2.int) []).getD 0 dflt).str.toList==x1.str.toList))
  (cond (decide ((0:Int)<=x2.int/\x2.int<(x0.rows.length:Int)))
  (cond (decide ((x3.rows.length+1) * 2<=aD))
  (iX m n x0 x1 (T.i (IntKind.i64.wrap (x2.int+1))) (T.l (x3.rows++[[((x0.rows.getD (Int.toNat x2.int) []).getD 0 dflt),((x0.rows.getD (Int.toNat x2.int) []).getD 1 dflt)]])) k0)
  (.bad))
  (.bad))
  (iX m n x0 x1 (T.i (IntKind.i64.wrap (x2.int+1))) (T.l x3.rows) k0))
  (.bad))
  (k0 (T.l x3.rows))
def Ca:Nat->T->T->(T->An)->An
 | 0,_,_,_=>.bad
 | m+1,x0,x1,k0 =>
  iX m m (T.l x0.rows) x1 (T.i 0) (T.l [])
  (fun y2=>k0 (T.l y2.rows))
def Dt:Fs:=⟨180,[.one (.dz tP []),.one (AS)],fun m vs k=>ap 2 (Ca m) vs (lm 1 fun z=>k (bg ⟨[.one (.own (KR 0 0) tP m2 [])],[[none],[none]],[none,none]⟩ z))⟩
def Xb:List Ls:=[⟨[0,1,0,1,1],⟨[(0,.one (LD tP)),(1,.one (LS)),(5,.one (LA (KI 1) tP)),(6,.one (LI))],[([4000000],.gone),((KI 1),.row tP m2 [])]⟩,fun m n vs k=>ap 4 (iX m n) vs (lm 1 fun z=>k (.exit 0) (aG ⟨[(5,.one (LA (KI 0) tP))],[((KI 0),.row tP m2 [])]⟩ z))⟩]
def K8:List Fs:=Dt::K7
theorem Xc:aM CX au K8/\aY CX au Dt:=fF Xa.1 Dt Tryz.f180 ⟨180,2,29,16⟩ Xb (fun _ _=>rfl) (fun _ _ _=>by kernel_rfl) ⟨fun _ _ _=>rfl,trivial⟩ ⟨fun _ _ _ _ _ _=>by kernel_rfl,trivial⟩ (fun _ _ _ _ _=>by kernel_rfl)
def iD (m:Nat):Nat->T->T->T->(T->An)->An
 | 0,_,_,_,_=>.bad
 | n+1,x0,x1,x2,k0 =>
  cond (decide (x1.int<(x0.rows.length:Int)))
  (cond (decide ((0:Int)<=x1.int/\x1.int<(x0.rows.length:Int)))
  (cond (((x0.rows.getD (Int.toNat x1.int) []).getD 0 dflt).int==1)
  (cond (decide ((0:Int)<=x1.int/\x1.int<(x0.rows.length:Int)))
  (cond (decide ((0:Int)<=x1.int/\x1.int<(x0.rows.length:Int)))
  (BZ m (T.l x2.rows) (((x0.rows.getD (Int.toNat x1.int) []).drop 1).getD 0 dflt) (((x0.rows.getD (Int.toNat x1.int) []).drop 2).getD 0 dflt)
  (fun y0=>iD m n x0 (T.i (IntKind.i64.wrap (x1.int+1))) (T.l y0.rows) k0))
  (.bad))
  (.bad))
  (cond (((x0.rows.getD (Int.toNat x1.int) []).getD 0 dflt).int==2)
  (cond (decide ((0:Int)<=x1.int/\x1.int<(x0.rows.length:Int)))
  (Ca m (T.l x2.rows) (((x0.rows.getD (Int.toNat x1.int) []).drop 1).getD 0 dflt)
  (fun y1=>iD m n x0 (T.i (IntKind.i64.wrap (x1.int+1))) (T.l y1.rows) k0))
  (.bad))
  (iD m n x0 (T.i (IntKind.i64.wrap (x1.int+1))) (T.l x2.rows) k0)))
  (.bad))
  (k0 (T.l x2.rows))
def F5:Nat->T->T->(T->An)->An
 | 0,_,_,_=>.bad
 | m+1,x0,x1,k0 =>
  cond (decide ((0+x0.rows.length) * 2<=aD))
  (iD m m (T.l x1.rows) (T.i 0) (T.l x0.rows)
  (fun y5=>k0 (T.l y5.rows)))
  (.bad)
def F6:Fs:=⟨164,[.one (.dz tP []),.one (.dz tO [])],fun m vs k=>ap 2 (F5 m) vs (lm 1 fun z=>k (bg ⟨[.one (.own (KR 0 0) tP m2 [])],[[none],[none]],[none,none]⟩ z))⟩
def Z7:List Ls:=[⟨[0,1,0,1,1],⟨[(1,.one (LD tO)),(5,.one (LA (KI 1) tP)),(6,.one (LI))],[([4000000],.gone),((KI 1),.row tP m2 [])]⟩,fun m n vs k=>ap 3 (iD m n) vs (lm 1 fun z=>k (.exit 0) (aG ⟨[(5,.one (LA (KI 0) tP))],[((KI 0),.row tP m2 [])]⟩ z))⟩]
def N8:List Fs:=F6::K8
theorem Z8:aM CX au N8/\aY CX au F6:=fF Xc.1 F6 Tryz.f164 ⟨164,2,45,16⟩ Z7 (fun _ _=>rfl) (fun _ _ _=>by kernel_rfl) ⟨fun _ _ _=>rfl,trivial⟩ ⟨fun _ _ _ _ _ _=>by kernel_rfl,trivial⟩ (fun _ _ _ _ _=>by kernel_rfl)
def Ah:Nat->T->T->T->T->T->T->(T->T->T->T->An)->(T->T->T->T->T->An)->An
 | 0,_,_,_,_,_,_,_,_=>.bad
 | m+1,x0,x1,x2,x3,x4,x5,k0,k1 =>
  Ei m (T.l x1.rows) x4
  (fun y0=>F3 m x3 x4 (T.l x5.rows)
  (fun y1=>cond (!y1.bool)
  (k0 (T.b false) (T.l x0.rows) (T.l x1.rows) (T.l x2.rows))
  (cond (x3.int==1)
  (jn (fun (j9:An) =>
  qw m (T.l x2.rows) x4
  (fun y2=>cond (y2.bool==false)
  (rY m (T.l x1.rows) (T.l x5.rows)
  (fun y3=>cond (y3.bool==false)
  (Ag m (T.l x0.rows) (T.l x5.rows)
  (fun y4=>cond (!y4.bool)
  (k0 (T.b false) (T.l x0.rows) (T.l x1.rows) (T.l x2.rows))
  (j9)))
  (k0 (T.b false) (T.l x0.rows) (T.l x1.rows) (T.l x2.rows))))
  (k0 (T.b false) (T.l x0.rows) (T.l x1.rows) (T.l x2.rows))))
  (jH m x3 x4 (T.l x5.rows)
  (fun y6 y7 y8=>cond (decide ((x1.rows.length+1) * 3<=aD))
  (cond (decide ((x2.rows.length+1) * 1<=aD))
  (k0 (T.b true) (T.l x0.rows) (T.l (x1.rows++[[y6,y7,(T.l y8.rows)]])) (T.l (x2.rows++[[x4]])))
  (.bad))
  (.bad))))
  (cond (decide (y0.int<0))
  (cond ((x3.int==3)==true)
  (qw m (T.l x2.rows) x4
  (fun nP=>cond (decide ((x2.rows.length+1) * 1<=aD))
  (k0 (T.b (!nP.bool)) (T.l x0.rows) (T.l x1.rows) (T.l (x2.rows++[[x4]])))
  (.bad)))
  (cond (decide ((x2.rows.length+1) * 1<=aD))
  (k0 (T.b false) (T.l x0.rows) (T.l x1.rows) (T.l (x2.rows++[[x4]])))
  (.bad)))
  (cond (x3.int==2)
  (cond (decide ((0:Int)<=y0.int/\y0.int<(x1.rows.length:Int)))
  (cond (decide ((Int.toNat y0.int)<x1.rows.length))
  (F5 m (T.l x0.rows) (T.l ((x1.rows.getD (Int.toNat y0.int) []).getD 2 dflt).rows)
  (fun oF=>cond (decide ((0:Int)<=y0.int/\y0.int<=(x1.rows.length:Int)))
  (cond (decide ((0:Int)<=0/\0<=y0.int))
  (cond (decide ((0+(x1.rows.take (Int.toNat y0.int)).length) * 3<=aD))
  (cond (decide ((0:Int)<=(x1.rows.length:Int)/\(x1.rows.length:Int)<=(x1.rows.length:Int)))
  (cond (decide ((0:Int)<=(IntKind.i64.wrap (y0.int+1))/\(IntKind.i64.wrap (y0.int+1))<=(x1.rows.length:Int)))
  (cond (decide (((x1.rows.take (Int.toNat y0.int)).length+((x1.rows.take (Int.toNat (x1.rows.length:Int))).drop (Int.toNat (IntKind.i64.wrap (y0.int+1)))).length) * 3<=aD))
  (k1 (T.b (decide ((oF.rows.length:Int)<=60))) (T.l x0.rows) (T.l oF.rows) (T.l ((x1.rows.take (Int.toNat y0.int))++((x1.rows.take (Int.toNat (x1.rows.length:Int))).drop (Int.toNat (IntKind.i64.wrap (y0.int+1)))))) (T.l x2.rows))
  (.bad))
  (.bad))
  (.bad))
  (.bad))
  (.bad))
  (.bad)))
  (.bad))
  (.bad))
  (cond (decide ((0:Int)<=y0.int/\y0.int<=(x1.rows.length:Int)))
  (cond (decide ((0:Int)<=0/\0<=y0.int))
  (cond (decide ((0+(x1.rows.take (Int.toNat y0.int)).length) * 3<=aD))
  (cond (decide ((0:Int)<=(x1.rows.length:Int)/\(x1.rows.length:Int)<=(x1.rows.length:Int)))
  (cond (decide ((0:Int)<=(IntKind.i64.wrap (y0.int+1))/\(IntKind.i64.wrap (y0.int+1))<=(x1.rows.length:Int)))
  (cond (decide (((x1.rows.take (Int.toNat y0.int)).length+((x1.rows.take (Int.toNat (x1.rows.length:Int))).drop (Int.toNat (IntKind.i64.wrap (y0.int+1)))).length) * 3<=aD))
  (k0 (T.b (decide ((x0.rows.length:Int)<=60))) (T.l x0.rows) (T.l ((x1.rows.take (Int.toNat y0.int))++((x1.rows.take (Int.toNat (x1.rows.length:Int))).drop (Int.toNat (IntKind.i64.wrap (y0.int+1)))))) (T.l x2.rows))
  (.bad))
  (.bad))
  (.bad))
  (.bad))
  (.bad))
  (.bad)))))))
def F7:Fs:=⟨127,[.bx [.own tP m2 [],.own tR m3 [],.own tI [.F] []],.agg [AI,AI,.dz tO []]],fun m vs k=>ap 6 (Ah m) vs (lm 4 fun z=>k (bg ⟨[.one (RB)],[[none,none,none],[none,none,none]],[some [.own (KR 1000 0) tP m2 [],.own (KR 1000 1) tR m3 [],.own (KR 1000 2) tI [.F] []],none]⟩ z)) (lm 5 fun z=>k (bg ⟨[.one (RB)],[[some (tP,m2,[]),none,none],[none,none,none]],[some [.own (KR 1000 0) tP m2 [],.own (KR 1000 1) tR m3 [],.own (KR 1000 2) tI [.F] []],none]⟩ z))⟩
def N9:List Fs:=F7::N8
theorem Z9:aM CX au N9/\aY CX au F7:=fF Z8.1 F7 Tryz.f127 ⟨127,2,139,17⟩ [] (fun _ _=>rfl) (fun _ _ _=>by kernel_rfl) trivial trivial (fun _ _ _ _ _=>by kernel_rfl)
def lq:Nat->T->T->T->T->T->T->T->T->(T->T->T->T->T->An)->(T->T->T->T->T->T->An)->An
 | 0,_,_,_,_,_,_,_,_,_,_=>.bad
 | m+1,x0,x1,x2,x3,x4,x5,x6,x7,k0,k1 =>
  Ah m (T.l x3.rows) (T.l x4.rows) (T.l []) x5 x6 (T.l x7.rows)
  (fun y0 y1 y2 y3=>jH m x5 x6 (T.l x7.rows)
  (fun y9 nP ou=>cond (decide ((x1.rows.length+1) * 3<=aD))
  (k0 x0 (T.l (x1.rows++[[y9,nP,(T.l ou.rows)]])) x2 (T.l y1.rows) (T.l y2.rows))
  (.bad)))
  (fun y4 y5 y6 y7 y8=>jH m x5 x6 (T.l x7.rows)
  (fun oF y13 pJ=>cond (decide ((x1.rows.length+1) * 3<=aD))
  (k1 (T.l y5.rows) x0 (T.l (x1.rows++[[oF,y13,(T.l pJ.rows)]])) x2 (T.l y6.rows) (T.l y7.rows))
  (.bad)))
def Ai:Fs:=⟨176,[.bx [AI,.own tR m3 [],AI,.own tP m2 [],.own tR m3 []],.agg [AI,AI,.dz tO []]],fun m vs k=>ap 8 (lq m) vs (lm 5 fun z=>k (bg ⟨[],[[none,none,none,none,none],[none,none,none]],[some [RI,.own (KR 1000 1) tR m3 [],RI,.own (KR 1000 3) tP m2 [],.own (KR 1000 4) tR m3 []],none]⟩ z)) (lm 6 fun z=>k (bg ⟨[],[[none,none,none,some (tP,m2,[]),none],[none,none,none]],[some [RI,.own (KR 1000 1) tR m3 [],RI,.own (KR 1000 3) tP m2 [],.own (KR 1000 4) tR m3 []],none]⟩ z))⟩
def Je:List Fs:=Ai::N9
theorem U0:aM CX au Je/\aY CX au Ai:=fF Z9.1 Ai Tryz.f176 ⟨176,2,43,1⟩ [] (fun _ _=>rfl) (fun _ _ _=>by kernel_rfl) trivial trivial (fun _ _ _ _ _=>by kernel_rfl)
def Cb:Nat->T->T->T->T->T->T->T->(T->T->T->T->T->T->An)->(T->T->T->T->T->T->T->An)->An
 | 0,_,_,_,_,_,_,_,_,_=>.bad
 | m+1,x0,x1,x2,x3,x4,x5,x6,k0,k1 =>
  jn (fun (j26:An) =>
  bM m x5 (T.i 1) (T.i 1000000)
  (fun y0=>cond ((!y0.bool)==false)
  (mq m (T.l x6.rows)
  (fun y1=>cond (!y1.bool)
  (k0 (T.i 5) x0 (T.l x1.rows) x2 (T.l x3.rows) (T.l x4.rows))
  (j26)))
  (k0 (T.i 5) x0 (T.l x1.rows) x2 (T.l x3.rows) (T.l x4.rows))))
  (nW m x0 (T.l x1.rows) x2 (T.l x3.rows) (T.l x4.rows) x5
  (fun y3=>cond (y3.int != 2)
  (k0 y3 x0 (T.l x1.rows) x2 (T.l x3.rows) (T.l x4.rows))
  (jn (fun (j25:An) =>
  rY m (T.l x4.rows) (T.l x6.rows)
  (fun y4=>cond (y4.bool==false)
  (Ag m (T.l x3.rows) (T.l x6.rows)
  (fun y5=>cond ((!y5.bool)==false)
  (BX m x0 (T.l x1.rows) x2 (T.l x3.rows) (T.l x4.rows) (T.l x6.rows)
  (fun y6=>cond ((decide (y6.int > 60))==false)
  (cond (decide ((IntKind.i64.wrap ((IntKind.i64.wrap ((x1.rows.length:Int)+(x4.rows.length:Int)))+2)) > 300))
  (k0 (T.i 2) x0 (T.l x1.rows) x2 (T.l x3.rows) (T.l x4.rows))
  (j25))
  (k0 (T.i 2) x0 (T.l x1.rows) x2 (T.l x3.rows) (T.l x4.rows))))
  (k0 (T.i 2) x0 (T.l x1.rows) x2 (T.l x3.rows) (T.l x4.rows))))
  (k0 (T.i 2) x0 (T.l x1.rows) x2 (T.l x3.rows) (T.l x4.rows))))
  (jG m (T.l x6.rows)
  (fun y8=>lq m x0 (T.l x1.rows) x2 (T.l x3.rows) (T.l x4.rows) (T.i 1) x5 (T.l y8.rows)
  (fun y9 nP ou oF y13=>k0 (T.i 1) y9 (T.l nP.rows) ou (T.l oF.rows) (T.l y13.rows))
  (fun pJ uh xE vL u7 Ku=>k1 (T.i 1) (T.l pJ.rows) uh (T.l xE.rows) vL (T.l u7.rows) (T.l Ku.rows)))))))
def Du:Fs:=⟨174,[.bx [AI,.own tR m3 [],AI,.own tP m2 [],.own tR m3 []],.one (AI),.one (.dz tO [])],fun m vs k=>ap 7 (Cb m) vs (lm 6 fun z=>k (bg ⟨[.one (RI)],[[none,none,none,none,none],[none],[none]],[some [RI,.own (KR 1000 1) tR m3 [],RI,.own (KR 1000 3) tP m2 [],.own (KR 1000 4) tR m3 []],none,none]⟩ z)) (lm 7 fun z=>k (bg ⟨[.one (RI)],[[none,none,none,some (tP,m2,[]),none],[none],[none]],[some [RI,.own (KR 1000 1) tR m3 [],RI,.own (KR 1000 3) tP m2 [],.own (KR 1000 4) tR m3 []],none,none]⟩ z))⟩
def K9:List Fs:=Du::Je
theorem Xd:aM CX au K9/\aY CX au Du:=fF U0.1 Du Tryz.f174 ⟨174,3,68,65⟩ [] (fun _ _=>rfl) (fun _ _ _=>by kernel_rfl) trivial trivial (fun _ _ _ _ _=>by kernel_rfl)
def yT:Nat->T->T->T->T->T->T->T->T->T->T->T->T->T->T->T->(T->T->T->T->T->T->T->T->T->T->An)->An
 | 0,_,_,_,_,_,_,_,_,_,_,_,_,_,_,_,_=>.bad
 | m+1,x0,x1,x2,x3,x4,x5,x6,x7,x8,x9,x10,bH,fT,kX,xk,k0 =>
  jn (fun (j17:T->T->An) =>
  cond (decide ((0:Int)<=bH.int/\bH.int<(x6.rows.length:Int)))
  (cond (decide ((Int.toNat bH.int)<x6.rows.length))
  (Cb m ((x6.rows.getD (Int.toNat bH.int) []).headD dflt) (T.l ((x6.rows.getD (Int.toNat bH.int) []).tail.headD dflt).rows) ((x6.rows.getD (Int.toNat bH.int) []).tail.tail.headD dflt) (T.l ((x6.rows.getD (Int.toNat bH.int) []).tail.tail.tail.headD dflt).rows) (T.l ((x6.rows.getD (Int.toNat bH.int) []).tail.tail.tail.tail.headD dflt).rows) fT (T.l kX.rows)
  (fun y0 y1 y2 y3 y4 y5=>j17 y0 (T.l (x6.rows.set (Int.toNat bH.int) [y1,(T.l y2.rows),y3,(T.l y4.rows),(T.l y5.rows)])))
  (fun y6 y7 y8 y9 nP ou oF=>j17 y6 (T.l (x6.rows.set (Int.toNat bH.int) [y8,(T.l y9.rows),nP,(T.l ou.rows),(T.l oF.rows)]))))
  (.bad))
  (.bad))
  (fun y13 pJ=>jn (fun (j16:T->An) =>
  cond ((y13.int != 5)==true)
  (j16 (T.b (decide ((x8.rows.length:Int)<400))))
  (j16 (T.b false)))
  (fun uh=>cond uh.bool
  (cond ((y13.int==1)==false)
  (cond (decide ((x8.rows.length+1) * 5<=aD))
  (k0 x0 x1 x2 (T.l x3.rows) (T.l x4.rows) x5 (T.l pJ.rows) (T.l x7.rows) (T.l (x8.rows++[[(T.i 2),bH,fT,(T.l []),(T.b (y13.int==3))]])) (T.l x9.rows))
  (.bad))
  (cond (decide ((x8.rows.length+1) * 5<=aD))
  (k0 x0 x1 x2 (T.l x3.rows) (T.l x4.rows) x5 (T.l pJ.rows) (T.l x7.rows) (T.l (x8.rows++[[(T.i 2),bH,fT,(T.l []),(T.b true)]])) (T.l x9.rows))
  (.bad)))
  (k0 x0 x1 x2 (T.l x3.rows) (T.l x4.rows) x5 (T.l pJ.rows) (T.l x7.rows) (T.l x8.rows) (T.l x9.rows))))
def Aj:Fs:=⟨152,[.bx [AI,AI,AI,.own tJ m4 [],.own tC m2 [],AI,.own tS mS [],.own tW m5 [],.own tW m5 [],.own tB m2 []],.agg [AI,AI,AI,.dz tO [],AB]],fun m vs k=>ap 15 (yT m) vs (lm 10 fun z=>k (bg ⟨[],[[none,none,none,none,none,none,none,none,none,none],[none,none,none,none,none]],[some [RI,RI,RI,.own (KR 1000 3) tJ m4 [],.own (KR 1000 4) tC m2 [],RI,.own (KR 1000 6) tS mS [],.own (KR 1000 7) tW m5 [],.own (KR 1000 8) tW m5 [],.own (KR 1000 9) tB m2 []],none]⟩ z))⟩
def Jf:List Fs:=Aj::K9
theorem U1:aM CX au Jf/\aY CX au Aj:=fF Xd.1 Aj Tryz.f152 ⟨152,2,47,1⟩ [] (fun _ _=>rfl) (fun _ _ _=>by kernel_rfl) trivial trivial (fun _ _ _ _ _=>by kernel_rfl)
def wG:Nat->T->T->T->T->T->T->T->(T->T->T->T->T->T->An)->(T->T->T->T->T->T->T->An)->An
 | 0,_,_,_,_,_,_,_,_,_=>.bad
 | m+1,x0,x1,x2,x3,x4,x5,x6,k0,k1 =>
  bM m x5 (T.i 1) (T.i 1000000)
  (fun y0=>cond (!y0.bool)
  (k0 (T.b false) x0 (T.l x1.rows) x2 (T.l x3.rows) (T.l x4.rows))
  (jn (fun (j37:T->An) =>
  cond x6.bool
  (j37 (T.i 2))
  (j37 (T.i 3)))
  (fun y1=>nW m x0 (T.l x1.rows) x2 (T.l x3.rows) (T.l x4.rows) x5
  (fun y2=>cond (y2.int==1)
  (lq m x0 (T.l x1.rows) x2 (T.l x3.rows) (T.l x4.rows) y1 x5 (T.l [])
  (fun y3 y4 y5 y6 y7=>k0 (T.b true) y3 (T.l y4.rows) y5 (T.l y6.rows) (T.l y7.rows))
  (fun y8 y9 nP ou oF y13=>k1 (T.b true) (T.l y8.rows) y9 (T.l nP.rows) ou (T.l oF.rows) (T.l y13.rows)))
  (cond (y2.int==3)
  (k0 x6 x0 (T.l x1.rows) x2 (T.l x3.rows) (T.l x4.rows))
  (cond (y2.int==4)
  (k0 (T.b (!x6.bool)) x0 (T.l x1.rows) x2 (T.l x3.rows) (T.l x4.rows))
  (jn (fun (j36:An) =>
  cond (x6.bool==false)
  (cond (decide ((IntKind.i64.wrap ((x1.rows.length:Int)+(x4.rows.length:Int)))>=300))
  (k0 (T.b false) x0 (T.l x1.rows) x2 (T.l x3.rows) (T.l x4.rows))
  (j36))
  (k0 (T.b false) x0 (T.l x1.rows) x2 (T.l x3.rows) (T.l x4.rows)))
  (lq m x0 (T.l x1.rows) x2 (T.l x3.rows) (T.l x4.rows) y1 x5 (T.l [])
  (fun y20 y21 y22 y23 y24=>k0 (T.b true) y20 (T.l y21.rows) y22 (T.l y23.rows) (T.l y24.rows))
  (fun y25 Ra y27 y28 y29 UR=>k1 (T.b true) (T.l y25.rows) Ra (T.l y27.rows) y28 (T.l y29.rows) (T.l UR.rows))))))))))
def xZ:Fs:=⟨153,[.bx [AI,.own tR m3 [],AI,.own tP m2 [],.own tR m3 []],.one (AI),.one (AB)],fun m vs k=>ap 7 (wG m) vs (lm 6 fun z=>k (bg ⟨[.one (RB)],[[none,none,none,none,none],[none],[none]],[some [RI,.own (KR 1000 1) tR m3 [],RI,.own (KR 1000 3) tP m2 [],.own (KR 1000 4) tR m3 []],none,none]⟩ z)) (lm 7 fun z=>k (bg ⟨[.one (RB)],[[none,none,none,some (tP,m2,[]),none],[none],[none]],[some [RI,.own (KR 1000 1) tR m3 [],RI,.own (KR 1000 3) tP m2 [],.own (KR 1000 4) tR m3 []],none,none]⟩ z))⟩
def Hg:List Fs:=xZ::Jf
theorem Rp:aM CX au Hg/\aY CX au xZ:=fF U1.1 xZ Tryz.f153 ⟨153,3,50,65⟩ [] (fun _ _=>rfl) (fun _ _ _=>by kernel_rfl) trivial trivial (fun _ _ _ _ _=>by kernel_rfl)
def iY (m:Nat):Nat->T->T->T->T->T->T->T->T->T->(T->An)->An->An
 | 0,_,_,_,_,_,_,_,_,_,_,_=>.bad
 | n+1,x0,x1,x2,x3,x4,x5,x6,x7,x8,k0,k1 =>
  cond (decide (x2.int<(x6.rows.length:Int)))
  (cond (decide ((0:Int)<=x2.int/\x2.int<(x6.rows.length:Int)))
  (cond (((x6.rows.getD (Int.toNat x2.int) []).getD 0 dflt).int==x0.int)
  (k0 x2)
  (iY m n x0 (T.i (x1.int.toNat:Int)) (T.i (IntKind.i64.wrap (x2.int+1))) x3 x4 x5 x6 x7 x8 k0 k1))
  (.bad))
  (k1 )
def wH:Nat->T->T->T->T->T->T->T->(T->An)->An
 | 0,_,_,_,_,_,_,_,_=>.bad
 | m+1,x0,x1,x2,x3,x4,x5,x6,k0 =>
  iY m m x6 (T.i 0) (T.i 0) x0 x1 x2 (T.l x3.rows) (T.l x4.rows) x5
  (fun y0=>k0 y0)
  (k0 (T.i (-1)))
def yc:Fs:=⟨177,[.agg [AI,AI,AI,.dz tJ [],.dz tC [],AI],.one (AI)],fun m vs k=>ap 7 (wH m) vs (lm 1 fun z=>k (bg ⟨[.one (RI)],[[none,none,none,none,none,none],[none]],[none,none]⟩ z))⟩
def Rq:List Ls:=[⟨[0,1,0,1],⟨[(1,.one (LI)),(2,EP 0),(5,.one (LI))],[((KI 0),.box [LI,LI,LI,LD tJ,LD tC,LI]),([4000000],.gone)]⟩,fun m n vs k=>ap 9 (iY m n) vs (lm 1 fun z=>k .ret (aG ⟨[(4,.one (LI))],[]⟩ z)) (lm 0 fun z=>k (.exit 0) (aG ⟨[],[]⟩ z))⟩]
def Hl:List Fs:=yc::Hg
theorem Rs:aM CX au Hl/\aY CX au yc:=fF Rp.1 yc Tryz.f177 ⟨177,2,22,16⟩ Rq (fun _ _=>rfl) (fun _ _ _=>by kernel_rfl) ⟨fun _ _ _=>rfl,trivial⟩ ⟨fun _ _ _ _ _ _=>by kernel_rfl,trivial⟩ (fun _ _ _ _ _=>by kernel_rfl)
def yU:Nat->T->T->T->T->T->T->T->T->T->(T->T->T->T->T->T->An)->An
 | 0,_,_,_,_,_,_,_,_,_,_=>.bad
 | m+1,x0,x1,x2,x3,x4,x5,x6,x7,x8,k0 =>
  wH m x0 x1 x2 (T.l x3.rows) (T.l x4.rows) x5 x7
  (fun y0=>jn (fun (j5:An) =>
  cond ((decide (y0.int<0))==false)
  (cond (decide ((0:Int)<=y0.int/\y0.int<(x3.rows.length:Int)))
  (cond (decide ((Int.toNat y0.int)<x3.rows.length))
  (cond ((((x3.rows.getD (Int.toNat y0.int) []).getD 2 dflt).int != 1)==false)
  (cond (decide ((x4.rows.length:Int)>=1000))
  (k0 x0 x1 x2 (T.l x3.rows) (T.l x4.rows) x5)
  (j5))
  (k0 x0 x1 x2 (T.l x3.rows) (T.l x4.rows) x5))
  (.bad))
  (.bad))
  (k0 x0 x1 x2 (T.l x3.rows) (T.l x4.rows) x5))
  (cond (decide ((0:Int)<=y0.int/\y0.int<(x3.rows.length:Int)))
  (cond (decide ((Int.toNat y0.int)<x3.rows.length))
  (gK m (T.l ((x3.rows.getD (Int.toNat y0.int) []).getD 1 dflt).rows) x0
  (fun y2=>qw m (T.l y2.rows) x6
  (fun y3=>cond (!y3.bool)
  (k0 x0 x1 x2 (T.l x3.rows) (T.l x4.rows) x5)
  (cond (!x8.bool)
  (cond (decide ((Int.toNat y0.int)<x3.rows.length))
  (cond (decide ((x4.rows.length+1) * 2<=aD))
  (k0 x0 x1 x2 (T.l (x3.rows.set (Int.toNat y0.int) ((x3.rows.getD (Int.toNat y0.int) []).set 2 (T.i 3)))) (T.l (x4.rows++[[x7,(T.b false)]])) x5)
  (.bad))
  (.bad))
  (cond (decide ((Int.toNat y0.int)<x3.rows.length))
  (sS m (T.l ((x3.rows.getD (Int.toNat y0.int) []).getD 3 dflt).rows) x6
  (fun y4=>cond (decide ((Int.toNat y0.int)<x3.rows.length))
  (cond (decide ((Int.toNat y0.int)<(x3.rows.set (Int.toNat y0.int) ((x3.rows.getD (Int.toNat y0.int) []).set 3 (T.l y4.rows))).length))
  (cond (((((x3.rows.set (Int.toNat y0.int) ((x3.rows.getD (Int.toNat y0.int) []).set 3 (T.l y4.rows))).getD (Int.toNat y0.int) []).getD 3 dflt).rows.length:Int)==(y2.rows.length:Int))
  (cond (decide ((Int.toNat y0.int)<(x3.rows.set (Int.toNat y0.int) ((x3.rows.getD (Int.toNat y0.int) []).set 3 (T.l y4.rows))).length))
  (cond (decide ((x4.rows.length+1) * 2<=aD))
  (k0 x0 x1 x2 (T.l ((x3.rows.set (Int.toNat y0.int) ((x3.rows.getD (Int.toNat y0.int) []).set 3 (T.l y4.rows))).set (Int.toNat y0.int) (((x3.rows.set (Int.toNat y0.int) ((x3.rows.getD (Int.toNat y0.int) []).set 3 (T.l y4.rows))).getD (Int.toNat y0.int) []).set 2 (T.i 2)))) (T.l (x4.rows++[[x7,(T.b true)]])) x5)
  (.bad))
  (.bad))
  (k0 x0 x1 x2 (T.l (x3.rows.set (Int.toNat y0.int) ((x3.rows.getD (Int.toNat y0.int) []).set 3 (T.l y4.rows)))) (T.l x4.rows) x5))
  (.bad))
  (.bad)))
  (.bad))))))
  (.bad))
  (.bad)))
def Ak:Fs:=⟨154,[.bx [AI,AI,AI,.own tJ m4 [],.own tC m2 [],AI],.one (AI),.one (AI),.one (AB)],fun m vs k=>ap 9 (yU m) vs (lm 6 fun z=>k (bg ⟨[],[[none,none,none,none,none,none],[none],[none],[none]],[some [RI,RI,RI,.own (KR 1000 3) tJ m4 [],.own (KR 1000 4) tC m2 [],RI],none,none,none]⟩ z))⟩
def Jg:List Fs:=Ak::Hl
theorem U2:aM CX au Jg/\aY CX au Ak:=fF Rs.1 Ak Tryz.f154 ⟨154,4,103,1⟩ [] (fun _ _=>rfl) (fun _ _ _=>by kernel_rfl) trivial trivial (fun _ _ _ _ _=>by kernel_rfl)
def gW (m:Nat):Nat->T->T->T->T->T->T->T->T->T->(T->An)->An->An
 | 0,_,_,_,_,_,_,_,_,_,_,_=>.bad
 | n+1,x0,x1,x2,x3,x4,x5,x6,x7,x8,k0,k1 =>
  cond (decide (x2.int<(x7.rows.length:Int)))
  (cond (decide ((0:Int)<=x2.int/\x2.int<(x7.rows.length:Int)))
  (cond (((x7.rows.getD (Int.toNat x2.int) []).getD 0 dflt).int==x0.int)
  (k0 x2)
  (gW m n x0 (T.i (x1.int.toNat:Int)) (T.i (IntKind.i64.wrap (x2.int+1))) x3 x4 x5 x6 x7 x8 k0 k1))
  (.bad))
  (k1 )
def jI:Nat->T->T->T->T->T->T->T->(T->An)->An
 | 0,_,_,_,_,_,_,_,_=>.bad
 | m+1,x0,x1,x2,x3,x4,x5,x6,k0 =>
  gW m m x6 (T.i 0) (T.i 0) x0 x1 x2 (T.l x3.rows) (T.l x4.rows) x5
  (fun y0=>k0 y0)
  (k0 (T.i (-1)))
def vP:Fs:=⟨95,[.agg [AI,AI,AI,.dz tJ [],.dz tC [],AI],.one (AI)],fun m vs k=>ap 7 (jI m) vs (lm 1 fun z=>k (bg ⟨[.one (RI)],[[none,none,none,none,none,none],[none]],[none,none]⟩ z))⟩
def Px:List Ls:=[⟨[0,1,0,1],⟨[(1,.one (LI)),(2,EP 0),(5,.one (LI))],[((KI 0),.box [LI,LI,LI,LD tJ,LD tC,LI]),([4000000],.gone)]⟩,fun m n vs k=>ap 9 (gW m n) vs (lm 1 fun z=>k .ret (aG ⟨[(4,.one (LI))],[]⟩ z)) (lm 0 fun z=>k (.exit 0) (aG ⟨[],[]⟩ z))⟩]
def Em:List Fs:=vP::Jg
theorem Py:aM CX au Em/\aY CX au vP:=fF U2.1 vP Tryz.f95 ⟨95,2,22,16⟩ Px (fun _ _=>rfl) (fun _ _ _=>by kernel_rfl) ⟨fun _ _ _=>rfl,trivial⟩ ⟨fun _ _ _ _ _ _=>by kernel_rfl,trivial⟩ (fun _ _ _ _ _=>by kernel_rfl)
def qx:Nat->T->T->T->T->T->T->T->(T->T->An)->An
 | 0,_,_,_,_,_,_,_,_=>.bad
 | m+1,x0,x1,x2,x3,x4,x5,x6,k0 =>
  jI m x0 x1 x2 (T.l x3.rows) (T.l x4.rows) x5 x6
  (fun y0=>cond (decide (x6.int<1000))
  (k0 (T.b false) (T.b false))
  (cond (decide (y0.int>=0))
  (cond (decide ((0:Int)<=y0.int/\y0.int<(x4.rows.length:Int)))
  (cond ((((x4.rows.getD (Int.toNat y0.int) []).drop 1).getD 0 dflt).bool==true)
  (k0 (T.b (decide (y0.int<x5.int))) (T.b (decide (y0.int<x5.int))))
  (k0 (T.b false) (T.b (decide (y0.int<x5.int)))))
  (.bad))
  (k0 (T.b false) (T.b (decide (x6.int<(IntKind.i64.wrap (x1.int * 1000))))))))
def vQ:Fs:=⟨155,[.agg [AI,AI,AI,.dz tJ [],.dz tC [],AI],.one (AI)],fun m vs k=>ap 7 (qx m) vs (lm 2 fun z=>k (bg ⟨[.one (RB),.one (RB)],[[none,none,none,none,none,none],[none]],[none,none]⟩ z))⟩
def En:List Fs:=vQ::Em
theorem Pz:aM CX au En/\aY CX au vQ:=fF Py.1 vQ Tryz.f155 ⟨155,2,37,48⟩ [] (fun _ _=>rfl) (fun _ _ _=>by kernel_rfl) trivial trivial (fun _ _ _ _ _=>by kernel_rfl)
def yV:Nat->T->T->T->T->T->T->T->T->T->T->T->T->T->T->T->(T->T->T->T->T->T->T->T->T->T->An)->An
 | 0,_,_,_,_,_,_,_,_,_,_,_,_,_,_,_,_=>.bad
 | m+1,x0,x1,x2,x3,x4,x5,x6,x7,x8,x9,x10,bH,fT,kX,xk,k0 =>
  cond (x10.int==1)
  (yT m x0 x1 x2 (T.l x3.rows) (T.l x4.rows) x5 (T.l x6.rows) (T.l x7.rows) (T.l x8.rows) (T.l x9.rows) x10 bH fT (T.l kX.rows) xk
  (fun y0 y1 y2 y3 y4 y5 y6 y7 y8 y9=>k0 y0 y1 y2 (T.l y3.rows) (T.l y4.rows) y5 (T.l y6.rows) (T.l y7.rows) (T.l y8.rows) (T.l y9.rows)))
  (cond (x10.int==3)
  (cond (decide ((0:Int)<=bH.int/\bH.int<(x6.rows.length:Int)))
  (cond (decide ((Int.toNat bH.int)<x6.rows.length))
  (wG m ((x6.rows.getD (Int.toNat bH.int) []).headD dflt) (T.l ((x6.rows.getD (Int.toNat bH.int) []).tail.headD dflt).rows) ((x6.rows.getD (Int.toNat bH.int) []).tail.tail.headD dflt) (T.l ((x6.rows.getD (Int.toNat bH.int) []).tail.tail.tail.headD dflt).rows) (T.l ((x6.rows.getD (Int.toNat bH.int) []).tail.tail.tail.tail.headD dflt).rows) fT xk
  (fun nP ou oF y13 pJ uh=>k0 x0 x1 x2 (T.l x3.rows) (T.l x4.rows) x5 (T.l (x6.rows.set (Int.toNat bH.int) [ou,(T.l oF.rows),y13,(T.l pJ.rows),(T.l uh.rows)])) (T.l x7.rows) (T.l x8.rows) (T.l x9.rows))
  (fun xE vL u7 Ku y20 y21 y22=>k0 x0 x1 x2 (T.l x3.rows) (T.l x4.rows) x5 (T.l (x6.rows.set (Int.toNat bH.int) [u7,(T.l Ku.rows),y20,(T.l y21.rows),(T.l y22.rows)])) (T.l x7.rows) (T.l x8.rows) (T.l x9.rows)))
  (.bad))
  (.bad))
  (cond (x10.int==2)
  (yU m x0 x1 x2 (T.l x3.rows) (T.l x4.rows) x5 bH fT xk
  (fun y23 y24 y25 Ra y27 y28=>k0 y23 y24 y25 (T.l Ra.rows) (T.l y27.rows) y28 (T.l x6.rows) (T.l x7.rows) (T.l x8.rows) (T.l x9.rows)))
  (cond (x10.int==4)
  (qx m x0 x1 x2 (T.l x3.rows) (T.l x4.rows) x5 fT
  (fun y29 UR=>cond UR.bool
  (jB m x0 x1 x2 (T.l x3.rows) (T.l x4.rows) x5 (T.l x6.rows) (T.l x7.rows) (T.l x8.rows) (T.l x9.rows) (T.l [[(T.i 3),bH,fT,(T.l []),y29]])
  (fun y31 y32 y33 y34 y35 y36 y37 y38 y39 y40=>k0 y36 y37 y38 (T.l y31.rows) (T.l y32.rows) y39 (T.l y33.rows) (T.l y40.rows) (T.l y34.rows) (T.l y35.rows)))
  (k0 x0 x1 x2 (T.l x3.rows) (T.l x4.rows) x5 (T.l x6.rows) (T.l x7.rows) (T.l x8.rows) (T.l x9.rows))))
  (k0 x0 x1 x2 (T.l x3.rows) (T.l x4.rows) x5 (T.l x6.rows) (T.l x7.rows) (T.l x8.rows) (T.l x9.rows)))))
def Al:Fs:=⟨118,[.bx [AI,AI,AI,.own tJ m4 [],.own tC m2 [],AI,.own tS mS [],.own tW m5 [],.own tW m5 [],.own tB m2 []],.agg [AI,AI,AI,.dz tO [],AB]],fun m vs k=>ap 15 (yV m) vs (lm 10 fun z=>k (bg ⟨[],[[none,none,none,none,none,none,none,none,none,none],[none,none,none,none,none]],[some [RI,RI,RI,.own (KR 1000 3) tJ m4 [],.own (KR 1000 4) tC m2 [],RI,.own (KR 1000 6) tS mS [],.own (KR 1000 7) tW m5 [],.own (KR 1000 8) tW m5 [],.own (KR 1000 9) tB m2 []],none]⟩ z))⟩
def Jh:List Fs:=Al::En
theorem U3:aM CX au Jh/\aY CX au Al:=fF Pz.1 Al Tryz.f118 ⟨118,2,61,1⟩ [] (fun _ _=>rfl) (fun _ _ _=>by kernel_rfl) trivial trivial (fun _ _ _ _ _=>by kernel_rfl)
def Cc:Nat->T->T->T->T->T->T->T->T->T->T->T->T->T->T->(T->T->T->T->T->T->T->T->T->T->T->An)->An
 | 0,_,_,_,_,_,_,_,_,_,_,_,_,_,_,_=>.bad
 | m+1,x0,x1,x2,x3,x4,x5,x6,x7,x8,x9,x10,bH,fT,kX,k0 =>
  bM m bH (T.i 0) (T.i (IntKind.i64.wrap ((x7.rows.length:Int)-1)))
  (fun y0=>cond (!y0.bool)
  (k0 (T.b false) x0 x1 x2 (T.l x3.rows) (T.l x4.rows) x5 (T.l x6.rows) (T.l x7.rows) (T.l x8.rows) (T.l x9.rows))
  (cond (decide ((0:Int)<=bH.int/\bH.int<(x7.rows.length:Int)))
  (cond (decide ((Int.toNat bH.int)<x7.rows.length))
  (cond (x10.int==4)
  (jB m x0 x1 x2 (T.l x3.rows) (T.l x4.rows) x5 (T.l x6.rows) (T.l x7.rows) (T.l x8.rows) (T.l x9.rows) (T.l [[((x7.rows.getD (Int.toNat bH.int) []).getD 0 dflt),((x7.rows.getD (Int.toNat bH.int) []).getD 1 dflt),((x7.rows.getD (Int.toNat bH.int) []).getD 2 dflt),((x7.rows.getD (Int.toNat bH.int) []).getD 3 dflt),((x7.rows.getD (Int.toNat bH.int) []).getD 4 dflt)]])
  (fun y1 y2 y3 y4 y5 y6 y7 y8 y9 nP=>k0 (T.b true) y6 y7 y8 (T.l y1.rows) (T.l y2.rows) y9 (T.l y3.rows) (T.l nP.rows) (T.l y4.rows) (T.l y5.rows)))
  (cond (decide ((0:Int)<=bH.int/\bH.int<=(x7.rows.length:Int)))
  (cond (decide ((0:Int)<=0/\0<=bH.int))
  (cond (decide ((0+(x7.rows.take (Int.toNat bH.int)).length) * 5<=aD))
  (cond (decide ((0:Int)<=(x7.rows.length:Int)/\(x7.rows.length:Int)<=(x7.rows.length:Int)))
  (cond (decide ((0:Int)<=(IntKind.i64.wrap (bH.int+1))/\(IntKind.i64.wrap (bH.int+1))<=(x7.rows.length:Int)))
  (cond (decide (((x7.rows.take (Int.toNat bH.int)).length+((x7.rows.take (Int.toNat (x7.rows.length:Int))).drop (Int.toNat (IntKind.i64.wrap (bH.int+1)))).length) * 5<=aD))
  (cond (x10.int==2)
  (yV m x0 x1 x2 (T.l x3.rows) (T.l x4.rows) x5 (T.l x6.rows) (T.l ((x7.rows.take (Int.toNat bH.int))++((x7.rows.take (Int.toNat (x7.rows.length:Int))).drop (Int.toNat (IntKind.i64.wrap (bH.int+1)))))) (T.l x8.rows) (T.l x9.rows) ((x7.rows.getD (Int.toNat bH.int) []).getD 0 dflt) ((x7.rows.getD (Int.toNat bH.int) []).getD 1 dflt) ((x7.rows.getD (Int.toNat bH.int) []).getD 2 dflt) (T.l ((x7.rows.getD (Int.toNat bH.int) []).getD 3 dflt).rows) ((x7.rows.getD (Int.toNat bH.int) []).getD 4 dflt)
  (fun ou oF y13 pJ uh xE vL u7 Ku y20=>k0 (T.b true) ou oF y13 (T.l pJ.rows) (T.l uh.rows) xE (T.l vL.rows) (T.l u7.rows) (T.l Ku.rows) (T.l y20.rows)))
  (k0 (T.b true) x0 x1 x2 (T.l x3.rows) (T.l x4.rows) x5 (T.l x6.rows) (T.l ((x7.rows.take (Int.toNat bH.int))++((x7.rows.take (Int.toNat (x7.rows.length:Int))).drop (Int.toNat (IntKind.i64.wrap (bH.int+1)))))) (T.l x8.rows) (T.l x9.rows)))
  (.bad))
  (.bad))
  (.bad))
  (.bad))
  (.bad))
  (.bad)))
  (.bad))
  (.bad)))
def Dv:Fs:=⟨88,[.bx [AI,AI,AI,.own tJ m4 [],.own tC m2 [],AI,.own tS mS [],.own tW m5 [],.own tW m5 [],.own tB m2 []],.agg [AI,AI,AI,.dz tO []]],fun m vs k=>ap 14 (Cc m) vs (lm 11 fun z=>k (bg ⟨[.one (RB)],[[none,none,none,none,none,none,none,none,none,none],[none,none,none,none]],[some [RI,RI,RI,.own (KR 1000 3) tJ m4 [],.own (KR 1000 4) tC m2 [],RI,.own (KR 1000 6) tS mS [],.own (KR 1000 7) tW m5 [],.own (KR 1000 8) tW m5 [],.own (KR 1000 9) tB m2 []],none]⟩ z))⟩
def La:List Fs:=Dv::Jh
theorem Xe:aM CX au La/\aY CX au Dv:=fF U3.1 Dv Tryz.f88 ⟨88,2,58,17⟩ [] (fun _ _=>rfl) (fun _ _ _=>by kernel_rfl) trivial trivial (fun _ _ _ _ _=>by kernel_rfl)
def jV (m:Nat):Nat->T->T->T->T->T->T->T->T->T->T->T->T->T->T->T->T->T->T->T->(T->T->T->T->T->T->T->T->T->T->T->T->An)->An
 | 0,_,_,_,_,_,_,_,_,_,_,_,_,_,_,_,_,_,_,_,_=>.bad
 | n+1,x0,x1,x2,x3,x4,x5,x6,x7,x8,x9,x10,bH,fT,kX,xk,KU,Po,Q9,x18,k0 =>
  cond (decide (x6.int<(bH.rows.length:Int)))
  (jn (fun (j4:T->T->An) =>
  cond (decide ((0:Int)<=x6.int/\x6.int<(bH.rows.length:Int)))
  (cond (decide ((Int.toNat x6.int)<bH.rows.length))
  (cond (((bH.rows.getD (Int.toNat x6.int) []).getD 1 dflt).int==x4.int)
  (cond (decide ((0:Int)<=x6.int/\x6.int<(bH.rows.length:Int)))
  (cond (decide ((Int.toNat x6.int)<bH.rows.length))
  (cond (decide ((Q9.rows.length+1) * 5<=aD))
  (j4 (T.l (Q9.rows++[[((bH.rows.getD (Int.toNat x6.int) []).getD 0 dflt),((bH.rows.getD (Int.toNat x6.int) []).getD 1 dflt),((bH.rows.getD (Int.toNat x6.int) []).getD 2 dflt),((bH.rows.getD (Int.toNat x6.int) []).getD 3 dflt),((bH.rows.getD (Int.toNat x6.int) []).getD 4 dflt)]])) (T.l x18.rows))
  (.bad))
  (.bad))
  (.bad))
  (cond (decide ((0:Int)<=x6.int/\x6.int<(bH.rows.length:Int)))
  (cond (decide ((Int.toNat x6.int)<bH.rows.length))
  (cond (decide ((x18.rows.length+1) * 5<=aD))
  (j4 (T.l Q9.rows) (T.l (x18.rows++[[((bH.rows.getD (Int.toNat x6.int) []).getD 0 dflt),((bH.rows.getD (Int.toNat x6.int) []).getD 1 dflt),((bH.rows.getD (Int.toNat x6.int) []).getD 2 dflt),((bH.rows.getD (Int.toNat x6.int) []).getD 3 dflt),((bH.rows.getD (Int.toNat x6.int) []).getD 4 dflt)]])))
  (.bad))
  (.bad))
  (.bad)))
  (.bad))
  (.bad))
  (fun y2 y3=>jV m n x0 x1 x2 x3 x4 (T.i (x5.int.toNat:Int)) (T.i (IntKind.i64.wrap (x6.int+1))) (T.l x7.rows) (T.l x8.rows) (T.l x9.rows) (T.l x10.rows) (T.l bH.rows) (T.l fT.rows) kX xk KU Po (T.l y2.rows) (T.l y3.rows) k0))
  (k0 x0 x1 x2 x3 (T.l x7.rows) (T.l x8.rows) (T.l x9.rows) (T.l x10.rows) (T.l bH.rows) (T.l fT.rows) (T.l Q9.rows) (T.l x18.rows))
def yX:Nat->T->T->T->T->T->T->T->T->T->T->T->(T->T->T->T->T->T->T->T->An)->An
 | 0,_,_,_,_,_,_,_,_,_,_,_,_=>.bad
 | m+1,x0,x1,x2,x3,x4,x5,x6,x7,x8,x9,x10,k0 =>
  jV m m x0 x1 x2 x5 x10 (T.i 0) (T.i 0) (T.l x3.rows) (T.l x4.rows) (T.l x6.rows) (T.l x7.rows) (T.l x8.rows) (T.l x9.rows) x0 x1 x2 x5 (T.l []) (T.l [])
  (fun y5 y6 y7 y8 y9 nP ou oF y13 pJ uh xE=>k0 (T.l uh.rows) (T.l xE.rows) (T.l y9.rows) (T.l nP.rows) (T.l ou.rows) (T.l oF.rows) (T.l y13.rows) (T.l pJ.rows))
def Am:Fs:=⟨119,[.agg [AI,AI,AI,.own tJ m4 [],.own tC m2 [],AI,.own tS mS [],.own tW m5 [],.own tW m5 [],.own tB m2 []],.one (AI)],fun m vs k=>ap 11 (yX m) vs (lm 8 fun z=>k (bg ⟨[.one (.own (KR 0 0) tW m5 []),.one (.own (KR 1 0) tW m5 [])],[[none,none,none,some (tJ,m4,[]),some (tC,m2,[]),none,some (tS,mS,[]),some (tW,m5,[]),some (tW,m5,[]),some (tB,m2,[])],[none]],[none,none]⟩ z))⟩
def U4:List Ls:=[⟨[0,1,0,1,1,1],⟨[(0,.agg [LI,LI,LI,LA [0,3] tJ,LA [0,4] tC,LI,LA [0,6] tS,LA [0,7] tW,LA [0,8] tW,LA [0,9] tB]),(1,.one (LI)),(2,EP 6),(6,.one (LA (KI 7) tW)),(7,.one (LA (KI 8) tW)),(8,.one (LI))],[([0,3],.row tJ m4 []),([0,4],.row tC m2 []),([0,6],.row tS mS []),([0,7],.row tW m5 []),([0,8],.row tW m5 []),([0,9],.row tB m2 []),((KI 6),.box [LI,LI,LI,LA [0,3] tJ,LA [0,4] tC,LI,LA [0,6] tS,LA [0,7] tW,LA [0,8] tW,LA [0,9] tB]),((KI 7),.row tW m5 []),((KI 8),.row tW m5 [])]⟩,fun m n vs k=>ap 19 (jV m n) vs (lm 12 fun z=>k (.exit 0) (aG ⟨[(0,.agg [LI,LI,LI,LA [0,3] tJ,LA [0,4] tC,LI,LA [0,6] tS,LA [0,7] tW,LA [0,8] tW,LA [0,9] tB]),(6,.one (LA (KI 6) tW)),(7,.one (LA (KI 7) tW))],[([0,3],.row tJ m4 []),([0,4],.row tC m2 []),([0,6],.row tS mS []),([0,7],.row tW m5 []),([0,8],.row tW m5 []),([0,9],.row tB m2 []),((KI 6),.row tW m5 []),((KI 7),.row tW m5 [])]⟩ z))⟩]
def Ji:List Fs:=Am::La
theorem U5:aM CX au Ji/\aY CX au Am:=fF Xe.1 Am Tryz.f119 ⟨119,2,44,49⟩ U4 (fun _ _=>rfl) (fun _ _ _=>by kernel_rfl) ⟨fun _ _ _=>rfl,trivial⟩ ⟨fun _ _ _ _ _ _=>by kernel_rfl,trivial⟩ (fun _ _ _ _ _=>by kernel_rfl)
def eO (m:Nat):Nat->T->T->T->T->T->T->(T->T->T->An)->(T->T->T->T->An)->An
 | 0,_,_,_,_,_,_,_,_=>.bad
 | n+1,x0,x1,x2,x3,x4,x5,k0,k1 =>
  cond (decide (x2.int<(x0.rows.length:Int)))
  ((fun (j19:T->T->T->An) =>
  cond (decide ((0:Int)<=x2.int/\x2.int<(x0.rows.length:Int)))
  (Ah m (T.l x3.rows) (T.l x4.rows) (T.l x5.rows) ((x0.rows.getD (Int.toNat x2.int) []).getD 0 dflt) ((x0.rows.getD (Int.toNat x2.int) []).getD 1 dflt) (T.l ((x0.rows.getD (Int.toNat x2.int) []).getD 2 dflt).rows)
  (fun y0 y1 y2 y3=>cond (!y0.bool)
  (k0 (T.b false) (T.l []) (T.l []))
  (j19 (T.l y1.rows) (T.l y2.rows) (T.l y3.rows)))
  (fun y4 y5 y6 y7 y8=>cond (!y4.bool)
  (k0 (T.b false) (T.l []) (T.l []))
  (j19 (T.l y6.rows) (T.l y7.rows) (T.l y8.rows))))
  (.bad))
  (fun xE vL u7=>eO m n x0 (T.i (x1.int.toNat:Int)) (T.i (IntKind.i64.wrap (x2.int+1))) (T.l xE.rows) (T.l vL.rows) (T.l u7.rows) k0 k1))
  (k1 (T.i (x1.int.toNat:Int)) (T.l x3.rows) (T.l x4.rows) (T.l x5.rows))
def kN:Nat->T->(T->T->T->An)->An
 | 0,_,_=>.bad
 | m+1,x0,k0 =>
  eO m m (T.l x0.rows) (T.i 0) (T.i 0) (T.l []) (T.l []) (T.l [])
  (fun y20 y21 y22=>k0 (T.l y21.rows) (T.l y22.rows) y20)
  (fun y23 y24 y25 Ra=>k0 (T.l y24.rows) (T.l y25.rows) (T.b true))
def uK:Fs:=⟨99,[.one (.dz tR [])],fun m vs k=>ap 1 (kN m) vs (lm 3 fun z=>k (bg ⟨[.one (.own (KR 0 0) tP m2 []),.one (.own (KR 1 0) tR m3 []),.one (RB)],[[none]],[none]⟩ z))⟩
def Oa:List Ls:=[⟨[0,1,0,1,1],⟨[(0,.one (LD tR)),(5,EP 1),(6,.one (LI))],[([4000000],.gone),((KI 1),.box [LA (KI 2) tP,LA (KI 3) tR,LA (KI 4) tI]),((KI 2),.row tP m2 []),((KI 3),.row tR m3 []),((KI 4),.row tI [.F] [])]⟩,fun m n vs k=>ap 6 (eO m n) vs (lm 3 fun z=>k .ret (aG ⟨[(2,.one (LA (KI 0) tP)),(3,.one (LA (KI 1) tR)),(4,.one (LB))],[((KI 0),.row tP m2 []),((KI 1),.row tR m3 [])]⟩ z)) (lm 4 fun z=>k (.exit 0) (aG ⟨[(5,EP 0)],[((KI 0),.box [LA (KI 1) tP,LA (KI 2) tR,LA (KI 3) tI]),((KI 1),.row tP m2 []),((KI 2),.row tR m3 []),((KI 3),.row tI [.F] [])]⟩ z))⟩]
def Ce:List Fs:=uK::Ji
theorem Ob:aM CX au Ce/\aY CX au uK:=fF U5.1 uK Tryz.f99 ⟨99,1,34,28⟩ Oa (fun _ _=>rfl) (fun _ _ _=>by kernel_rfl) ⟨fun _ _ _=>rfl,trivial⟩ ⟨fun _ _ _ _ _ _=>by kernel_rfl,trivial⟩ (fun _ _ _ _ _=>by kernel_rfl)
def yY:Nat->T->T->T->T->T->T->(T->T->T->T->T->T->T->An)->An
 | 0,_,_,_,_,_,_,_=>.bad
 | m+1,x0,x1,x2,x3,x4,x5,k0 =>
  jn (fun (j6:T->An) =>
  cond (decide (x5.int<0))
  (j6 (T.i 0))
  (j6 x5))
  (fun y0=>jn (fun (j5:T->An) =>
  cond (decide (y0.int > (IntKind.i64.wrap ((x1.rows.length:Int)-x2.int))))
  (j5 (T.i (IntKind.i64.wrap ((x1.rows.length:Int)-x2.int))))
  (j5 y0))
  (fun y1=>cond (decide ((0:Int)<=(IntKind.i64.wrap (x2.int+y1.int))/\(IntKind.i64.wrap (x2.int+y1.int))<=(x1.rows.length:Int)))
  (cond (decide ((0:Int)<=0/\0<=(IntKind.i64.wrap (x2.int+y1.int))))
  (kN m (T.l (x1.rows.take (Int.toNat (IntKind.i64.wrap (x2.int+y1.int)))))
  (fun y2 y3 y4=>k0 (T.l x3.rows) (T.l x4.rows) x0 (T.l (x1.rows.take (Int.toNat (IntKind.i64.wrap (x2.int+y1.int))))) (T.i ((x1.rows.take (Int.toNat (IntKind.i64.wrap (x2.int+y1.int)))).length:Int)) (T.l y2.rows) (T.l y3.rows)))
  (.bad))
  (.bad)))
def Ao:Fs:=⟨120,[.bx [AI,.own tR m3 [],AI,.own tP m2 [],.own tR m3 []],.one (AI)],fun m vs k=>ap 6 (yY m) vs (lm 7 fun z=>k (bg ⟨[],[[none,none,none,some (tP,m2,[]),some (tR,m3,[])],[none]],[some [RI,.own (KR 1000 1) tR m3 [],RI,.own (KR 1000 3) tP m2 [],.own (KR 1000 4) tR m3 []],none]⟩ z))⟩
def Jj:List Fs:=Ao::Ce
theorem U6:aM CX au Jj/\aY CX au Ao:=fF Ob.1 Ao Tryz.f120 ⟨120,2,65,1⟩ [] (fun _ _=>rfl) (fun _ _ _=>by kernel_rfl) trivial trivial (fun _ _ _ _ _=>by kernel_rfl)
def iZ (m:Nat):Nat->T->T->T->T->T->T->T->T->T->T->T->T->T->T->T->T->T->T->(T->T->T->T->T->T->T->T->T->T->T->An)->(T->T->T->T->T->T->T->T->T->T->T->An)->An
 | 0,_,_,_,_,_,_,_,_,_,_,_,_,_,_,_,_,_,_,_,_=>.bad
 | n+1,x0,x1,x2,x3,x4,x5,x6,x7,x8,x9,x10,bH,fT,kX,xk,KU,Po,Q9,k0,k1 =>
  cond (decide (x2.int.toNat<fT.rows.length))
  (cond (decide (x3.int<(((fT.rows.getD x2.int.toNat []).getD 4 dflt).rows.length:Int)))
  (cond (decide (x2.int.toNat<fT.rows.length))
  (cond (decide ((0:Int)<=x3.int/\x3.int<(((fT.rows.getD x2.int.toNat []).getD 4 dflt).rows.length:Int)))
  (jB m x4 x5 x6 (T.l kX.rows) (T.l xk.rows) x7 (T.l fT.rows) (T.l KU.rows) (T.l Po.rows) (T.l Q9.rows) (T.l [[(T.i 4),x9,(((((fT.rows.getD x2.int.toNat []).getD 4 dflt).rows.getD (Int.toNat x3.int) []).drop 1).getD 0 dflt),(T.l []),(T.b false)]])
  (fun y35 y36 y37 y38 y39 y40 y41 y42 y43 y44=>iZ m n (T.i (x0.int.toNat:Int)) (T.i (x1.int.toNat:Int)) (T.i (x2.int.toNat:Int)) (T.i (IntKind.i64.wrap (x3.int+1))) y40 y41 y42 y43 x8 x9 x10 bH (T.l y37.rows) (T.l y35.rows) (T.l y36.rows) (T.l y44.rows) (T.l y38.rows) (T.l y39.rows) k0 k1))
  (.bad))
  (.bad))
  (k0 (T.i (x0.int.toNat:Int)) x4 x5 x6 x7 (T.l kX.rows) (T.l xk.rows) (T.l fT.rows) (T.l KU.rows) (T.l Po.rows) (T.l Q9.rows)))
  (.bad)
def oK (m:Nat):Nat->T->T->T->T->T->T->T->T->T->T->T->T->T->T->T->T->T->T->(T->T->T->T->T->T->T->T->T->T->T->An)->(T->T->T->T->T->T->T->T->T->T->T->An)->An
 | 0,_,_,_,_,_,_,_,_,_,_,_,_,_,_,_,_,_,_,_,_=>.bad
 | n+1,x0,x1,x2,x3,x4,x5,x6,x7,x8,x9,x10,bH,fT,kX,xk,KU,Po,Q9,k0,k1 =>
  cond (decide (x2.int.toNat<fT.rows.length))
  (cond (decide (x3.int<(((fT.rows.getD x2.int.toNat []).getD 4 dflt).rows.length:Int)))
  (cond (decide (x2.int.toNat<fT.rows.length))
  (cond (decide ((0:Int)<=x3.int/\x3.int<(((fT.rows.getD x2.int.toNat []).getD 4 dflt).rows.length:Int)))
  (jB m x4 x5 x6 (T.l kX.rows) (T.l xk.rows) x7 (T.l fT.rows) (T.l KU.rows) (T.l Po.rows) (T.l Q9.rows) (T.l [[(T.i 4),x9,(((((fT.rows.getD x2.int.toNat []).getD 4 dflt).rows.getD (Int.toNat x3.int) []).drop 1).getD 0 dflt),(T.l []),(T.b false)]])
  (fun y25 Ra y27 y28 y29 UR y31 y32 y33 y34=>iZ m n (T.i (x0.int.toNat:Int)) (T.i (x1.int.toNat:Int)) (T.i (x2.int.toNat:Int)) (T.i (IntKind.i64.wrap (x3.int+1))) UR y31 y32 y33 x8 x9 x10 bH (T.l y27.rows) (T.l y25.rows) (T.l Ra.rows) (T.l y34.rows) (T.l y28.rows) (T.l y29.rows) k0 k1))
  (.bad))
  (.bad))
  (k1 (T.i (x0.int.toNat:Int)) x4 x5 x6 x7 (T.l kX.rows) (T.l xk.rows) (T.l fT.rows) (T.l KU.rows) (T.l Po.rows) (T.l Q9.rows)))
  (.bad)
def Ap:Pack:=⟨[(0,.ptr [0,999999] 0 0 0)],[([0,999999],.box [LI,LI,LI,LA [0,3] tJ,LA [0,4] tC,LI,LA [0,6] tS,LA (KI 4) tW,LA [0,8] tW,LA [0,9] tB]),([0,3],.row tJ m4 []),([0,4],.row tC m2 []),([0,6],.row tS mS []),((KI 4),.row tW m5 []),([0,8],.row tW m5 []),([0,9],.row tB m2 [])]⟩
def Aq:Pack:=⟨[(0,.ptr [0,999999] 0 0 0)],[([0,999999],.box [LI,LI,LI,LA [0,3] tJ,LA [0,4] tC,LI,LA [0,6] tS,LA [0,7] tW,LA [0,8] tW,LA [0,9] tB]),([0,3],.row tJ m4 []),([0,4],.row tC m2 []),([0,6],.row tS mS []),([0,7],.row tW m5 []),([0,8],.row tW m5 []),([0,9],.row tB m2 [])]⟩
def wI:Nat->T->T->T->T->T->T->T->T->T->T->T->T->T->T->(T->T->T->T->T->T->T->T->T->T->T->An)->(T->T->T->T->T->T->T->T->T->T->An)->An
 | 0,_,_,_,_,_,_,_,_,_,_,_,_,_,_,_,_=>.bad
 | m+1,x0,x1,x2,x3,x4,x5,x6,x7,x8,x9,x10,bH,fT,kX,k0,k1 =>
  cond (decide ((0:Int)<=bH.int/\bH.int<(x6.rows.length:Int)))
  (yX m x0 x1 x2 (T.l x3.rows) (T.l x4.rows) x5 (T.l x6.rows) (T.l x7.rows) (T.l x8.rows) (T.l x9.rows) bH
  (fun y0 y1 y2 y3 y4 y5 y6 y7=>cond (x10.int==5)
  (cond (decide ((Int.toNat bH.int)<y4.rows.length))
  (cond (decide ((Int.toNat bH.int)<y4.rows.length))
  (jB m x0 x1 x2 (T.l y2.rows) (T.l y3.rows) x5 (T.l (y4.rows.set (Int.toNat bH.int) ((y4.rows.getD (Int.toNat bH.int) []).set 2 (T.i (((y4.rows.getD (Int.toNat bH.int) []).getD 1 dflt).rows.length:Int))))) (T.l y5.rows) (T.l y1.rows) (T.l y7.rows) (T.l y0.rows)
  (fun y8 y9 nP ou oF y13 pJ uh xE vL=>k0 (T.l y6.rows) y13 pJ uh (T.l y8.rows) (T.l y9.rows) xE (T.l nP.rows) (T.l vL.rows) (T.l ou.rows) (T.l oF.rows)))
  (.bad))
  (.bad))
  (cond (x10.int==9)
  (cond (decide ((Int.toNat bH.int)<y4.rows.length))
  (yY m ((y4.rows.getD (Int.toNat bH.int) []).headD dflt) (T.l ((y4.rows.getD (Int.toNat bH.int) []).tail.headD dflt).rows) ((y4.rows.getD (Int.toNat bH.int) []).tail.tail.headD dflt) (T.l ((y4.rows.getD (Int.toNat bH.int) []).tail.tail.tail.headD dflt).rows) (T.l ((y4.rows.getD (Int.toNat bH.int) []).tail.tail.tail.tail.headD dflt).rows) fT
  (fun u7 Ku y20 y21 y22 y23 y24=>k0 (T.l y6.rows) x0 x1 x2 (T.l y2.rows) (T.l y3.rows) x5 (T.l (y4.rows.set (Int.toNat bH.int) [y20,(T.l y21.rows),y22,(T.l y23.rows),(T.l y24.rows)])) (T.l y5.rows) (T.l y1.rows) (T.l y7.rows)))
  (.bad))
  (cond (x10.int==8)
  (oK m m (T.i 0) (T.i 0) (T.i ((Int.toNat bH.int):Int)) (T.i 0) x0 x1 x2 x5 x10 bH fT (T.l kX.rows) (T.l y4.rows) (T.l y2.rows) (T.l y3.rows) (T.l y5.rows) (T.l y6.rows) (T.l y7.rows)
  (fun y45 y46 y47 y48 y49 y50 y51 y52 y53 y54 y55=>k1 y46 y47 y48 (T.l y50.rows) (T.l y51.rows) y49 (T.l y52.rows) (T.l y53.rows) (T.l y54.rows) (T.l y55.rows))
  (fun y56 y57 y58 y59 y60 y61 y62 y63 y64 y65 y66=>k1 y57 y58 y59 (T.l y61.rows) (T.l y62.rows) y60 (T.l y63.rows) (T.l y64.rows) (T.l y65.rows) (T.l y66.rows)))
  (k1 x0 x1 x2 (T.l y2.rows) (T.l y3.rows) x5 (T.l y4.rows) (T.l y5.rows) (T.l y6.rows) (T.l y7.rows))))))
  (.bad)
def yg:Fs:=⟨89,[.bx [AI,AI,AI,.own tJ m4 [],.own tC m2 [],AI,.own tS mS [],.own tW m5 [],.own tW m5 [],.own tB m2 []],.agg [AI,AI,AI,.dz tO []]],fun m vs k=>ap 14 (wI m) vs (lm 11 fun z=>k (bg ⟨[],[[none,none,none,none,none,none,none,none,some (tW,m5,[]),none],[none,none,none,none]],[some [RI,RI,RI,.own (KR 1000 3) tJ m4 [],.own (KR 1000 4) tC m2 [],RI,.own (KR 1000 6) tS mS [],.own (KR 1000 7) tW m5 [],.own (KR 1000 8) tW m5 [],.own (KR 1000 9) tB m2 []],none]⟩ z)) (lm 10 fun z=>k (bg ⟨[],[[none,none,none,none,none,none,none,none,none,none],[none,none,none,none]],[some [RI,RI,RI,.own (KR 1000 3) tJ m4 [],.own (KR 1000 4) tC m2 [],RI,.own (KR 1000 6) tS mS [],.own (KR 1000 7) tW m5 [],.own (KR 1000 8) tW m5 [],.own (KR 1000 9) tB m2 []],none]⟩ z))⟩
def Rt:List Ls:=[⟨[0,1,0,1,1,1,1,1,0,1,1,1,1],⟨[(0,.ptr [0,999999] 0 0 0),(3,EP 1),(4,.ptr [0,6] 0 0 0),(7,.one (LI))],[([0,999999],.box [LI,LI,LI,LA [0,3] tJ,LA [0,4] tC,LI,LA [0,6] tS,LA (KI 5) tW,LA [0,8] tW,LA [0,9] tB]),((KI 1),.box [LI,LI,LI,LD tO]),([0,6],.row tS mS []),([0,3],.row tJ m4 []),([0,4],.row tC m2 []),((KI 5),.row tW m5 []),([0,8],.row tW m5 []),([0,9],.row tB m2 []),([4000000],.gone)]⟩,fun m n vs k=>ap 18 (iZ m n) vs (lm 11 fun z=>k (.exit 1) (aG Ap z)) (lm 11 fun z=>k (.exit 1) (aG Aq z))⟩,⟨[0,1,0,1,1,1,1,1,0,1,1,1,1],⟨[(0,.ptr [0,999999] 0 0 0),(3,EP 1),(4,.ptr [0,6] 0 0 0),(7,.one (LI))],[([0,999999],.box [LI,LI,LI,LA [0,3] tJ,LA [0,4] tC,LI,LA [0,6] tS,LA [0,7] tW,LA [0,8] tW,LA [0,9] tB]),((KI 1),.box [LI,LI,LI,LD tO]),([0,6],.row tS mS []),([0,3],.row tJ m4 []),([0,4],.row tC m2 []),([0,7],.row tW m5 []),([0,8],.row tW m5 []),([0,9],.row tB m2 []),([4000000],.gone)]⟩,fun m n vs k=>ap 18 (oK m n) vs (lm 11 fun z=>k (.exit 1) (aG Ap z)) (lm 11 fun z=>k (.exit 1) (aG Aq z))⟩]
def Ho:List Fs:=yg::Jj
theorem Ru:aM CX au Ho/\aY CX au yg:=fF U6.1 yg Tryz.f89 ⟨89,2,78,1⟩ Rt (fun _ _=>rfl) (fun _ _ _=>by kernel_rfl) ⟨fun _ _ _=>rfl,fun _ _ _=>rfl,trivial⟩ ⟨fun _ _ _ _ _ _=>by kernel_rfl,fun _ _ _ _ _ _=>by kernel_rfl,trivial⟩ (fun _ _ _ _ _=>by kernel_rfl)
def gq (m:Nat):Nat->T->T->T->T->T->T->T->T->T->T->(T->An)->An
 | 0,_,_,_,_,_,_,_,_,_,_,_=>.bad
 | n+1,x0,x1,x2,x3,x4,x5,x6,x7,x8,x9,k0 =>
  jn (fun (j5:An) =>
  cond ((decide (x4.int<(x3.rows.length:Int)))==true)
  (cond x2.bool
  (j5)
  (k0 (T.l x9.rows)))
  (k0 (T.l x9.rows)))
  (cond (decide ((0:Int)<=x4.int/\x4.int<(x3.rows.length:Int)))
  (cond (decide ((x9.rows.length+1) * 5<=aD))
  (gq m n (T.i (x0.int.toNat:Int)) x1 x2 x3 (T.i (IntKind.i64.wrap (x4.int+1))) x5 x6 x7 x8 (T.l (x9.rows++[[(T.i 3),((x3.rows.getD (Int.toNat x4.int) []).getD 0 dflt),x5,(T.l []),x1]])) k0)
  (.bad))
  (.bad))
def wJ:Nat->T->T->T->T->T->T->T->T->T->T->(T->An)->An
 | 0,_,_,_,_,_,_,_,_,_,_,_=>.bad
 | m+1,x0,x1,x2,x3,x4,x5,x6,x7,x8,x9,k0 =>
  qx m x0 x1 x2 (T.l x3.rows) (T.l x4.rows) x5 x6
  (fun y0 y1=>cond (x8.int==1)
  (rX m x0 x1 x2 (T.l x3.rows) (T.l x4.rows) x5 x6 (T.l x7.rows) x8 (T.l x9.rows)
  (fun y2=>k0 (T.l y2.rows)))
  (gK m (T.l x7.rows) x0
  (fun y3=>gq m m (T.i 0) y0 y1 (T.l y3.rows) (T.i 0) x6 (T.l x7.rows) x8 (T.l x9.rows) (T.l [])
  (fun y6=>k0 (T.l y6.rows)))))
def yh:Fs:=⟨122,[.agg [AI,AI,AI,.dz tJ [],.dz tC [],AI],.agg [AI,.dz tO [],AI,.dz tI []]],fun m vs k=>ap 10 (wJ m) vs (lm 1 fun z=>k (bg ⟨[.one (.own (KR 0 0) tW m5 [])],[[none,none,none,none,none,none],[none,none,none,none]],[none,none]⟩ z))⟩
def Rv:List Ls:=[⟨[0,1,0,1,1,1,1,1],⟨[(3,EP 0),(5,.one (LA (KI 1) tW)),(6,.one (LB)),(7,.one (LB)),(8,.one (LZ tI)),(9,.one (LI))],[((KI 0),.box [LI,LD tO,LI,LD tI]),((KI 1),.row tW m5 []),([4000000],.gone)]⟩,fun m n vs k=>ap 10 (gq m n) vs (lm 1 fun z=>k (.exit 0) (aG ⟨[(5,.one (LA (KI 0) tW))],[((KI 0),.row tW m5 [])]⟩ z))⟩]
def Hq:List Fs:=yh::Ho
theorem Rw:aM CX au Hq/\aY CX au yh:=fF Ru.1 yh Tryz.f122 ⟨122,2,50,16⟩ Rv (fun _ _=>rfl) (fun _ _ _=>by kernel_rfl) ⟨fun _ _ _=>rfl,trivial⟩ ⟨fun _ _ _ _ _ _=>by kernel_rfl,trivial⟩ (fun _ _ _ _ _=>by kernel_rfl)
def gy (m:Nat):Nat->T->T->T->T->T->T->T->T->T->(T->An)->An
 | 0,_,_,_,_,_,_,_,_,_,_=>.bad
 | n+1,x0,x1,x2,x3,x4,x5,x6,x7,x8,k0 =>
  cond (decide (x1.int<(x5.rows.length:Int)))
  (cond (decide ((0:Int)<=x1.int/\x1.int<(x5.rows.length:Int)))
  (wJ m x2 x3 x4 (T.l x5.rows) (T.l x6.rows) x7 ((x5.rows.getD (Int.toNat x1.int) []).getD 0 dflt) (T.l ((x5.rows.getD (Int.toNat x1.int) []).getD 1 dflt).rows) ((x5.rows.getD (Int.toNat x1.int) []).getD 2 dflt) (T.l ((x5.rows.getD (Int.toNat x1.int) []).getD 3 dflt).rows)
  (fun y0=>cond (decide ((x8.rows.length+y0.rows.length) * 5<=aD))
  (gy m n (T.i (x0.int.toNat:Int)) (T.i (IntKind.i64.wrap (x1.int+1))) x2 x3 x4 x5 x6 x7 (T.l (x8.rows++y0.rows)) k0)
  (.bad)))
  (.bad))
  (k0 (T.l x8.rows))
def sI:Nat->T->T->T->T->T->T->(T->An)->An
 | 0,_,_,_,_,_,_,_=>.bad
 | m+1,x0,x1,x2,x3,x4,x5,k0 =>
  gy m m (T.i 0) (T.i 0) x0 x1 x2 (T.l x3.rows) (T.l x4.rows) x5 (T.l [])
  (fun y1=>k0 (T.l y1.rows))
def uL:Fs:=⟨91,[.agg [AI,AI,AI,.dz tJ [],.dz tC [],AI]],fun m vs k=>ap 6 (sI m) vs (lm 1 fun z=>k (bg ⟨[.one (.own (KR 0 0) tW m5 [])],[[none,none,none,none,none,none]],[none]⟩ z))⟩
def Oc:List Ls:=[⟨[0,1,0,1,1],⟨[(1,EP 0),(3,.one (LA (KI 1) tW)),(4,.one (LI))],[((KI 0),.box [LI,LI,LI,LD tJ,LD tC,LI]),((KI 1),.row tW m5 []),([4000000],.gone)]⟩,fun m n vs k=>ap 9 (gy m n) vs (lm 1 fun z=>k (.exit 0) (aG ⟨[(3,.one (LA (KI 0) tW))],[((KI 0),.row tW m5 [])]⟩ z))⟩]
def Cg:List Fs:=uL::Hq
theorem Od:aM CX au Cg/\aY CX au uL:=fF Rw.1 uL Tryz.f91 ⟨91,1,23,4⟩ Oc (fun _ _=>rfl) (fun _ _ _=>by kernel_rfl) ⟨fun _ _ _=>rfl,trivial⟩ ⟨fun _ _ _ _ _ _=>by kernel_rfl,trivial⟩ (fun _ _ _ _ _=>by kernel_rfl)
def rZ:Nat->T->T->T->T->T->T->T->(T->T->T->T->T->T->T->An)->(T->T->T->T->T->T->T->T->An)->An
 | 0,_,_,_,_,_,_,_,_,_=>.bad
 | m+1,x0,x1,x2,x3,x4,x5,x6,k0,k1 =>
  cond (x1.int==900)
  (k0 (T.b false) x0 x1 x2 (T.l x3.rows) (T.l x4.rows) x5)
  (jn (fun (j3:T->An) =>
  cond (decide (x6.int<0))
  (j3 (T.i 0))
  (j3 x6))
  (fun y0=>jn (fun (j2:T->An) =>
  cond (decide (y0.int > (IntKind.i64.wrap ((x4.rows.length:Int)-x5.int))))
  (j2 (T.i (IntKind.i64.wrap ((x4.rows.length:Int)-x5.int))))
  (j2 y0))
  (fun y1=>cond (decide ((0:Int)<=(IntKind.i64.wrap (x5.int+y1.int))/\(IntKind.i64.wrap (x5.int+y1.int))<=(x4.rows.length:Int)))
  (cond (decide ((0:Int)<=0/\0<=(IntKind.i64.wrap (x5.int+y1.int))))
  (k1 (T.b true) (T.l x3.rows) x0 (T.i (IntKind.i64.wrap (x1.int+1))) (T.i 0) (T.l []) (T.l (x4.rows.take (Int.toNat (IntKind.i64.wrap (x5.int+y1.int))))) (T.i ((x4.rows.take (Int.toNat (IntKind.i64.wrap (x5.int+y1.int)))).length:Int)))
  (.bad))
  (.bad))))
def yj:Fs:=⟨92,[.bx [AI,AI,AI,.own tJ m4 [],.own tC m2 [],AI],.one (AI)],fun m vs k=>ap 7 (rZ m) vs (lm 7 fun z=>k (bg ⟨[.one (RB)],[[none,none,none,none,none,none],[none]],[some [RI,RI,RI,.own (KR 1000 3) tJ m4 [],.own (KR 1000 4) tC m2 [],RI],none]⟩ z)) (lm 8 fun z=>k (bg ⟨[.one (RB)],[[none,none,none,some (tJ,m4,[]),none,none],[none]],[some [RI,RI,RI,.own (KR 1000 3) tJ m4 [],.own (KR 1000 4) tC m2 [],RI],none]⟩ z))⟩
def Hr:List Fs:=yj::Cg
theorem Rx:aM CX au Hr/\aY CX au yj:=fF Od.1 yj Tryz.f92 ⟨92,2,71,17⟩ [] (fun _ _=>rfl) (fun _ _ _=>by kernel_rfl) trivial trivial (fun _ _ _ _ _=>by kernel_rfl)
def F8:Nat->T->T->T->T->T->T->T->T->T->T->T->T->T->T->(T->T->T->T->T->T->T->T->T->T->T->An)->(T->T->T->T->T->T->T->T->T->T->T->T->An)->(T->T->T->T->T->T->T->T->T->T->T->T->An)->An
 | 0,_,_,_,_,_,_,_,_,_,_,_,_,_,_,_,_,_=>.bad
 | m+1,x0,x1,x2,x3,x4,x5,x6,x7,x8,x9,x10,bH,fT,kX,k0,k1,k2 =>
  cond (x10.int==1)
  (wF m x0 x1 x2 (T.l x3.rows) (T.l x4.rows) x5 (T.l x6.rows) (T.l x7.rows) (T.l x8.rows) (T.l x9.rows) (T.l kX.rows)
  (fun y0 y1 y2 y3 y4 y5 y6 y7 y8 y9 nP=>k0 y0 y1 y2 y3 (T.l y4.rows) (T.l y5.rows) y6 (T.l y7.rows) (T.l y8.rows) (T.l y9.rows) (T.l nP.rows)))
  (jn (fun (j90:T->An) =>
  cond (x10.int==2)
  (j90 (T.b true))
  (cond (x10.int==3)
  (j90 (T.b true))
  (j90 (T.b (x10.int==4)))))
  (fun ou=>cond ou.bool
  (Cc m x0 x1 x2 (T.l x3.rows) (T.l x4.rows) x5 (T.l x6.rows) (T.l x7.rows) (T.l x8.rows) (T.l x9.rows) x10 bH fT (T.l kX.rows)
  (fun oF y13 pJ uh xE vL u7 Ku y20 y21 y22=>k0 oF y13 pJ uh (T.l xE.rows) (T.l vL.rows) u7 (T.l Ku.rows) (T.l y20.rows) (T.l y21.rows) (T.l y22.rows)))
  (jn (fun (j89:T->An) =>
  cond (x10.int==5)
  (j89 (T.b true))
  (cond (x10.int==8)
  (j89 (T.b true))
  (j89 (T.b (x10.int==9)))))
  (fun y23=>cond y23.bool
  (bM m bH (T.i 0) (T.i (IntKind.i64.wrap ((x6.rows.length:Int)-1)))
  (fun y24=>cond (!y24.bool)
  (k0 (T.b false) x0 x1 x2 (T.l x3.rows) (T.l x4.rows) x5 (T.l x6.rows) (T.l x7.rows) (T.l x8.rows) (T.l x9.rows))
  (wI m x0 x1 x2 (T.l x3.rows) (T.l x4.rows) x5 (T.l x6.rows) (T.l x7.rows) (T.l x8.rows) (T.l x9.rows) x10 bH fT (T.l kX.rows)
  (fun y25 Ra y27 y28 y29 UR y31 y32 y33 y34 y35=>k1 (T.b true) (T.l y25.rows) Ra y27 y28 (T.l y29.rows) (T.l UR.rows) y31 (T.l y32.rows) (T.l y33.rows) (T.l y34.rows) (T.l y35.rows))
  (fun y36 y37 y38 y39 y40 y41 y42 y43 y44 y45=>k0 (T.b true) y36 y37 y38 (T.l y39.rows) (T.l y40.rows) y41 (T.l y42.rows) (T.l y43.rows) (T.l y44.rows) (T.l y45.rows)))))
  (cond (x10.int==6)
  (k0 (T.b true) x0 x1 x2 (T.l x3.rows) (T.l x4.rows) (T.i (x4.rows.length:Int)) (T.l x6.rows) (T.l x7.rows) (T.l x8.rows) (T.l x9.rows))
  (cond (x10.int==7)
  (sI m x0 x1 x2 (T.l x3.rows) (T.l x4.rows) x5
  (fun y56=>jB m x0 x1 x2 (T.l x3.rows) (T.l x4.rows) x5 (T.l x6.rows) (T.l x7.rows) (T.l x8.rows) (T.l x9.rows) (T.l y56.rows)
  (fun y57 y58 y59 y60 y61 y62 y63 y64 y65 y66=>k0 (T.b true) y62 y63 y64 (T.l y57.rows) (T.l y58.rows) y65 (T.l y59.rows) (T.l y66.rows) (T.l y60.rows) (T.l y61.rows))))
  (cond (x10.int==10)
  (rZ m x0 x1 x2 (T.l x3.rows) (T.l x4.rows) x5 fT
  (fun y67 y68 y69 y70 y71 y72 y73=>k0 y67 y68 y69 y70 (T.l y71.rows) (T.l y72.rows) y73 (T.l x6.rows) (T.l x7.rows) (T.l x8.rows) (T.l x9.rows))
  (fun y74 y75 y76 y77 y78 y79 y80 y81=>k2 y74 (T.l y75.rows) y76 y77 y78 (T.l y79.rows) (T.l y80.rows) y81 (T.l x6.rows) (T.l x7.rows) (T.l x8.rows) (T.l x9.rows)))
  (k0 (T.b false) x0 x1 x2 (T.l x3.rows) (T.l x4.rows) x5 (T.l x6.rows) (T.l x7.rows) (T.l x8.rows) (T.l x9.rows)))))))))
def F9:Fs:=⟨55,[.bx [AI,AI,AI,.own tJ m4 [],.own tC m2 [],AI,.own tS mS [],.own tW m5 [],.own tW m5 [],.own tB m2 []],.agg [AI,AI,AI,.dz tO []]],fun m vs k=>ap 14 (F8 m) vs (lm 11 fun z=>k (bg ⟨[.one (RB)],[[none,none,none,none,none,none,none,none,none,none],[none,none,none,none]],[some [RI,RI,RI,.own (KR 1000 3) tJ m4 [],.own (KR 1000 4) tC m2 [],RI,.own (KR 1000 6) tS mS [],.own (KR 1000 7) tW m5 [],.own (KR 1000 8) tW m5 [],.own (KR 1000 9) tB m2 []],none]⟩ z)) (lm 12 fun z=>k (bg ⟨[.one (RB)],[[none,none,none,none,none,none,none,none,some (tW,m5,[]),none],[none,none,none,none]],[some [RI,RI,RI,.own (KR 1000 3) tJ m4 [],.own (KR 1000 4) tC m2 [],RI,.own (KR 1000 6) tS mS [],.own (KR 1000 7) tW m5 [],.own (KR 1000 8) tW m5 [],.own (KR 1000 9) tB m2 []],none]⟩ z)) (lm 12 fun z=>k (bg ⟨[.one (RB)],[[none,none,none,some (tJ,m4,[]),none,none,none,none,none,none],[none,none,none,none]],[some [RI,RI,RI,.own (KR 1000 3) tJ m4 [],.own (KR 1000 4) tC m2 [],RI,.own (KR 1000 6) tS mS [],.own (KR 1000 7) tW m5 [],.own (KR 1000 8) tW m5 [],.own (KR 1000 9) tB m2 []],none]⟩ z))⟩
def Oe:List Fs:=F9::Hr
theorem aac:aM CX au Oe/\aY CX au F9:=fF Rx.1 F9 Tryz.f55 ⟨55,2,66,17⟩ [] (fun _ _=>rfl) (fun _ _ _=>by kernel_rfl) trivial trivial (fun _ _ _ _ _=>by kernel_rfl)
def gM (m:Nat):Nat->T->T->T->T->T->T->T->T->T->T->T->T->T->T->T->T->T->T->T->T->T->T->T->T->T->T->T->(T->T->T->T->T->T->T->T->T->T->T->T->T->T->T->T->T->T->T->T->T->T->T->T->T->T->An)->An
 | 0,_,_,_,_,_,_,_,_,_,_,_,_,_,_,_,_,_,_,_,_,_,_,_,_,_,_,_,_=>.bad
 | n+1,x0,x1,x2,x3,x4,x5,x6,x7,x8,x9,x10,bH,fT,kX,xk,KU,Po,Q9,x18,x19,x20,x21,x22,x23,x24,x25,x26,k0 =>
  cond (decide (x3.int > 0))
  (jn (fun (j86:T->T->T->T->T->T->T->T->T->T->T->T->T->An) =>
  pK m (T.l x4.rows) x5 x6 bH fT kX (T.l x21.rows) (T.l x22.rows) xk (T.l x23.rows) (T.l x24.rows) (T.l x25.rows) (T.l x26.rows)
  (fun u7 Ku y20 y21 y22 y23 y24=>F8 m bH fT kX (T.l x21.rows) (T.l x22.rows) xk (T.l x23.rows) (T.l x24.rows) (T.l x25.rows) (T.l x26.rows) u7 Ku y20 (T.l y21.rows)
  (fun y25 Ra y27 y28 y29 UR y31 y32 y33 y34 y35=>j86 (T.l y22.rows) y23 y24 Ra y27 y28 y31 (T.l y29.rows) (T.l UR.rows) (T.l y32.rows) (T.l y33.rows) (T.l y34.rows) (T.l y35.rows))
  (fun y36 y37 y38 y39 y40 y41 y42 y43 y44 y45 y46 y47=>j86 (T.l y22.rows) y23 y24 y38 y39 y40 y43 (T.l y41.rows) (T.l y42.rows) (T.l y44.rows) (T.l y45.rows) (T.l y46.rows) (T.l y47.rows))
  (fun y48 y49 y50 y51 y52 y53 y54 y55 y56 y57 y58 y59=>j86 (T.l y22.rows) y23 y24 y50 y51 y52 y55 (T.l y53.rows) (T.l y54.rows) (T.l y56.rows) (T.l y57.rows) (T.l y58.rows) (T.l y59.rows))))
  (fun y73 y74 y75 y76 y77 y78 y79 y80 y81 y82 y83 y84 y85=>gM m n (T.i (x0.int.toNat:Int)) (T.i (x1.int.toNat:Int)) (T.i (x2.int.toNat:Int)) (T.i (IntKind.i64.wrap (x3.int-1))) y73 y74 y75 x7 x8 x9 x10 y76 y77 y78 y79 (T.l KU.rows) (T.l Po.rows) (T.l Q9.rows) (T.l x18.rows) (T.l x19.rows) (T.l x20.rows) (T.l y80.rows) (T.l y81.rows) (T.l y82.rows) (T.l y83.rows) (T.l y84.rows) (T.l y85.rows) k0))
  (k0 (T.i (x0.int.toNat:Int)) (T.i (x1.int.toNat:Int)) (T.i (x2.int.toNat:Int)) x4 x5 x6 x7 x8 x9 x10 bH fT kX xk (T.l KU.rows) (T.l Po.rows) (T.l Q9.rows) (T.l x18.rows) (T.l x19.rows) (T.l x20.rows) (T.l x21.rows) (T.l x22.rows) (T.l x23.rows) (T.l x24.rows) (T.l x25.rows) (T.l x26.rows))
def Ga:Nat->T->T->T->T->(T->T->T->T->T->T->T->T->T->T->T->T->T->An)->An
 | 0,_,_,_,_,_=>.bad
 | m+1,x0,x1,x2,x3,k0 =>
  vK m (T.l x0.rows) x1 x2 (T.l [[(T.i 3)],[(T.i 2)],[(T.i 3)],[(T.i 1)]])
  (fun y0 y1 y2 y3=>wD m y0
  (fun y4 y5 y6 y7 y8 y9 nP ou oF y13=>bS m (T.l y1.rows) y2 y3 x3
  (fun pJ uh xE vL=>gM m m (T.i 0) (T.i 0) (T.i 0) pJ (T.l uh.rows) xE vL (T.i 0) (T.i 0) (T.i 0) (T.i 0) y4 y5 y6 y9 (T.l []) (T.l []) (T.l []) (T.l []) (T.l []) (T.l []) (T.l y7.rows) (T.l y8.rows) (T.l nP.rows) (T.l ou.rows) (T.l oF.rows) (T.l y13.rows)
  (fun y87 y88 y89 y90 y91 y92 y93 y94 y95 y96 y97 y98 y99 apW y101 y102 asj y104 asl asn apX apY apZ ap0 ap1 y112=>k0 y97 y98 y99 (T.l apX.rows) (T.l apY.rows) apW (T.l apZ.rows) (T.l ap0.rows) (T.l ap1.rows) (T.l y112.rows) (T.l y90.rows) y91 y92))))
def Au:Fs:=⟨24,[.bx [.fz tU [],AI,AI],.one (AI)],fun m vs k=>ap 4 (Ga m) vs (lm 13 fun z=>k (bg ⟨[.agg [RI,RI,RI,.own (KR 0 3) tJ m4 [],.own (KR 0 4) tC m2 [],RI,.own (KR 0 6) tS mS [],.own (KR 0 7) tW m5 [],.own (KR 0 8) tW m5 [],.own (KR 0 9) tB m2 []]],[[none,none,none],[none]],[some [.fz tU [],RI,RI],none]⟩ z))⟩
def U7:List Ls:=[⟨[0,1,0,1,1],⟨[(0,.ptr [0,999999] 0 0 0),(4,EP 1),(5,EP 2),(6,.one (LI))],[([0,999999],.box [LZ tU,LI,LI]),((KI 1),.box [LI,LI,LI,LA (KI 3) tJ,LA (KI 4) tC,LI,LA (KI 5) tS,LA (KI 6) tW,LA (KI 7) tW,LA (KI 8) tB]),((KI 2),.box [LI,LI,LI,LA (KI 9) tJ,LA (KI 10) tC,LI,LA (KI 11) tS,LA (KI 12) tW,LA (KI 13) tW,LA (KI 14) tB]),((KI 3),.row tJ m4 []),((KI 4),.row tC m2 []),((KI 5),.row tS mS []),((KI 6),.row tW m5 []),((KI 7),.row tW m5 []),((KI 8),.row tB m2 []),((KI 9),.row tJ m4 []),((KI 10),.row tC m2 []),((KI 11),.row tS mS []),((KI 12),.row tW m5 []),((KI 13),.row tW m5 []),((KI 14),.row tB m2 [])]⟩,fun m n vs k=>ap 27 (gM m n) vs (lm 26 fun z=>k (.exit 0) (aG ⟨[(0,.ptr [0,999999] 0 0 0),(4,EP 1),(5,EP 2)],[([0,999999],.box [LZ tU,LI,LI]),((KI 1),.box [LI,LI,LI,LA (KI 3) tJ,LA (KI 4) tC,LI,LA (KI 5) tS,LA (KI 6) tW,LA (KI 7) tW,LA (KI 8) tB]),((KI 2),.box [LI,LI,LI,LA (KI 9) tJ,LA (KI 10) tC,LI,LA (KI 11) tS,LA (KI 12) tW,LA (KI 13) tW,LA (KI 14) tB]),((KI 3),.row tJ m4 []),((KI 4),.row tC m2 []),((KI 5),.row tS mS []),((KI 6),.row tW m5 []),((KI 7),.row tW m5 []),((KI 8),.row tB m2 []),((KI 9),.row tJ m4 []),((KI 10),.row tC m2 []),((KI 11),.row tS mS []),((KI 12),.row tW m5 []),((KI 13),.row tW m5 []),((KI 14),.row tB m2 [])]⟩ z))⟩]
def Jk:List Fs:=Au::Oe
theorem U8:aM CX au Jk/\aY CX au Au:=fF aac.1 Au Tryz.f24 ⟨24,2,23,17⟩ U7 (fun _ _=>rfl) (fun _ _ _=>by kernel_rfl) ⟨fun _ _ _=>rfl,trivial⟩ ⟨fun _ _ _ _ _ _=>by kernel_rfl,trivial⟩ (fun _ _ _ _ _=>by kernel_rfl)
def uM:Nat->T->(T->T->T->T->T->T->T->T->T->T->An)->An
 | 0,_,_=>.bad
 | m+1,x0,k0 =>
  FK m (T.l x0.rows)
  (fun y0 y1 y2=>oC m (T.l x0.rows) (T.i 90)
  (fun y3=>Ga m (T.l y0.rows) y1 y2 (T.i (IntKind.i64.wrap (20+y3.int)))
  (fun y4 y5 y6 y7 y8 y9 nP ou oF y13 pJ uh xE=>k0 y4 y5 y6 (T.l y7.rows) (T.l y8.rows) y9 (T.l nP.rows) (T.l ou.rows) (T.l oF.rows) (T.l y13.rows))))
def vR:Fs:=⟨6,[.one (.fz tU [])],fun m vs k=>ap 1 (uM m) vs (lm 10 fun z=>k (bg ⟨[.agg [RI,RI,RI,.own (KR 0 3) tJ m4 [],.own (KR 0 4) tC m2 [],RI,.own (KR 0 6) tS mS [],.own (KR 0 7) tW m5 [],.own (KR 0 8) tW m5 [],.own (KR 0 9) tB m2 []]],[[none]],[none]⟩ z))⟩
def Eo:List Fs:=vR::Jk
theorem PD:aM CX au Eo/\aY CX au vR:=fF U8.1 vR Tryz.f6 ⟨6,1,11,4⟩ [] (fun _ _=>rfl) (fun _ _ _=>by kernel_rfl) trivial trivial (fun _ _ _ _ _=>by kernel_rfl)
def dG:Nat->T->T->T->(T->An)->An
 | 0,_,_,_,_=>.bad
 | m+1,x0,x1,x2,k0 =>
  cond ((decide (x0.int>=x1.int))==true)
  (k0 (T.b (decide (x0.int<=x2.int))))
  (k0 (T.b false))
def Av:Fs:=⟨42,[.one (AI),.one (AI),.one (AI)],fun m vs k=>ap 3 (dG m) vs (lm 1 fun z=>k (bg ⟨[.one (RB)],[[none],[none],[none]],[none,none,none]⟩ z))⟩
def Jl:List Fs:=Av::Eo
theorem U9:aM CX au Jl/\aY CX au Av:=fF PD.1 Av Tryz.f42 ⟨42,3,15,64⟩ [] (fun _ _=>rfl) (fun _ _ _=>by kernel_rfl) trivial trivial (fun _ _ _ _ _=>by kernel_rfl)
def jW:Nat->T->(T->An)->An
 | 0,_,_=>.bad
 | m+1,x0,k0 =>
  k0 (T.i (IntKind.i64.wrap ((IntKind.i64.wrap ((((cO x0).drop 1).getD 0 dflt).int * 1000))+(((cO x0).drop 2).getD 0 dflt).int)))
def rH:Fs:=⟨51,[.Ky [.sc (.int .i64),.sc (.int .i64),.sc (.int .i64),.sl tJ,.sl tC,.sc (.int .i64)] []],fun m vs k=>ap 1 (jW m) vs (lm 1 fun z=>k (bg ⟨[.one (RI)],[[]],[none]⟩ z))⟩
def yK:List Fs:=rH::Jl
theorem Kv:aM CX au yK/\aY CX au rH:=fF U9.1 rH Tryz.f51 ⟨51,1,13,4⟩ [] (fun _ _=>rfl) (fun _ _ _=>by kernel_rfl) trivial trivial (fun _ _ _ _ _=>by kernel_rfl)
def pR:Nat->T->T->T->(T->An)->An
 | 0,_,_,_,_=>.bad
 | m+1,x0,x1,x2,k0 =>
  k0 (T.b (x0.int==((cO x2).getD 0 dflt).int))
def nX:Fs:=⟨84,[.agg [AI,AB],.Ky tI []],fun m vs k=>ap 3 (pR m) vs (lm 1 fun z=>k (bg ⟨[.one (RB)],[[none,none],[]],[none,none]⟩ z))⟩
def tY:List Fs:=nX::yK
theorem Ep:aM CX au tY/\aY CX au nX:=fF Kv.1 nX Tryz.f84 ⟨84,2,8,8⟩ [] (fun _ _=>rfl) (fun _ _ _=>by kernel_rfl) trivial trivial (fun _ _ _ _ _=>by kernel_rfl)
def aU (m:Nat):Nat->T->T->T->T->(T->An)->An->An
 | 0,_,_,_,_,_,_=>.bad
 | n+1,x0,x1,x2,x3,k0,k1 =>
  cond (decide (x3.int<x2.int))
  (cond (decide ((0:Int)<=x3.int/\x3.int<(x0.rows.length:Int)))
  (pR m ((x0.rows.getD (Int.toNat x3.int) []).getD 0 dflt) ((x0.rows.getD (Int.toNat x3.int) []).getD 1 dflt) (T.l [(cO x1)])
  (fun y0=>cond y0.bool
  (k0 x3)
  (aU m n x0 (T.l [(cO x1)]) x2 (T.i (IntKind.i64.wrap (x3.int+1))) k0 k1)))
  (.bad))
  (k1 )
def dL:Nat->T->T->(T->An)->An
 | 0,_,_,_=>.bad
 | m+1,x0,x1,k0 =>
  aU m m (T.l x0.rows) (T.l [(cO x1)]) (T.i (x0.rows.length:Int)) (T.i 0)
  (fun y1=>k0 y1)
  (k0 (T.i (-1)))
def dD:Fs:=⟨83,[.one (.dz tC []),.fn 84 [.Ky tI []]],fun m vs k=>ap 2 (dL m) vs (lm 1 fun z=>k (bg ⟨[.one (RI)],[[none],[]],[none,none]⟩ z))⟩
def nN:List Ls:=[⟨[0,1,0,1],⟨[(0,.one (LD tC)),(1,.fn 84 [.rp [([4000000],0)] tI []]),(7,.one (LI)),(8,.one (LI))],[([4000000],.gone)]⟩,fun m n vs k=>ap 4 (aU m n) vs (lm 1 fun z=>k .ret (aG ⟨[(4,.one (LI))],[]⟩ z)) (lm 0 fun z=>k (.exit 0) (aG ⟨[],[]⟩ z))⟩]
def fV:List Fs:=dD::tY
theorem nO:aM CX au fV/\aY CX au dD:=fF Ep.1 dD Tryz.f83 ⟨83,2,19,16⟩ nN (fun _ _=>rfl) (fun _ _ _=>by kernel_rfl) ⟨fun _ _ _=>rfl,trivial⟩ ⟨fun _ _ _ _ _ _=>by kernel_rfl,trivial⟩ (fun _ _ _ _ _=>by kernel_rfl)
def kY:Nat->T->T->(T->An)->An
 | 0,_,_,_=>.bad
 | m+1,x0,x1,k0 =>
  dL m (T.l (((cO x0).drop 4).getD 0 dflt).rows) (T.l [[x1]])
  (fun y0=>k0 y0)
def pU:Fs:=⟨52,[.Ky [.sc (.int .i64),.sc (.int .i64),.sc (.int .i64),.sl tJ,.sl tC,.sc (.int .i64)] [],.one (AI)],fun m vs k=>ap 2 (kY m) vs (lm 1 fun z=>k (bg ⟨[.one (RI)],[[],[none]],[none,none]⟩ z))⟩
def vg:List Fs:=pU::fV
theorem H7:aM CX au vg/\aY CX au pU:=fF nO.1 pU Tryz.f52 ⟨52,2,11,16⟩ [] (fun _ _=>rfl) (fun _ _ _=>by kernel_rfl) trivial trivial (fun _ _ _ _ _=>by kernel_rfl)
def uN:Nat->T->(T->An)->An
 | 0,_,_=>.bad
 | m+1,x0,k0 =>
  cond ((decide (x0.int>=97))==true)
  (cond ((decide (x0.int<=122))==false)
  (cond ((decide (x0.int>=48))==true)
  (k0 (T.b (decide (x0.int<=57))))
  (k0 (T.b false)))
  (k0 (T.b true)))
  (cond ((decide (x0.int>=48))==true)
  (k0 (T.b (decide (x0.int<=57))))
  (k0 (T.b false)))
def vS:Fs:=⟨182,[.one (.sc (.int .u8) (.l []))],fun m vs k=>ap 1 (uN m) vs (lm 1 fun z=>k (bg ⟨[.one (RB)],[[none]],[none]⟩ z))⟩
def Er:List Fs:=vS::vg
theorem PE:aM CX au Er/\aY CX au vS:=fF H7.1 vS Tryz.f182 ⟨182,1,17,4⟩ [] (fun _ _=>rfl) (fun _ _ _=>by kernel_rfl) trivial trivial (fun _ _ _ _ _=>by kernel_rfl)
def lT (m:Nat):Nat->T->T->(T->An)->An->An
 | 0,_,_,_,_=>.bad
 | n+1,x0,x1,k0,k1 =>
  cond (decide (x1.int<(x0.str.size:Int)))
  (cond (decide ((0:Int)<=x1.int/\x1.int<(x0.str.size:Int)))
  (uN m (T.i ((x0.str.data.toList.getD (Int.toNat x1.int) 0).toNat:Int))
  (fun y0=>cond (!y0.bool)
  (k0 (T.b false))
  (lT m n x0 (T.i (IntKind.i64.wrap (x1.int+1))) k0 k1)))
  (.bad))
  (k1 )
def Jm:Nat->T->(T->An)->An
 | 0,_,_=>.bad
 | m+1,x0,k0 =>
  lT m m x0 (T.i 0)
  (fun y1=>k0 y1)
  (k0 (T.b true))
def Dw:Fs:=⟨172,[.one (AS)],fun m vs k=>ap 1 (Jm m) vs (lm 1 fun z=>k (bg ⟨[.one (RB)],[[none]],[none]⟩ z))⟩
def Xf:List Ls:=[⟨[0,1,0,1],⟨[(0,.one (LS)),(3,.one (LI))],[]⟩,fun m n vs k=>ap 2 (lT m n) vs (lm 1 fun z=>k .ret (aG ⟨[(2,.one (LB))],[]⟩ z)) (lm 0 fun z=>k (.exit 0) (aG ⟨[],[]⟩ z))⟩]
def Lb:List Fs:=Dw::Er
theorem Xg:aM CX au Lb/\aY CX au Dw:=fF PE.1 Dw Tryz.f172 ⟨172,1,15,4⟩ Xf (fun _ _=>rfl) (fun _ _ _=>by kernel_rfl) ⟨fun _ _ _=>rfl,trivial⟩ ⟨fun _ _ _ _ _ _=>by kernel_rfl,trivial⟩ (fun _ _ _ _ _=>by kernel_rfl)
def Aw:Nat->T->(T->An)->An
 | 0,_,_=>.bad
 | m+1,x0,k0 =>
  dG m (T.i (x0.str.size:Int)) (T.i 1) (T.i 12)
  (fun y0=>cond (y0.bool==true)
  (Jm m x0
  (fun y1=>k0 (T.b y1.bool)))
  (k0 (T.b false)))
def Gb:Fs:=⟨146,[.one (AS)],fun m vs k=>ap 1 (Aw m) vs (lm 1 fun z=>k (bg ⟨[.one (RB)],[[none]],[none]⟩ z))⟩
def Og:List Fs:=Gb::Lb
theorem aad:aM CX au Og/\aY CX au Gb:=fF Xg.1 Gb Tryz.f146 ⟨146,1,10,4⟩ [] (fun _ _=>rfl) (fun _ _ _=>by kernel_rfl) trivial trivial (fun _ _ _ _ _=>by kernel_rfl)
def Ki:Nat->T->T->T->(T->An)->An
 | 0,_,_,_,_=>.bad
 | m+1,x0,x1,x2,k0 =>
  jn (fun (j5:T->An) =>
  cond (x0.int==1)
  (j5 (T.b true))
  (j5 (T.b (x0.int==3))))
  (fun y0=>cond y0.bool
  (Aw m x1
  (fun y1=>cond (y1.bool==true)
  (k0 (T.b (decide ((x2.str.size:Int)<=20))))
  (k0 (T.b false))))
  (cond (x0.int==2)
  (Aw m x1
  (fun y3=>cond (y3.bool==true)
  (k0 (T.b (x2.str.toList==(⟨#[]⟩:ByteArray).toList)))
  (k0 (T.b false))))
  (k0 (T.b false))))
def Jo:Fs:=⟨110,[.agg [AI,AS,AS]],fun m vs k=>ap 3 (Ki m) vs (lm 1 fun z=>k (bg ⟨[.one (RB)],[[none,none,none]],[none]⟩ z))⟩
def QC:List Fs:=Jo::Og
theorem abO:aM CX au QC/\aY CX au Jo:=fF aad.1 Jo Tryz.f110 ⟨110,1,27,4⟩ [] (fun _ _=>rfl) (fun _ _ _=>by kernel_rfl) trivial trivial (fun _ _ _ _ _=>by kernel_rfl)
def kP (m:Nat):Nat->T->T->T->T->(T->An)->(T->An)->An
 | 0,_,_,_,_,_,_=>.bad
 | n+1,x0,x1,x2,x3,k0,k1 =>
  cond (decide (x3.int<x2.int))
  (cond (decide ((0:Int)<=x3.int/\x3.int<(x1.rows.length:Int)))
  (Ki m ((x1.rows.getD (Int.toNat x3.int) []).getD 0 dflt) ((x1.rows.getD (Int.toNat x3.int) []).getD 1 dflt) ((x1.rows.getD (Int.toNat x3.int) []).getD 2 dflt)
  (fun y0=>cond ((!y0.bool)==false)
  (cond ((decide (x3.int > 0))==true)
  (cond (decide ((0:Int)<=(IntKind.i64.wrap (x3.int-1))/\(IntKind.i64.wrap (x3.int-1))<(x0.rows.length:Int)))
  (cond ((Op.bytesLess ((x1.rows.getD (Int.toNat x3.int) []).getD 1 dflt).str.toList (((x0.rows.getD (Int.toNat (IntKind.i64.wrap (x3.int-1))) []).drop 1).getD 0 dflt).str.toList)||(((x1.rows.getD (Int.toNat x3.int) []).getD 1 dflt).str.toList==(((x0.rows.getD (Int.toNat (IntKind.i64.wrap (x3.int-1))) []).drop 1).getD 0 dflt).str.toList))
  (k0 (T.b false))
  (kP m n x0 x1 x2 (T.i (IntKind.i64.wrap (x3.int+1))) k0 k1))
  (.bad))
  (kP m n x0 x1 x2 (T.i (IntKind.i64.wrap (x3.int+1))) k0 k1))
  (k0 (T.b false))))
  (.bad))
  (k1 x0)
def sU:Nat->T->(T->An)->An
 | 0,_,_=>.bad
 | m+1,x0,k0 =>
  kP m m (T.l x0.rows) (T.l x0.rows) (T.i (x0.rows.length:Int)) (T.i 0)
  (fun y2=>k0 y2)
  (fun y3=>dG m (T.i (y3.rows.length:Int)) (T.i 1) (T.i 8)
  (fun y4=>k0 y4))
def Gc:Fs:=⟨79,[.one (.dz tO [])],fun m vs k=>ap 1 (sU m) vs (lm 1 fun z=>k (bg ⟨[.one (RB)],[[none]],[none]⟩ z))⟩
def aae:List Ls:=[⟨[0,1,0,1],⟨[(0,.one (LD tO)),(5,.one (LD tO)),(6,.one (LI)),(7,.one (LI))],[([4000000],.gone)]⟩,fun m n vs k=>ap 4 (kP m n) vs (lm 1 fun z=>k .ret (aG ⟨[(2,.one (LB))],[]⟩ z)) (lm 1 fun z=>k (.exit 0) (aG ⟨[(0,.one (LD tO))],[([4000000],.gone)]⟩ z))⟩]
def Oh:List Fs:=Gc::QC
theorem aaf:aM CX au Oh/\aY CX au Gc:=fF abO.1 Gc Tryz.f79 ⟨79,1,34,4⟩ aae (fun _ _=>rfl) (fun _ _ _=>by kernel_rfl) ⟨fun _ _ _=>rfl,trivial⟩ ⟨fun _ _ _ _ _ _=>by kernel_rfl,trivial⟩ (fun _ _ _ _ _=>by kernel_rfl)
def nY (m:Nat):Nat->T->T->T->(T->An)->An
 | 0,_,_,_,_=>.bad
 | n+1,x0,x1,x2,k0 =>
  cond (decide (x2.int<(x0.str.size:Int)))
  (cond (decide ((0:Int)<=x2.int/\x2.int<(x0.str.size:Int)))
  (nY m n x0 (T.i (IntKind.u32.wrap ((kG .u32 (BitVec.ofInt IntKind.u32.bits x1.int ^^^ BitVec.ofInt IntKind.u32.bits (IntKind.u32.wrap ((x0.str.data.toList.getD (Int.toNat x2.int) 0).toNat:Int)))).int * 16777619))) (T.i (IntKind.i64.wrap (x2.int+1))) k0)
  (.bad))
  (k0 x1)
def PG:Nat->T->(T->An)->An
 | 0,_,_=>.bad
 | m+1,x0,k0 =>
  nY m m x0 (T.i 2166136261) (T.i 0)
  (fun y0=>k0 (T.i (IntKind.i64.wrap y0.int)))
def Jp:Fs:=⟨104,[.one (AS)],fun m vs k=>ap 1 (PG m) vs (lm 1 fun z=>k (bg ⟨[.one (RI)],[[none]],[none]⟩ z))⟩
def abP:List Ls:=[⟨[0,1,0,1,1],⟨[(0,.one (LS)),(3,.one (⟨.sc,.sc (.int .u32),.l []⟩)),(4,.one (LI))],[]⟩,fun m n vs k=>ap 3 (nY m n) vs (lm 1 fun z=>k (.exit 0) (aG ⟨[(3,.one (⟨.sc,.sc (.int .u32),.l []⟩))],[]⟩ z))⟩]
def QD:List Fs:=Jp::Oh
theorem abQ:aM CX au QD/\aY CX au Jp:=fF aaf.1 Jp Tryz.f104 ⟨104,1,21,4⟩ abP (fun _ _=>rfl) (fun _ _ _=>by kernel_rfl) ⟨fun _ _ _=>rfl,trivial⟩ ⟨fun _ _ _ _ _ _=>by kernel_rfl,trivial⟩ (fun _ _ _ _ _=>by kernel_rfl)
def uO:Nat->T->T->(T->An)->An
 | 0,_,_,_=>.bad
 | m+1,x0,x1,k0 =>
  cond (decide (x1.int<1))
  (k0 (T.i 0))
  (PG m x0
  (fun y0=>cond (!decide (x1.int=0))
  (k0 (T.i (Int.tmod y0.int x1.int)))
  (.bad)))
def Ay:Fs:=⟨69,[.one (AS),.one (AI)],fun m vs k=>ap 2 (uO m) vs (lm 1 fun z=>k (bg ⟨[.one (RI)],[[none],[none]],[none,none]⟩ z))⟩
def Jq:List Fs:=Ay::QD
theorem Va:aM CX au Jq/\aY CX au Ay:=fF abQ.1 Ay Tryz.f69 ⟨69,2,11,16⟩ [] (fun _ _=>rfl) (fun _ _ _=>by kernel_rfl) trivial trivial (fun _ _ _ _ _=>by kernel_rfl)
def oL:Nat->T->(T->An)->An
 | 0,_,_=>.bad
 | m+1,x0,k0 =>
  cond (decide ((0:Int)<=(x0.rows.length:Int)/\(x0.rows.length:Int)<=(x0.rows.length:Int)/\(x0.rows.length:Int)<=(x0.rows.length:Int)))
  (cond (decide ((0:Int)<=0/\0<=(x0.rows.length:Int)))
  (k0 (T.l (x0.rows.take (Int.toNat (x0.rows.length:Int)))))
  (.bad))
  (.bad)
def nJ:Fs:=⟨71,[.one (.fz tI [])],fun m vs k=>ap 1 (oL m) vs (lm 1 fun z=>k (bg ⟨[.one (.fz tI [])],[[none]],[none]⟩ z))⟩
def r9:List Fs:=nJ::Jq
theorem Dx:aM CX au r9/\aY CX au nJ:=fF Va.1 nJ Tryz.f71 ⟨71,1,9,4⟩ [] (fun _ _=>rfl) (fun _ _ _=>by kernel_rfl) trivial trivial (fun _ _ _ _ _=>by kernel_rfl)
def jc (m:Nat):Nat->T->T->T->T->T->(T->An)->An
 | 0,_,_,_,_,_,_=>.bad
 | n+1,x0,x1,x2,x3,x4,k0 =>
  cond (decide (x3.int<x2.int))
  (cond (decide ((0:Int)<=x3.int/\x3.int<(x1.rows.length:Int)))
  (uO m ((x1.rows.getD (Int.toNat x3.int) []).getD 1 dflt) x0
  (fun y0=>cond (decide ((x4.rows.length+1) * 1<=aD))
  (jc m n x0 x1 x2 (T.i (IntKind.i64.wrap (x3.int+1))) (T.l (x4.rows++[[y0]])) k0)
  (.bad)))
  (.bad))
  (k0 (T.l x4.rows))
def pO:Nat->T->T->(T->An)->An
 | 0,_,_,_=>.bad
 | m+1,x0,x1,k0 =>
  jc m m x1 (T.l x0.rows) (T.i (x0.rows.length:Int)) (T.i 0) (T.l [])
  (fun y1=>IU m (T.l y1.rows)
  (fun y2=>slices_Compact m (T.l y2.rows)
  (fun y3=>oL m (T.l y3.rows)
  (fun y4=>k0 (T.l y4.rows)))))
def yt:Fs:=⟨36,[.one (.dz tO []),.one (AI)],fun m vs k=>ap 2 (pO m) vs (lm 1 fun z=>k (bg ⟨[.one (.fz tI [])],[[none],[none]],[none,none]⟩ z))⟩
def Ry:List Ls:=[⟨[0,1,0,1,1],⟨[(1,.one (LI)),(5,.one (LA (KI 0) tI)),(8,.one (LD tO)),(9,.one (LI)),(10,.one (LI))],[((KI 0),.row tI [.F] []),([4000000],.gone)]⟩,fun m n vs k=>ap 5 (jc m n) vs (lm 1 fun z=>k (.exit 0) (aG ⟨[(5,.one (LA (KI 0) tI))],[((KI 0),.row tI [.F] [])]⟩ z))⟩]
def Ht:List Fs:=yt::r9
theorem Rz:aM CX au Ht/\aY CX au yt:=fF Dx.1 yt Tryz.f36 ⟨36,2,27,16⟩ Ry (fun _ _=>rfl) (fun _ _ _=>by kernel_rfl) ⟨fun _ _ _=>rfl,trivial⟩ ⟨fun _ _ _ _ _ _=>by kernel_rfl,trivial⟩ (fun _ _ _ _ _=>by kernel_rfl)
def cZ (m:Nat):Nat->T->T->T->T->(T->An)->An->An
 | 0,_,_,_,_,_,_=>.bad
 | n+1,x0,x1,x2,x3,k0,k1 =>
  cond (decide (x3.int<x2.int))
  (cond (decide ((0:Int)<=x3.int/\x3.int<(x0.rows.length:Int)))
  (cond (x1.int==((x0.rows.getD (Int.toNat x3.int) []).getD 0 dflt).int)
  (k0 x3)
  (cZ m n x0 x1 x2 (T.i (IntKind.i64.wrap (x3.int+1))) k0 k1))
  (.bad))
  (k1 )
def nZ:Nat->T->T->(T->An)->An
 | 0,_,_,_=>.bad
 | m+1,x0,x1,k0 =>
  cZ m m (T.l x0.rows) x1 (T.i (x0.rows.length:Int)) (T.i 0)
  (fun y0=>k0 y0)
  (k0 (T.i (-1)))
def mV:Fs:=⟨115,[.one (.dz tI []),.one (AI)],fun m vs k=>ap 2 (nZ m) vs (lm 1 fun z=>k (bg ⟨[.one (RI)],[[none],[none]],[none,none]⟩ z))⟩
def Bl:List Ls:=[⟨[0,1,0,1],⟨[(0,.one (LD tI)),(1,.one (LI)),(7,.one (LI)),(8,.one (LI))],[([4000000],.gone)]⟩,fun m n vs k=>ap 4 (cZ m n) vs (lm 1 fun z=>k .ret (aG ⟨[(4,.one (LI))],[]⟩ z)) (lm 0 fun z=>k (.exit 0) (aG ⟨[],[]⟩ z))⟩]
def rD:List Fs:=mV::Ht
theorem Bn:aM CX au rD/\aY CX au mV:=fF Rz.1 mV Tryz.f115 ⟨115,2,19,16⟩ Bl (fun _ _=>rfl) (fun _ _ _=>by kernel_rfl) ⟨fun _ _ _=>rfl,trivial⟩ ⟨fun _ _ _ _ _ _=>by kernel_rfl,trivial⟩ (fun _ _ _ _ _=>by kernel_rfl)
def gN:Nat->T->T->(T->An)->An
 | 0,_,_,_=>.bad
 | m+1,x0,x1,k0 =>
  nZ m (T.l x0.rows) x1
  (fun y0=>k0 (T.b (decide (y0.int>=0))))
def kQ:Fs:=⟨85,[.one (.dz tI []),.one (AI)],fun m vs k=>ap 2 (gN m) vs (lm 1 fun z=>k (bg ⟨[.one (RB)],[[none],[none]],[none,none]⟩ z))⟩
def o9:List Fs:=kQ::rD
theorem yu:aM CX au o9/\aY CX au kQ:=fF Bn.1 kQ Tryz.f85 ⟨85,2,9,16⟩ [] (fun _ _=>rfl) (fun _ _ _=>by kernel_rfl) trivial trivial (fun _ _ _ _ _=>by kernel_rfl)
def fM (m:Nat):Nat->T->T->T->T->T->T->T->T->T->T->(T->An)->(T->T->T->T->T->T->An)->An
 | 0,_,_,_,_,_,_,_,_,_,_,_,_=>.bad
 | n+1,x0,x1,x2,x3,x4,x5,x6,x7,x8,x9,k0,k1 =>
  cond (decide (x5.int<x4.int))
  ((fun (j10:T->An) =>
  cond (decide ((0:Int)<=x5.int/\x5.int<(x3.rows.length:Int)))
  (gN m (T.l x2.rows) ((x3.rows.getD (Int.toNat x5.int) []).getD 0 dflt)
  (fun y6=>cond ((!y6.bool)==false)
  (cond ((decide (x5.int > 0))==true)
  (cond (decide ((0:Int)<=(IntKind.i64.wrap (x5.int-1))/\(IntKind.i64.wrap (x5.int-1))<(x9.rows.length:Int)))
  (cond (decide (((x3.rows.getD (Int.toNat x5.int) []).getD 0 dflt).int<=((x9.rows.getD (Int.toNat (IntKind.i64.wrap (x5.int-1))) []).getD 0 dflt).int))
  (k0 (T.b false))
  (j10 (T.l [(cO x0)])))
  (.bad))
  (j10 (T.l [(cO x0)])))
  (k0 (T.b false))))
  (.bad))
  (fun y9=>fM m n (T.l [(cO y9)]) (T.i (x1.int.toNat:Int)) x2 x3 x4 (T.i (IntKind.i64.wrap (x5.int+1))) x6 x7 x8 x9 k0 k1))
  (k1 (T.l [(cO x0)]) (T.i (x1.int.toNat:Int)) x6 x7 x8 x9)
def qU:Nat->T->T->T->T->T->(T->An)->An
 | 0,_,_,_,_,_,_=>.bad
 | m+1,x0,x1,x2,x3,x4,k0 =>
  jn (fun (j21:T->An) =>
  jW m (T.l [((cO x0).take 6)])
  (fun y0=>dG m x1 (T.i (IntKind.i64.wrap ((((cO x0).drop 1).getD 0 dflt).int * 1000))) (T.i (IntKind.i64.wrap (y0.int-1)))
  (fun y1=>cond ((!y1.bool)==false)
  (sU m (T.l x2.rows)
  (fun y2=>cond (!y2.bool)
  (k0 (T.b false))
  (j21 (T.l [(cO x0)]))))
  (k0 (T.b false)))))
  (fun y4=>pO m (T.l x2.rows) ((cO y4).getD 0 dflt)
  (fun y5=>fM m m (T.l [(cO y4)]) (T.i 0) (T.l y5.rows) (T.l x4.rows) (T.i (x4.rows.length:Int)) (T.i 0) x1 (T.l x2.rows) x3 (T.l x4.rows)
  (fun ou=>k0 ou)
  (fun oF y13 pJ uh xE vL=>kY m (T.l [((cO oF).take 6)]) pJ
  (fun u7=>cond (xE.int==1)
  (k0 (T.b (decide (u7.int<0))))
  (cond (xE.int==2)
  (cond ((decide (u7.int>=0))==true)
  (cond (decide ((0:Int)<=u7.int/\u7.int<((((cO oF).drop 4).getD 0 dflt).rows.length:Int)))
  (k0 (T.b ((((((cO oF).drop 4).getD 0 dflt).rows.getD (Int.toNat u7.int) []).drop 1).getD 0 dflt).bool))
  (.bad))
  (k0 (T.b false)))
  (cond (xE.int==3)
  (cond ((decide (u7.int>=0))==true)
  (cond (decide ((0:Int)<=u7.int/\u7.int<((((cO oF).drop 4).getD 0 dflt).rows.length:Int)))
  (k0 (T.b (!((((((cO oF).drop 4).getD 0 dflt).rows.getD (Int.toNat u7.int) []).drop 1).getD 0 dflt).bool)))
  (.bad))
  (k0 (T.b false)))
  (k0 (T.b false))))))))
def sV:Fs:=⟨53,[.Ky [.sc (.int .i64),.sc (.int .i64),.sc (.int .i64),.sl tJ,.sl tC,.sc (.int .i64)] [],.agg [AI,.dz tO [],AI,.dz tI []]],fun m vs k=>ap 5 (qU m) vs (lm 1 fun z=>k (bg ⟨[.one (RB)],[[],[none,none,none,none]],[none,none]⟩ z))⟩
def Mi:List Ls:=[⟨[0,1,0,1,1,1],⟨[(0,.rp [([4000000],0)] [.sc (.int .i64),.sc (.int .i64),.sc (.int .i64),.sl tJ,.sl tC,.sc (.int .i64)] []),(3,EP 1),(5,.one (LZ tI)),(35,.one (LD tI)),(36,.one (LI)),(37,.one (LI))],[([4000000],.gone),((KI 1),.box [LI,LD tO,LI,LD tI])]⟩,fun m n vs k=>ap 10 (fM m n) vs (lm 1 fun z=>k .ret (aG ⟨[(4,.one (LB))],[]⟩ z)) (lm 6 fun z=>k (.exit 0) (aG ⟨[(0,.rp [([4000000],0)] [.sc (.int .i64),.sc (.int .i64),.sc (.int .i64),.sl tJ,.sl tC,.sc (.int .i64)] []),(3,EP 1)],[([4000000],.gone),((KI 1),.box [LI,LD tO,LI,LD tI])]⟩ z))⟩]
def Az:List Fs:=sV::o9
theorem Mj:aM CX au Az/\aY CX au sV:=fF yu.1 sV Tryz.f53 ⟨53,2,100,16⟩ Mi (fun _ _=>rfl) (fun _ _ _=>by kernel_rfl) ⟨fun _ _ _=>rfl,trivial⟩ ⟨fun _ _ _ _ _ _=>by kernel_rfl,trivial⟩ (fun _ _ _ _ _=>by kernel_rfl)
def gP (m:Nat):Nat->T->T->T->T->T->T->T->T->T->T->(T->An)->An->An
 | 0,_,_,_,_,_,_,_,_,_,_,_,_=>.bad
 | n+1,x0,x1,x2,x3,x4,x5,x6,x7,x8,x9,k0,k1 =>
  cond (decide (x3.int<x2.int))
  (cond (decide ((0:Int)<=x3.int/\x3.int<(x1.rows.length:Int)))
  (qU m (T.l [[x4,x5,x6,(T.l x7.rows),(T.l x8.rows),x9]]) ((x1.rows.getD (Int.toNat x3.int) []).getD 0 dflt) (T.l ((x1.rows.getD (Int.toNat x3.int) []).getD 1 dflt).rows) ((x1.rows.getD (Int.toNat x3.int) []).getD 2 dflt) (T.l ((x1.rows.getD (Int.toNat x3.int) []).getD 3 dflt).rows)
  (fun vL=>cond ((!vL.bool)==false)
  (cond ((decide (x3.int > 0))==true)
  (cond (decide ((0:Int)<=(IntKind.i64.wrap (x3.int-1))/\(IntKind.i64.wrap (x3.int-1))<(x7.rows.length:Int)))
  (cond (decide (((x1.rows.getD (Int.toNat x3.int) []).getD 0 dflt).int<=((x7.rows.getD (Int.toNat (IntKind.i64.wrap (x3.int-1))) []).getD 0 dflt).int))
  (k0 (T.b false))
  (gP m n (T.i (x0.int.toNat:Int)) x1 x2 (T.i (IntKind.i64.wrap (x3.int+1))) x4 x5 x6 x7 x8 x9 k0 k1))
  (.bad))
  (gP m n (T.i (x0.int.toNat:Int)) x1 x2 (T.i (IntKind.i64.wrap (x3.int+1))) x4 x5 x6 x7 x8 x9 k0 k1))
  (k0 (T.b false))))
  (.bad))
  (k1 )
def jX (m:Nat):Nat->T->T->T->T->T->T->T->T->T->T->(T->An)->(T->T->T->T->T->T->T->An)->An
 | 0,_,_,_,_,_,_,_,_,_,_,_,_=>.bad
 | n+1,x0,x1,x2,x3,x4,x5,x6,x7,x8,x9,k0,k1 =>
  cond (decide (x3.int<x2.int))
  (cond (decide ((0:Int)<=x3.int/\x3.int<(x1.rows.length:Int)))
  (jW m (T.l [[x4,x5,x6,(T.l x7.rows),(T.l x8.rows),x9]])
  (fun y5=>dG m ((x1.rows.getD (Int.toNat x3.int) []).getD 0 dflt) (T.i 1000) (T.i (IntKind.i64.wrap (y5.int-1)))
  (fun y6=>cond ((!y6.bool)==false)
  (kY m (T.l [[x4,x5,x6,(T.l x7.rows),(T.l x8.rows),x9]]) ((x1.rows.getD (Int.toNat x3.int) []).getD 0 dflt)
  (fun y7=>cond (y7.int != x3.int)
  (k0 (T.b false))
  (jX m n (T.i (x0.int.toNat:Int)) x1 x2 (T.i (IntKind.i64.wrap (x3.int+1))) x4 x5 x6 x7 x8 x9 k0 k1)))
  (k0 (T.b false)))))
  (.bad))
  (k1 (T.i (x0.int.toNat:Int)) x4 x5 x6 x7 x8 x9)
def yZ:Nat->T->T->T->T->T->T->(T->An)->An
 | 0,_,_,_,_,_,_,_=>.bad
 | m+1,x0,x1,x2,x3,x4,x5,k0 =>
  jn (fun (j20:An) =>
  dG m x0 (T.i 1) (T.i 8)
  (fun y0=>cond ((!y0.bool)==false)
  (dG m x1 (T.i 1) (T.i 900)
  (fun y1=>cond ((!y1.bool)==false)
  (dG m x2 (T.i 0) (T.i 999)
  (fun y2=>cond ((!y2.bool)==false)
  (cond ((decide ((x4.rows.length:Int) > 1000))==false)
  (dG m x5 (T.i 0) (T.i (x4.rows.length:Int))
  (fun y3=>cond (!y3.bool)
  (k0 (T.b false))
  (j20)))
  (k0 (T.b false)))
  (k0 (T.b false))))
  (k0 (T.b false))))
  (k0 (T.b false))))
  (jX m m (T.i 0) (T.l x4.rows) (T.i (x4.rows.length:Int)) (T.i 0) x0 x1 x2 (T.l x3.rows) (T.l x4.rows) x5
  (fun y9=>k0 y9)
  (fun nP ou oF y13 pJ uh xE=>gP m m (T.i (nP.int.toNat:Int)) pJ (T.i (pJ.rows.length:Int)) (T.i 0) ou oF y13 pJ uh xE
  (fun Ku=>k0 Ku)
  (k0 (T.b true))))
def AA:Fs:=⟨21,[.agg [AI,AI,AI,.dz tJ [],.dz tC [],AI]],fun m vs k=>ap 6 (yZ m) vs (lm 1 fun z=>k (bg ⟨[.one (RB)],[[none,none,none,none,none,none]],[none]⟩ z))⟩
def Vb:List Ls:=[⟨[0,1,0,1,1,1],⟨[(1,EP 0),(61,.one (LD tJ)),(62,.one (LI)),(63,.one (LI))],[((KI 0),.box [LI,LI,LI,LD tJ,LD tC,LI]),([4000000],.gone)]⟩,fun m n vs k=>ap 10 (gP m n) vs (lm 1 fun z=>k .ret (aG ⟨[(2,.one (LB))],[]⟩ z)) (lm 0 fun z=>k (.exit 2) (aG ⟨[],[]⟩ z))⟩,⟨[0,1,0,1,1],⟨[(1,EP 0),(39,.one (LD tC)),(40,.one (LI)),(41,.one (LI))],[((KI 0),.box [LI,LI,LI,LD tJ,LD tC,LI]),([4000000],.gone)]⟩,fun m n vs k=>ap 10 (jX m n) vs (lm 1 fun z=>k .ret (aG ⟨[(2,.one (LB))],[]⟩ z)) (lm 7 fun z=>k (.exit 0) (aG ⟨[(1,EP 0)],[((KI 0),.box [LI,LI,LI,LD tJ,LD tC,LI]),([4000000],.gone)]⟩ z))⟩]
def Jr:List Fs:=AA::Az
theorem Vd:aM CX au Jr/\aY CX au AA:=fF Mj.1 AA Tryz.f21 ⟨21,1,88,4⟩ Vb (fun _ _=>rfl) (fun _ _ _=>by kernel_rfl) ⟨fun _ _ _=>rfl,fun _ _ _=>rfl,trivial⟩ ⟨fun _ _ _ _ _ _=>by kernel_rfl,fun _ _ _ _ _ _=>by kernel_rfl,trivial⟩ (fun _ _ _ _ _=>by kernel_rfl)
def vT:Nat->T->(T->An)->An
 | 0,_,_=>.bad
 | m+1,x0,k0 =>
  dG m x0 (T.i 0) (T.i 7)
  (fun y0=>k0 y0)
def Js:Fs:=⟨73,[.one (AI)],fun m vs k=>ap 1 (vT m) vs (lm 1 fun z=>k (bg ⟨[.one (RB)],[[none]],[none]⟩ z))⟩
def QE:List Fs:=Js::Jr
theorem abR:aM CX au QE/\aY CX au Js:=fF Vd.1 Js Tryz.f73 ⟨73,1,5,4⟩ [] (fun _ _=>rfl) (fun _ _ _=>by kernel_rfl) trivial trivial (fun _ _ _ _ _=>by kernel_rfl)
def qV:Nat->T->(T->An)->An
 | 0,_,_=>.bad
 | m+1,x0,k0 =>
  dG m x0 (T.i 1) (T.i 1000000)
  (fun y0=>k0 y0)
def Jt:Fs:=⟨109,[.one (AI)],fun m vs k=>ap 1 (qV m) vs (lm 1 fun z=>k (bg ⟨[.one (RB)],[[none]],[none]⟩ z))⟩
def QF:List Fs:=Jt::QE
theorem abS:aM CX au QF/\aY CX au Jt:=fF abR.1 Jt Tryz.f109 ⟨109,1,5,4⟩ [] (fun _ _=>rfl) (fun _ _ _=>by kernel_rfl) trivial trivial (fun _ _ _ _ _=>by kernel_rfl)
def Gd:Nat->T->T->T->(T->An)->An
 | 0,_,_,_,_=>.bad
 | m+1,x0,x1,x2,k0 =>
  cond (x0.int==1)
  (qV m x1
  (fun y0=>cond (y0.bool==true)
  (sU m (T.l x2.rows)
  (fun y1=>k0 (T.b y1.bool)))
  (k0 (T.b false))))
  (cond (x0.int==2)
  (qV m x1
  (fun y6=>cond (y6.bool==true)
  (k0 (T.b ((x2.rows.length:Int)==0)))
  (k0 (T.b false))))
  (cond (x0.int==3)
  (qV m x1
  (fun y8=>cond (y8.bool==true)
  (k0 (T.b ((x2.rows.length:Int)==0)))
  (k0 (T.b false))))
  (k0 (T.b false))))
def Gf:Fs:=⟨107,[.agg [AI,AI,.dz tO []]],fun m vs k=>ap 3 (Gd m) vs (lm 1 fun z=>k (bg ⟨[.one (RB)],[[none,none,none]],[none]⟩ z))⟩
def Oi:List Fs:=Gf::QF
theorem aag:aM CX au Oi/\aY CX au Gf:=fF abS.1 Gf Tryz.f107 ⟨107,1,27,4⟩ [] (fun _ _=>rfl) (fun _ _ _=>by kernel_rfl) trivial trivial (fun _ _ _ _ _=>by kernel_rfl)
def ni (m:Nat):Nat->T->T->T->(T->An)->An->An
 | 0,_,_,_,_,_=>.bad
 | n+1,x0,x1,x2,k0,k1 =>
  cond (decide (x2.int>=0))
  (cond (decide ((0:Int)<=x2.int/\x2.int<(x0.rows.length:Int)))
  (cond ((((x0.rows.getD (Int.toNat x2.int) []).drop 1).getD 0 dflt).int==x1.int)
  (k0 x2)
  (ni m n x0 x1 (T.i (IntKind.i64.wrap (x2.int-1))) k0 k1))
  (.bad))
  (k1 )
def AJ:Nat->T->T->(T->An)->An
 | 0,_,_,_=>.bad
 | m+1,x0,x1,k0 =>
  ni m m (T.l x0.rows) x1 (T.i (IntKind.i64.wrap ((x0.rows.length:Int)-1)))
  (fun y0=>k0 y0)
  (k0 (T.i (-1)))
def Gg:Fs:=⟨141,[.one (.dz tR []),.one (AI)],fun m vs k=>ap 2 (AJ m) vs (lm 1 fun z=>k (bg ⟨[.one (RI)],[[none],[none]],[none,none]⟩ z))⟩
def aah:List Ls:=[⟨[0,1,0,1],⟨[(0,.one (LD tR)),(1,.one (LI)),(5,.one (LI))],[([4000000],.gone)]⟩,fun m n vs k=>ap 3 (ni m n) vs (lm 1 fun z=>k .ret (aG ⟨[(4,.one (LI))],[]⟩ z)) (lm 0 fun z=>k (.exit 0) (aG ⟨[],[]⟩ z))⟩]
def Oj:List Fs:=Gg::Oi
theorem aai:aM CX au Oj/\aY CX au Gg:=fF aag.1 Gg Tryz.f141 ⟨141,2,21,16⟩ aah (fun _ _=>rfl) (fun _ _ _=>by kernel_rfl) ⟨fun _ _ _=>rfl,trivial⟩ ⟨fun _ _ _ _ _ _=>by kernel_rfl,trivial⟩ (fun _ _ _ _ _=>by kernel_rfl)
def gX (m:Nat):Nat->T->T->T->T->T->T->T->T->T->T->T->T->T->T->(T->An)->(T->T->T->T->T->T->T->An)->An
 | 0,_,_,_,_,_,_,_,_,_,_,_,_,_,_,_,_=>.bad
 | n+1,x0,x1,x2,x3,x4,x5,x6,x7,x8,x9,x10,bH,fT,kX,k0,k1 =>
  cond (decide (x10.int<x9.int))
  (cond (decide ((0:Int)<=x10.int/\x10.int<(x8.rows.length:Int)))
  (cond (((x8.rows.getD (Int.toNat x10.int) []).getD 1 dflt).str.toList==fT.str.toList)
  (k0 (T.b true))
  (gX m n x0 (T.i (x1.int.toNat:Int)) x2 x3 x4 x5 x6 x7 x8 x9 (T.i (IntKind.i64.wrap (x10.int+1))) bH fT kX k0 k1))
  (.bad))
  (k1 x0 x2 x3 x4 x5 x6 x7)
def gY (m:Nat):Nat->T->T->T->T->T->T->T->(T->An)->(T->T->T->T->An)->An
 | 0,_,_,_,_,_,_,_,_,_=>.bad
 | n+1,x0,x1,x2,x3,x4,x5,x6,k0,k1 =>
  cond (decide (x6.int<x5.int))
  (cond (decide ((0:Int)<=x6.int/\x6.int<(x4.rows.length:Int)))
  (gX m n x0 (T.i 0) x1 x2 x3 x4 x5 x6 x0 (T.i (x0.rows.length:Int)) (T.i 0) ((x4.rows.getD (Int.toNat x6.int) []).getD 0 dflt) ((x4.rows.getD (Int.toNat x6.int) []).getD 1 dflt) ((x4.rows.getD (Int.toNat x6.int) []).getD 2 dflt)
  (fun y0=>k0 y0)
  (fun y1 y2 y3 y4 y5 y6 y7=>gY m n y1 y2 y3 y4 y5 y6 (T.i (IntKind.i64.wrap (y7.int+1))) k0 k1))
  (.bad))
  (k1 x0 x1 x2 x3)
def gZ (m:Nat):Nat->T->T->T->T->(T->An)->An->An
 | 0,_,_,_,_,_,_=>.bad
 | n+1,x0,x1,x2,x3,k0,k1 =>
  cond (decide (x3.int<x2.int))
  (cond (decide ((0:Int)<=x3.int/\x3.int<(x1.rows.length:Int)))
  (gY m n x0 x1 x2 x3 ((x1.rows.getD (Int.toNat x3.int) []).getD 2 dflt) (T.i (((x1.rows.getD (Int.toNat x3.int) []).getD 2 dflt).rows.length:Int)) (T.i 0)
  (fun y8=>k0 y8)
  (fun y9 nP ou oF=>gZ m n y9 nP ou (T.i (IntKind.i64.wrap (oF.int+1))) k0 k1))
  (.bad))
  (k1 )
def uP:Nat->T->T->(T->An)->An
 | 0,_,_,_=>.bad
 | m+1,x0,x1,k0 =>
  gZ m m (T.l x1.rows) (T.l x0.rows) (T.i (x0.rows.length:Int)) (T.i 0)
  (fun y13=>k0 y13)
  (k0 (T.b false))
def vU:Fs:=⟨142,[.one (.dz tR []),.one (.dz tO [])],fun m vs k=>ap 2 (uP m) vs (lm 1 fun z=>k (bg ⟨[.one (RB)],[[none],[none]],[none,none]⟩ z))⟩
def PI:List Ls:=[⟨[0,1,1,0,0,1,1,0,0,1,1,0,0,1,1,0,0,1,0,1],⟨[(1,.one (LD tO)),(8,EP 1),(11,.one (LD tR)),(12,.one (LI)),(13,.one (LI)),(18,.one (LD tO)),(19,.one (LI)),(20,.one (LI)),(24,.one (LD tO)),(25,.one (LI)),(26,.one (LI))],[([4000000],.gone),((KI 1),.box [LI,LS,LS])]⟩,fun m n vs k=>ap 14 (gX m n) vs (lm 1 fun z=>k .ret (aG ⟨[(4,.one (LB))],[]⟩ z)) (lm 7 fun z=>k (.exit 4) (aG ⟨[(1,.one (LD tO)),(11,.one (LD tR)),(12,.one (LI)),(13,.one (LI)),(18,.one (LD tO)),(19,.one (LI)),(20,.one (LI))],[([4000000],.gone)]⟩ z))⟩,⟨[0,1,1,0,0,1,1,0,0,1,0,1],⟨[(1,.one (LD tO)),(11,.one (LD tR)),(12,.one (LI)),(13,.one (LI)),(18,.one (LD tO)),(19,.one (LI)),(20,.one (LI))],[([4000000],.gone)]⟩,fun m n vs k=>ap 7 (gY m n) vs (lm 1 fun z=>k .ret (aG ⟨[(4,.one (LB))],[]⟩ z)) (lm 4 fun z=>k (.exit 2) (aG ⟨[(1,.one (LD tO)),(11,.one (LD tR)),(12,.one (LI)),(13,.one (LI))],[([4000000],.gone)]⟩ z))⟩,⟨[0,1,0,1],⟨[(1,.one (LD tO)),(11,.one (LD tR)),(12,.one (LI)),(13,.one (LI))],[([4000000],.gone)]⟩,fun m n vs k=>ap 4 (gZ m n) vs (lm 1 fun z=>k .ret (aG ⟨[(4,.one (LB))],[]⟩ z)) (lm 0 fun z=>k (.exit 0) (aG ⟨[],[]⟩ z))⟩]
def Es:List Fs:=vU::Oj
theorem PK:aM CX au Es/\aY CX au vU:=fF aai.1 vU Tryz.f142 ⟨142,2,38,16⟩ PI (fun _ _=>rfl) (fun _ _ _=>by kernel_rfl) ⟨fun _ _ _=>rfl,fun _ _ _=>rfl,fun _ _ _=>rfl,trivial⟩ ⟨fun _ _ _ _ _ _=>by kernel_rfl,fun _ _ _ _ _ _=>by kernel_rfl,fun _ _ _ _ _ _=>by kernel_rfl,trivial⟩ (fun _ _ _ _ _=>by kernel_rfl)
def Dy:Nat->T->T->T->(T->An)->An
 | 0,_,_,_,_=>.bad
 | m+1,x0,x1,x2,k0 =>
  k0 (T.b (x0.str.toList==((cO x2).getD 0 dflt).str.toList))
def yw:Fs:=⟨148,[.agg [AS,AS],.Ky tT []],fun m vs k=>ap 3 (Dy m) vs (lm 1 fun z=>k (bg ⟨[.one (RB)],[[none,none],[]],[none,none]⟩ z))⟩
def Hu:List Fs:=yw::Es
theorem RA:aM CX au Hu/\aY CX au yw:=fF PK.1 yw Tryz.f148 ⟨148,2,8,8⟩ [] (fun _ _=>rfl) (fun _ _ _=>by kernel_rfl) trivial trivial (fun _ _ _ _ _=>by kernel_rfl)
def aZ (m:Nat):Nat->T->T->T->T->(T->An)->An->An
 | 0,_,_,_,_,_,_=>.bad
 | n+1,x0,x1,x2,x3,k0,k1 =>
  cond (decide (x3.int<x2.int))
  (cond (decide ((0:Int)<=x3.int/\x3.int<(x0.rows.length:Int)))
  (Dy m ((x0.rows.getD (Int.toNat x3.int) []).getD 0 dflt) ((x0.rows.getD (Int.toNat x3.int) []).getD 1 dflt) (T.l [(cO x1)])
  (fun y0=>cond y0.bool
  (k0 x3)
  (aZ m n x0 (T.l [(cO x1)]) x2 (T.i (IntKind.i64.wrap (x3.int+1))) k0 k1)))
  (.bad))
  (k1 )
def dW:Nat->T->T->(T->An)->An
 | 0,_,_,_=>.bad
 | m+1,x0,x1,k0 =>
  aZ m m (T.l x0.rows) (T.l [(cO x1)]) (T.i (x0.rows.length:Int)) (T.i 0)
  (fun y1=>k0 y1)
  (k0 (T.i (-1)))
def dO:Fs:=⟨147,[.one (.dz tP []),.fn 148 [.Ky tT []]],fun m vs k=>ap 2 (dW m) vs (lm 1 fun z=>k (bg ⟨[.one (RI)],[[none],[]],[none,none]⟩ z))⟩
def pq:List Ls:=[⟨[0,1,0,1],⟨[(0,.one (LD tP)),(1,.fn 148 [.rp [([4000000],0)] tT []]),(7,.one (LI)),(8,.one (LI))],[([4000000],.gone)]⟩,fun m n vs k=>ap 4 (aZ m n) vs (lm 1 fun z=>k .ret (aG ⟨[(4,.one (LI))],[]⟩ z)) (lm 0 fun z=>k (.exit 0) (aG ⟨[],[]⟩ z))⟩]
def iE:List Fs:=dO::Hu
theorem pE:aM CX au iE/\aY CX au dO:=fF RA.1 dO Tryz.f147 ⟨147,2,19,16⟩ pq (fun _ _=>rfl) (fun _ _ _=>by kernel_rfl) ⟨fun _ _ _=>rfl,trivial⟩ ⟨fun _ _ _ _ _ _=>by kernel_rfl,trivial⟩ (fun _ _ _ _ _=>by kernel_rfl)
def xw:Nat->T->T->(T->An)->An
 | 0,_,_,_=>.bad
 | m+1,x0,x1,k0 =>
  dW m (T.l x0.rows) (T.l [[x1]])
  (fun y0=>k0 y0)
def Dz:Fs:=⟨111,[.one (.dz tP []),.one (AS)],fun m vs k=>ap 2 (xw m) vs (lm 1 fun z=>k (bg ⟨[.one (RI)],[[none],[none]],[none,none]⟩ z))⟩
def Lc:List Fs:=Dz::iE
theorem Xh:aM CX au Lc/\aY CX au Dz:=fF pE.1 Dz Tryz.f111 ⟨111,2,8,16⟩ [] (fun _ _=>rfl) (fun _ _ _=>by kernel_rfl) trivial trivial (fun _ _ _ _ _=>by kernel_rfl)
def Ci:Nat->T->T->(T->T->An)->An
 | 0,_,_,_=>.bad
 | m+1,x0,x1,k0 =>
  xw m (T.l x0.rows) x1
  (fun y0=>cond (decide (y0.int<0))
  (k0 (T.s (⟨#[]⟩:ByteArray)) (T.b false))
  (cond (decide ((0:Int)<=y0.int/\y0.int<(x0.rows.length:Int)))
  (k0 (((x0.rows.getD (Int.toNat y0.int) []).drop 1).getD 0 dflt) (T.b true))
  (.bad)))
def DC:Fs:=⟨171,[.one (.dz tP []),.one (AS)],fun m vs k=>ap 2 (Ci m) vs (lm 2 fun z=>k (bg ⟨[.one (RS),.one (RB)],[[none],[none]],[none,none]⟩ z))⟩
def Ld:List Fs:=DC::Lc
theorem Xi:aM CX au Ld/\aY CX au DC:=fF Xh.1 DC Tryz.f171 ⟨171,2,17,48⟩ [] (fun _ _=>rfl) (fun _ _ _=>by kernel_rfl) trivial trivial (fun _ _ _ _ _=>by kernel_rfl)
def kR (m:Nat):Nat->T->T->T->T->(T->An)->An->An
 | 0,_,_,_,_,_,_=>.bad
 | n+1,x0,x1,x2,x3,k0,k1 =>
  cond (decide (x3.int<x2.int))
  (cond (decide ((0:Int)<=x3.int/\x3.int<(x1.rows.length:Int)))
  (cond (((x1.rows.getD (Int.toNat x3.int) []).getD 0 dflt).int != 3)
  (kR m n x0 x1 x2 (T.i (IntKind.i64.wrap (x3.int+1))) k0 k1)
  (Ci m (T.l x0.rows) ((x1.rows.getD (Int.toNat x3.int) []).getD 1 dflt)
  (fun y0 y1=>cond ((!(y1.bool==(!(((x1.rows.getD (Int.toNat x3.int) []).getD 2 dflt).str.toList==(⟨#[]⟩:ByteArray).toList))))==false)
  (cond (!(y0.str.toList==((x1.rows.getD (Int.toNat x3.int) []).getD 2 dflt).str.toList))
  (k0 (T.b false))
  (kR m n x0 x1 x2 (T.i (IntKind.i64.wrap (x3.int+1))) k0 k1))
  (k0 (T.b false)))))
  (.bad))
  (k1 )
def Gi:Nat->T->T->(T->An)->An
 | 0,_,_,_=>.bad
 | m+1,x0,x1,k0 =>
  kR m m (T.l x0.rows) (T.l x1.rows) (T.i (x1.rows.length:Int)) (T.i 0)
  (fun y3=>k0 y3)
  (k0 (T.b true))
def Gj:Fs:=⟨143,[.one (.dz tP []),.one (.dz tO [])],fun m vs k=>ap 2 (Gi m) vs (lm 1 fun z=>k (bg ⟨[.one (RB)],[[none],[none]],[none,none]⟩ z))⟩
def aaj:List Ls:=[⟨[0,1,0,1],⟨[(0,.one (LD tP)),(9,.one (LD tO)),(10,.one (LI)),(11,.one (LI))],[([4000000],.gone)]⟩,fun m n vs k=>ap 4 (kR m n) vs (lm 1 fun z=>k .ret (aG ⟨[(4,.one (LB))],[]⟩ z)) (lm 0 fun z=>k (.exit 0) (aG ⟨[],[]⟩ z))⟩]
def Ol:List Fs:=Gj::Ld
theorem aak:aM CX au Ol/\aY CX au Gj:=fF Xi.1 Gj Tryz.f143 ⟨143,2,37,16⟩ aaj (fun _ _=>rfl) (fun _ _ _=>by kernel_rfl) ⟨fun _ _ _=>rfl,trivial⟩ ⟨fun _ _ _ _ _ _=>by kernel_rfl,trivial⟩ (fun _ _ _ _ _=>by kernel_rfl)
def lU (m:Nat):Nat->T->T->T->T->(T->T->T->T->An)->An
 | 0,_,_,_,_,_=>.bad
 | n+1,x0,x1,x2,x3,k0 =>
  cond ((decide (x2.int<(x3.rows.length:Int)))==true)
  (cond (decide ((0:Int)<=x2.int/\x2.int<(x3.rows.length:Int)))
  (cond (decide ((Int.toNat x2.int)<x3.rows.length))
  (cond ((Op.bytesLess ((x3.rows.getD (Int.toNat x2.int) []).getD 0 dflt).str.toList x0.str.toList)||(((x3.rows.getD (Int.toNat x2.int) []).getD 0 dflt).str.toList==x0.str.toList))
  (lU m n x0 x1 (T.i (IntKind.i64.wrap (x2.int+1))) (T.l x3.rows) k0)
  (k0 x0 x1 x2 (T.l x3.rows)))
  (.bad))
  (.bad))
  (k0 x0 x1 x2 (T.l x3.rows))
def Cj:Nat->T->T->T->(T->An)->An
 | 0,_,_,_,_=>.bad
 | m+1,x0,x1,x2,k0 =>
  xw m (T.l x0.rows) x1
  (fun y0=>cond (decide (y0.int>=0))
  (cond (decide ((0:Int)<=y0.int/\y0.int<(x0.rows.length:Int)))
  (cond (decide ((Int.toNat y0.int)<x0.rows.length))
  (k0 (T.l (x0.rows.set (Int.toNat y0.int) ((x0.rows.getD (Int.toNat y0.int) []).set 1 x2))))
  (.bad))
  (.bad))
  (lU m m x1 x2 (T.i 0) (T.l x0.rows)
  (fun y2 y3 y4 y5=>fH m (T.l y5.rows) y4 (T.l [[y2,y3]])
  (fun y6=>k0 (T.l y6.rows)))))
def DF:Fs:=⟨81,[.one (.own tP m2 []),.one (AS),.one (AS)],fun m vs k=>ap 3 (Cj m) vs (lm 1 fun z=>k (bg ⟨[.one (.own (KR 0 0) tP m2 [])],[[none],[none],[none]],[none,none,none]⟩ z))⟩
def Xj:List Ls:=[⟨[0,0,1,1,1],⟨[(0,.one (LA [0,0] tP)),(1,.one (LS)),(2,.one (LS)),(8,.one (LI))],[([0,0],.row tP m2 [])]⟩,fun m n vs k=>ap 4 (lU m n) vs (lm 4 fun z=>k (.exit 0) (aG ⟨[(0,.one (LA [0,0] tP)),(1,.one (LS)),(2,.one (LS)),(8,.one (LI))],[([0,0],.row tP m2 [])]⟩ z))⟩]
def Lf:List Fs:=DF::Ol
theorem Xk:aM CX au Lf/\aY CX au DF:=fF aak.1 DF Tryz.f81 ⟨81,3,42,65⟩ Xj (fun _ _=>rfl) (fun _ _ _=>by kernel_rfl) ⟨fun _ _ _=>rfl,trivial⟩ ⟨fun _ _ _ _ _ _=>by kernel_rfl,trivial⟩ (fun _ _ _ _ _=>by kernel_rfl)
def iF (m:Nat):Nat->T->T->T->T->(T->An)->An
 | 0,_,_,_,_,_=>.bad
 | n+1,x0,x1,x2,x3,k0 =>
  cond (decide (x2.int<x1.int))
  (cond (decide ((0:Int)<=x2.int/\x2.int<(x0.rows.length:Int)))
  (cond (((x0.rows.getD (Int.toNat x2.int) []).getD 0 dflt).int==1)
  (Cj m (T.l x3.rows) ((x0.rows.getD (Int.toNat x2.int) []).getD 1 dflt) ((x0.rows.getD (Int.toNat x2.int) []).getD 2 dflt)
  (fun y1=>iF m n x0 x1 (T.i (IntKind.i64.wrap (x2.int+1))) (T.l y1.rows) k0))
  (cond (((x0.rows.getD (Int.toNat x2.int) []).getD 0 dflt).int==2)
  (BP m (T.l x3.rows) ((x0.rows.getD (Int.toNat x2.int) []).getD 1 dflt)
  (fun y2=>iF m n x0 x1 (T.i (IntKind.i64.wrap (x2.int+1))) (T.l y2.rows) k0))
  (iF m n x0 x1 (T.i (IntKind.i64.wrap (x2.int+1))) (T.l x3.rows) k0)))
  (.bad))
  (k0 (T.l x3.rows))
def Gl:Nat->T->T->(T->An)->An
 | 0,_,_,_=>.bad
 | m+1,x0,x1,k0 =>
  dJ m (T.l x0.rows)
  (fun y0=>iF m m (T.l x1.rows) (T.i (x1.rows.length:Int)) (T.i 0) (T.l y0.rows)
  (fun y6=>k0 (T.l y6.rows)))
def Gm:Fs:=⟨50,[.one (.dz tP []),.one (.dz tO [])],fun m vs k=>ap 2 (Gl m) vs (lm 1 fun z=>k (bg ⟨[.one (.own (KR 0 0) tP m2 [])],[[none],[none]],[none,none]⟩ z))⟩
def aal:List Ls:=[⟨[0,1,0,1,1],⟨[(5,.one (LA (KI 0) tP)),(10,.one (LD tO)),(11,.one (LI)),(12,.one (LI))],[((KI 0),.row tP m2 []),([4000000],.gone)]⟩,fun m n vs k=>ap 4 (iF m n) vs (lm 1 fun z=>k (.exit 0) (aG ⟨[(5,.one (LA (KI 0) tP))],[((KI 0),.row tP m2 [])]⟩ z))⟩]
def Om:List Fs:=Gm::Lf
theorem aam:aM CX au Om/\aY CX au Gm:=fF Xk.1 Gm Tryz.f50 ⟨50,2,34,16⟩ aal (fun _ _=>rfl) (fun _ _ _=>by kernel_rfl) ⟨fun _ _ _=>rfl,trivial⟩ ⟨fun _ _ _ _ _ _=>by kernel_rfl,trivial⟩ (fun _ _ _ _ _=>by kernel_rfl)
def sJ:Nat->T->T->T->T->T->T->(T->T->T->An)->(T->T->T->T->An)->An
 | 0,_,_,_,_,_,_,_,_=>.bad
 | m+1,x0,x1,x2,x3,x4,x5,k0,k1 =>
  AJ m (T.l x5.rows) x3
  (fun y0=>cond (x2.int==1)
  ((fun (j5:An) =>
  cond ((decide (y0.int>=0))==false)
  (uP m (T.l x1.rows) (T.l x4.rows)
  (fun y1=>cond (y1.bool==false)
  (Gi m (T.l x0.rows) (T.l x4.rows)
  (fun y2=>cond (!y2.bool)
  (k0 (T.b false) (T.l x0.rows) (T.l x1.rows))
  (j5)))
  (k0 (T.b false) (T.l x0.rows) (T.l x1.rows))))
  (k0 (T.b false) (T.l x0.rows) (T.l x1.rows)))
  (eD m (T.l x4.rows)
  (fun y4=>cond (decide ((x1.rows.length+1) * 3<=aD))
  (k0 (T.b true) (T.l x0.rows) (T.l (x1.rows++[[(T.i 1),x3,(T.l y4.rows)]])))
  (.bad))))
  (AJ m (T.l x1.rows) x3
  (fun y6=>cond (decide (y6.int<0))
  (cond ((x2.int==3)==true)
  (k0 (T.b (!(decide (y0.int>=0)))) (T.l x0.rows) (T.l x1.rows))
  (k0 (T.b false) (T.l x0.rows) (T.l x1.rows)))
  (cond (x2.int==2)
  (cond (decide ((0:Int)<=y6.int/\y6.int<(x1.rows.length:Int)))
  (cond (decide ((Int.toNat y6.int)<x1.rows.length))
  (Gl m (T.l x0.rows) (T.l ((x1.rows.getD (Int.toNat y6.int) []).getD 2 dflt).rows)
  (fun y8=>bW m (T.l x1.rows) y6 (T.i (IntKind.i64.wrap (y6.int+1)))
  (fun y9=>k1 (T.b (decide ((y8.rows.length:Int)<=60))) (T.l x0.rows) (T.l y8.rows) (T.l y9.rows))))
  (.bad))
  (.bad))
  (bW m (T.l x1.rows) y6 (T.i (IntKind.i64.wrap (y6.int+1)))
  (fun nP=>k0 (T.b (decide ((x0.rows.length:Int)<=60))) (T.l x0.rows) (T.l nP.rows)))))))
def uQ:Fs:=⟨108,[.bx [.own tP m2 [],.own tR m3 []],.agg [AI,AI,.dz tO []],.one (.dz tR [])],fun m vs k=>ap 6 (sJ m) vs (lm 3 fun z=>k (bg ⟨[.one (RB)],[[none,none],[none,none,none],[none]],[some [.own (KR 1000 0) tP m2 [],.own (KR 1000 1) tR m3 []],none,none]⟩ z)) (lm 4 fun z=>k (bg ⟨[.one (RB)],[[some (tP,m2,[]),none],[none,none,none],[none]],[some [.own (KR 1000 0) tP m2 [],.own (KR 1000 1) tR m3 []],none,none]⟩ z))⟩
def Ck:List Fs:=uQ::Om
theorem Oo:aM CX au Ck/\aY CX au uQ:=fF aam.1 uQ Tryz.f108 ⟨108,3,104,65⟩ [] (fun _ _=>rfl) (fun _ _ _=>by kernel_rfl) trivial trivial (fun _ _ _ _ _=>by kernel_rfl)
def eP (m:Nat):Nat->T->T->T->T->T->T->T->(T->T->T->An)->(T->T->T->An)->An
 | 0,_,_,_,_,_,_,_,_,_=>.bad
 | n+1,x0,x1,x2,x3,x4,x5,x6,k0,k1 =>
  cond (decide (x4.int<x3.int))
  ((fun (j15:T->T->An) =>
  cond (decide ((0:Int)<=x4.int/\x4.int<(x2.rows.length:Int)))
  (Gd m ((x2.rows.getD (Int.toNat x4.int) []).getD 0 dflt) ((x2.rows.getD (Int.toNat x4.int) []).getD 1 dflt) (T.l ((x2.rows.getD (Int.toNat x4.int) []).getD 2 dflt).rows)
  (fun y0=>cond ((!y0.bool)==false)
  (cond (decide ((0:Int)<=x4.int/\x4.int<=(x0.rows.length:Int)))
  (cond (decide ((0:Int)<=0/\0<=x4.int))
  (sJ m (T.l x5.rows) (T.l x6.rows) ((x2.rows.getD (Int.toNat x4.int) []).getD 0 dflt) ((x2.rows.getD (Int.toNat x4.int) []).getD 1 dflt) (T.l ((x2.rows.getD (Int.toNat x4.int) []).getD 2 dflt).rows) (T.l (x0.rows.take (Int.toNat x4.int)))
  (fun y1 y2 y3=>cond (!y1.bool)
  (k0 (T.b false) (T.l []) (T.l []))
  (j15 (T.l y2.rows) (T.l y3.rows)))
  (fun y4 y5 y6 y7=>cond (!y4.bool)
  (k0 (T.b false) (T.l []) (T.l []))
  (j15 (T.l y6.rows) (T.l y7.rows))))
  (.bad))
  (.bad))
  (k0 (T.b false) (T.l []) (T.l []))))
  (.bad))
  (fun y13 pJ=>eP m n x0 (T.i (x1.int.toNat:Int)) x2 x3 (T.i (IntKind.i64.wrap (x4.int+1))) (T.l y13.rows) (T.l pJ.rows) k0 k1))
  (k1 (T.i (x1.int.toNat:Int)) (T.l x5.rows) (T.l x6.rows))
def sK:Nat->T->(T->T->T->An)->An
 | 0,_,_=>.bad
 | m+1,x0,k0 =>
  eP m m (T.l x0.rows) (T.i 0) (T.l x0.rows) (T.i (x0.rows.length:Int)) (T.i 0) (T.l []) (T.l [])
  (fun xE vL u7=>k0 (T.l vL.rows) (T.l u7.rows) xE)
  (fun Ku y20 y21=>k0 (T.l y20.rows) (T.l y21.rows) (T.b true))
def uR:Fs:=⟨74,[.one (.dz tR [])],fun m vs k=>ap 1 (sK m) vs (lm 3 fun z=>k (bg ⟨[.one (.own (KR 0 0) tP m2 []),.one (.own (KR 1 0) tR m3 []),.one (RB)],[[none]],[none]⟩ z))⟩
def Oq:List Ls:=[⟨[0,1,0,1,1],⟨[(0,.one (LD tR)),(5,EP 1),(8,.one (LD tR)),(9,.one (LI)),(10,.one (LI))],[([4000000],.gone),((KI 1),.box [LA (KI 2) tP,LA (KI 3) tR]),((KI 2),.row tP m2 []),((KI 3),.row tR m3 [])]⟩,fun m n vs k=>ap 7 (eP m n) vs (lm 3 fun z=>k .ret (aG ⟨[(2,.one (LA (KI 0) tP)),(3,.one (LA (KI 1) tR)),(4,.one (LB))],[((KI 0),.row tP m2 []),((KI 1),.row tR m3 [])]⟩ z)) (lm 3 fun z=>k (.exit 0) (aG ⟨[(5,EP 0)],[((KI 0),.box [LA (KI 1) tP,LA (KI 2) tR]),((KI 1),.row tP m2 []),((KI 2),.row tR m3 [])]⟩ z))⟩]
def Cm:List Fs:=uR::Ck
theorem Ot:aM CX au Cm/\aY CX au uR:=fF Oo.1 uR Tryz.f74 ⟨74,1,31,28⟩ Oq (fun _ _=>rfl) (fun _ _ _=>by kernel_rfl) ⟨fun _ _ _=>rfl,trivial⟩ ⟨fun _ _ _ _ _ _=>by kernel_rfl,trivial⟩ (fun _ _ _ _ _=>by kernel_rfl)
def bF (m:Nat):Nat->T->T->T->T->(T->An)->An->An
 | 0,_,_,_,_,_,_=>.bad
 | n+1,x0,x1,x2,x3,k0,k1 =>
  cond (decide (x3.int<x2.int))
  (cond (decide ((0:Int)<=x3.int/\x3.int<(x0.rows.length:Int)))
  (cond (decide ((0:Int)<=x3.int/\x3.int<(x1.rows.length:Int)))
  (cond (!((((x0.rows.getD (Int.toNat x3.int) []).getD 0 dflt).str.toList==((x1.rows.getD (Int.toNat x3.int) []).getD 0 dflt).str.toList)&&((((x0.rows.getD (Int.toNat x3.int) []).getD 1 dflt).str.toList==((x1.rows.getD (Int.toNat x3.int) []).getD 1 dflt).str.toList)&&true)))
  (k0 (T.b false))
  (bF m n x0 x1 x2 (T.i (IntKind.i64.wrap (x3.int+1))) k0 k1))
  (.bad))
  (.bad))
  (k1 )
def dK:Nat->T->T->(T->An)->An
 | 0,_,_,_=>.bad
 | m+1,x0,x1,k0 =>
  cond ((x0.rows.length:Int) != (x1.rows.length:Int))
  (k0 (T.b false))
  (bF m m (T.l x0.rows) (T.l x1.rows) (T.i (x0.rows.length:Int)) (T.i 0)
  (fun y0=>k0 y0)
  (k0 (T.b true)))
def fA:Fs:=⟨75,[.one (.dz tP []),.one (.dz tP [])],fun m vs k=>ap 2 (dK m) vs (lm 1 fun z=>k (bg ⟨[.one (RB)],[[none],[none]],[none,none]⟩ z))⟩
def qW:List Ls:=[⟨[0,1,0,1,1],⟨[(0,.one (LD tP)),(1,.one (LD tP)),(12,.one (LI)),(13,.one (LI))],[([4000000],.gone)]⟩,fun m n vs k=>ap 4 (bF m n) vs (lm 1 fun z=>k .ret (aG ⟨[(4,.one (LB))],[]⟩ z)) (lm 0 fun z=>k (.exit 0) (aG ⟨[],[]⟩ z))⟩]
def jY:List Fs:=fA::Cm
theorem qX:aM CX au jY/\aY CX au fA:=fF Ot.1 fA Tryz.f75 ⟨75,2,26,16⟩ qW (fun _ _=>rfl) (fun _ _ _=>by kernel_rfl) ⟨fun _ _ _=>rfl,trivial⟩ ⟨fun _ _ _ _ _ _=>by kernel_rfl,trivial⟩ (fun _ _ _ _ _=>by kernel_rfl)
def bL (m:Nat):Nat->T->T->T->T->(T->An)->An->An
 | 0,_,_,_,_,_,_=>.bad
 | n+1,x0,x1,x2,x3,k0,k1 =>
  cond (decide (x3.int<x2.int))
  (cond (decide ((0:Int)<=x3.int/\x3.int<(x0.rows.length:Int)))
  (cond (decide ((0:Int)<=x3.int/\x3.int<(x1.rows.length:Int)))
  (cond (!((((x0.rows.getD (Int.toNat x3.int) []).getD 0 dflt).int==((x1.rows.getD (Int.toNat x3.int) []).getD 0 dflt).int)&&((((x0.rows.getD (Int.toNat x3.int) []).getD 1 dflt).str.toList==((x1.rows.getD (Int.toNat x3.int) []).getD 1 dflt).str.toList)&&((((x0.rows.getD (Int.toNat x3.int) []).getD 2 dflt).str.toList==((x1.rows.getD (Int.toNat x3.int) []).getD 2 dflt).str.toList)&&true))))
  (k0 (T.b false))
  (bL m n x0 x1 x2 (T.i (IntKind.i64.wrap (x3.int+1))) k0 k1))
  (.bad))
  (.bad))
  (k1 )
def bR:Nat->T->T->(T->An)->An
 | 0,_,_,_=>.bad
 | m+1,x0,x1,k0 =>
  cond ((x0.rows.length:Int) != (x1.rows.length:Int))
  (k0 (T.b false))
  (bL m m (T.l x0.rows) (T.l x1.rows) (T.i (x0.rows.length:Int)) (T.i 0)
  (fun y0=>k0 y0)
  (k0 (T.b true)))
def gI:Fs:=⟨34,[.one (.dz tO []),.one (.dz tO [])],fun m vs k=>ap 2 (bR m) vs (lm 1 fun z=>k (bg ⟨[.one (RB)],[[none],[none]],[none,none]⟩ z))⟩
def uj:List Ls:=[⟨[0,1,0,1,1],⟨[(0,.one (LD tO)),(1,.one (LD tO)),(12,.one (LI)),(13,.one (LI))],[([4000000],.gone)]⟩,fun m n vs k=>ap 4 (bL m n) vs (lm 1 fun z=>k .ret (aG ⟨[(4,.one (LB))],[]⟩ z)) (lm 0 fun z=>k (.exit 0) (aG ⟨[],[]⟩ z))⟩]
def mP:List Fs:=gI::jY
theorem um:aM CX au mP/\aY CX au gI:=fF qX.1 gI Tryz.f34 ⟨34,2,26,16⟩ uj (fun _ _=>rfl) (fun _ _ _=>by kernel_rfl) ⟨fun _ _ _=>rfl,trivial⟩ ⟨fun _ _ _ _ _ _=>by kernel_rfl,trivial⟩ (fun _ _ _ _ _=>by kernel_rfl)
def za:Nat->T->T->T->T->T->T->(T->An)->An
 | 0,_,_,_,_,_,_,_=>.bad
 | m+1,x0,x1,x2,x3,x4,x5,k0 =>
  cond ((x0.int==x3.int)==true)
  (cond ((x1.int==x4.int)==true)
  (bR m (T.l x2.rows) (T.l x5.rows)
  (fun y0=>k0 (T.b y0.bool)))
  (k0 (T.b false)))
  (k0 (T.b false))
def AO:Fs:=⟨77,[.agg [AI,AI,.dz tO []],.agg [AI,AI,.dz tO []]],fun m vs k=>ap 6 (za m) vs (lm 1 fun z=>k (bg ⟨[.one (RB)],[[none,none,none],[none,none,none]],[none,none]⟩ z))⟩
def Ju:List Fs:=AO::mP
theorem Ve:aM CX au Ju/\aY CX au AO:=fF um.1 AO Tryz.f77 ⟨77,2,24,16⟩ [] (fun _ _=>rfl) (fun _ _ _=>by kernel_rfl) trivial trivial (fun _ _ _ _ _=>by kernel_rfl)
def aN (m:Nat):Nat->T->T->T->T->(T->An)->An->An
 | 0,_,_,_,_,_,_=>.bad
 | n+1,x0,x1,x2,x3,k0,k1 =>
  cond (decide (x3.int<x2.int))
  (cond (decide ((0:Int)<=x3.int/\x3.int<(x1.rows.length:Int)))
  (cond (decide ((0:Int)<=x3.int/\x3.int<(x0.rows.length:Int)))
  (za m ((x1.rows.getD (Int.toNat x3.int) []).getD 0 dflt) ((x1.rows.getD (Int.toNat x3.int) []).getD 1 dflt) (T.l ((x1.rows.getD (Int.toNat x3.int) []).getD 2 dflt).rows) ((x0.rows.getD (Int.toNat x3.int) []).getD 0 dflt) ((x0.rows.getD (Int.toNat x3.int) []).getD 1 dflt) (T.l ((x0.rows.getD (Int.toNat x3.int) []).getD 2 dflt).rows)
  (fun y0=>cond (!y0.bool)
  (k0 (T.b false))
  (aN m n x0 x1 x2 (T.i (IntKind.i64.wrap (x3.int+1))) k0 k1)))
  (.bad))
  (.bad))
  (k1 )
def bB:Nat->T->T->(T->An)->An
 | 0,_,_,_=>.bad
 | m+1,x0,x1,k0 =>
  cond ((x0.rows.length:Int) != (x1.rows.length:Int))
  (k0 (T.b false))
  (aN m m (T.l x1.rows) (T.l x0.rows) (T.i (x0.rows.length:Int)) (T.i 0)
  (fun y1=>k0 y1)
  (k0 (T.b true)))
def bO:Fs:=⟨76,[.one (.dz tR []),.one (.dz tR []),.fn 77 []],fun m vs k=>ap 2 (bB m) vs (lm 1 fun z=>k (bg ⟨[.one (RB)],[[none],[none],[]],[none,none,none]⟩ z))⟩
def iM:List Ls:=[⟨[0,1,0,1,1],⟨[(1,.one (LD tR)),(2,.fn 77 []),(15,.one (LD tR)),(16,.one (LI)),(17,.one (LI))],[([4000000],.gone)]⟩,fun m n vs k=>ap 4 (aN m n) vs (lm 1 fun z=>k .ret (aG ⟨[(6,.one (LB))],[]⟩ z)) (lm 0 fun z=>k (.exit 0) (aG ⟨[],[]⟩ z))⟩]
def dF:List Fs:=bO::Ju
theorem iN:aM CX au dF/\aY CX au bO:=fF Ve.1 bO Tryz.f76 ⟨76,3,32,64⟩ iM (fun _ _=>rfl) (fun _ _ _=>by kernel_rfl) ⟨fun _ _ _=>rfl,trivial⟩ ⟨fun _ _ _ _ _ _=>by kernel_rfl,trivial⟩ (fun _ _ _ _ _=>by kernel_rfl)
def ze:Nat->T->T->T->T->T->(T->An)->An
 | 0,_,_,_,_,_,_=>.bad
 | m+1,x0,x1,x2,x3,x4,k0 =>
  jn (fun (j9:An) =>
  vT m x0
  (fun y0=>cond ((!y0.bool)==false)
  (dG m x2 (T.i 0) (T.i (x1.rows.length:Int))
  (fun y1=>cond ((!y1.bool)==false)
  (cond (decide ((IntKind.i64.wrap ((x1.rows.length:Int)+(x4.rows.length:Int))) > 300))
  (k0 (T.b false))
  (j9))
  (k0 (T.b false))))
  (k0 (T.b false))))
  (sK m (T.l x1.rows)
  (fun y3 y4 y5=>cond (y5.bool==true)
  (dK m (T.l y3.rows) (T.l x3.rows)
  (fun y6=>cond (y6.bool==true)
  (bB m (T.l y4.rows) (T.l x4.rows)
  (fun y7=>k0 (T.b y7.bool)))
  (k0 (T.b false))))
  (k0 (T.b false))))
def AP:Fs:=⟨38,[.agg [AI,.dz tR [],AI,.dz tP [],.dz tR []]],fun m vs k=>ap 5 (ze m) vs (lm 1 fun z=>k (bg ⟨[.one (RB)],[[none,none,none,none,none]],[none]⟩ z))⟩
def Jv:List Fs:=AP::dF
theorem Vf:aM CX au Jv/\aY CX au AP:=fF iN.1 AP Tryz.f38 ⟨38,1,49,4⟩ [] (fun _ _=>rfl) (fun _ _ _=>by kernel_rfl) trivial trivial (fun _ _ _ _ _=>by kernel_rfl)
def Cn:Nat->T->T->T->T->T->(T->An)->An
 | 0,_,_,_,_,_,_=>.bad
 | m+1,x0,x1,x2,x3,x4,k0 =>
  jn (fun (j8:An) =>
  vT m x1
  (fun y0=>cond ((!y0.bool)==false)
  (qV m x2
  (fun y1=>cond (!y1.bool)
  (k0 (T.b false))
  (j8)))
  (k0 (T.b false))))
  (cond (x0.int==1)
  (sU m (T.l x3.rows)
  (fun y3=>cond (y3.bool==true)
  (k0 (T.b (!x4.bool)))
  (k0 (T.b false))))
  ((fun (j7:T->An) =>
  cond (x0.int==2)
  (j7 (T.b true))
  (j7 (T.b (x0.int==3))))
  (fun y5=>cond y5.bool
  (k0 (T.b ((x3.rows.length:Int)==0)))
  (cond (x0.int==4)
  (cond (((x3.rows.length:Int)==0)==true)
  (k0 (T.b (!x4.bool)))
  (k0 (T.b false)))
  (k0 (T.b false))))))
def DI:Fs:=⟨78,[.agg [AI,AI,AI,.dz tO [],AB]],fun m vs k=>ap 5 (Cn m) vs (lm 1 fun z=>k (bg ⟨[.one (RB)],[[none,none,none,none,none]],[none]⟩ z))⟩
def Lg:List Fs:=DI::Jv
theorem Xl:aM CX au Lg/\aY CX au DI:=fF Vf.1 DI Tryz.f78 ⟨78,1,43,4⟩ [] (fun _ _=>rfl) (fun _ _ _=>by kernel_rfl) trivial trivial (fun _ _ _ _ _=>by kernel_rfl)
def dZ (m:Nat):Nat->T->T->T->T->T->(T->An)->(T->An)->An
 | 0,_,_,_,_,_,_,_=>.bad
 | n+1,x0,x1,x2,x3,x4,k0,k1 =>
  cond (decide (x4.int<x3.int))
  (cond (decide ((0:Int)<=x4.int/\x4.int<(x2.rows.length:Int)))
  (Cn m ((x2.rows.getD (Int.toNat x4.int) []).getD 0 dflt) ((x2.rows.getD (Int.toNat x4.int) []).getD 1 dflt) ((x2.rows.getD (Int.toNat x4.int) []).getD 2 dflt) (T.l ((x2.rows.getD (Int.toNat x4.int) []).getD 3 dflt).rows) ((x2.rows.getD (Int.toNat x4.int) []).getD 4 dflt)
  (fun y0=>cond ((!y0.bool)==false)
  (cond (decide (((x2.rows.getD (Int.toNat x4.int) []).getD 1 dflt).int>=((((cO x0).drop 6).getD 0 dflt).rows.length:Int)))
  (k0 (T.b false))
  (dZ m n (T.l [(cO x0)]) x1 x2 x3 (T.i (IntKind.i64.wrap (x4.int+1))) k0 k1))
  (k0 (T.b false))))
  (.bad))
  (k1 x1)
def mD:Nat->T->T->(T->An)->An
 | 0,_,_,_=>.bad
 | m+1,x0,x1,k0 =>
  dZ m m (T.l [(cO x0)]) (T.l x1.rows) (T.l x1.rows) (T.i (x1.rows.length:Int)) (T.i 0)
  (fun y4=>k0 y4)
  (fun y5=>k0 (T.b (decide ((y5.rows.length:Int)<=400))))
def qy:Fs:=⟨39,[.Ky [.sc (.int .i64),.sc (.int .i64),.sc (.int .i64),.sl tJ,.sl tC,.sc (.int .i64),.sl tS,.sl tW,.sl tW,.sl tB] [],.one (.dz tW [])],fun m vs k=>ap 2 (mD m) vs (lm 1 fun z=>k (bg ⟨[.one (RB)],[[],[none]],[none,none]⟩ z))⟩
def Jw:List Ls:=[⟨[0,1,0,1],⟨[(0,.rp [([4000000],0)] [.sc (.int .i64),.sc (.int .i64),.sc (.int .i64),.sl tJ,.sl tC,.sc (.int .i64),.sl tS,.sl tW,.sl tW,.sl tB] []),(1,.one (LD tW)),(7,.one (LD tW)),(8,.one (LI)),(9,.one (LI))],[([4000000],.gone)]⟩,fun m n vs k=>ap 5 (dZ m n) vs (lm 1 fun z=>k .ret (aG ⟨[(4,.one (LB))],[]⟩ z)) (lm 1 fun z=>k (.exit 0) (aG ⟨[(1,.one (LD tW))],[([4000000],.gone)]⟩ z))⟩]
def xA:List Fs:=qy::Lg
theorem Jy:aM CX au xA/\aY CX au qy:=fF Xl.1 qy Tryz.f39 ⟨39,2,30,16⟩ Jw (fun _ _=>rfl) (fun _ _ _=>by kernel_rfl) ⟨fun _ _ _=>rfl,trivial⟩ ⟨fun _ _ _ _ _ _=>by kernel_rfl,trivial⟩ (fun _ _ _ _ _=>by kernel_rfl)
def qz:Nat->T->T->T->(T->An)->An
 | 0,_,_,_,_=>.bad
 | m+1,x0,x1,x2,k0 =>
  k0 (T.b (x0.int==((cO x2).getD 0 dflt).int))
def oM:Fs:=⟨68,[.agg [AI,.dz tO []],.Ky tI []],fun m vs k=>ap 3 (qz m) vs (lm 1 fun z=>k (bg ⟨[.one (RB)],[[none,none],[]],[none,none]⟩ z))⟩
def uS:List Fs:=oM::xA
theorem Gn:aM CX au uS/\aY CX au oM:=fF Jy.1 oM Tryz.f68 ⟨68,2,8,8⟩ [] (fun _ _=>rfl) (fun _ _ _=>by kernel_rfl) trivial trivial (fun _ _ _ _ _=>by kernel_rfl)
def aX (m:Nat):Nat->T->T->T->T->(T->An)->An->An
 | 0,_,_,_,_,_,_=>.bad
 | n+1,x0,x1,x2,x3,k0,k1 =>
  cond (decide (x3.int<x2.int))
  (cond (decide ((0:Int)<=x3.int/\x3.int<(x0.rows.length:Int)))
  (qz m ((x0.rows.getD (Int.toNat x3.int) []).getD 0 dflt) (T.l ((x0.rows.getD (Int.toNat x3.int) []).getD 1 dflt).rows) (T.l [(cO x1)])
  (fun y0=>cond y0.bool
  (k0 x3)
  (aX m n x0 (T.l [(cO x1)]) x2 (T.i (IntKind.i64.wrap (x3.int+1))) k0 k1)))
  (.bad))
  (k1 )
def dP:Nat->T->T->(T->An)->An
 | 0,_,_,_=>.bad
 | m+1,x0,x1,k0 =>
  aX m m (T.l x0.rows) (T.l [(cO x1)]) (T.i (x0.rows.length:Int)) (T.i 0)
  (fun y1=>k0 y1)
  (k0 (T.i (-1)))
def dM:Fs:=⟨67,[.one (.dz tB []),.fn 68 [.Ky tI []]],fun m vs k=>ap 2 (dP m) vs (lm 1 fun z=>k (bg ⟨[.one (RI)],[[none],[]],[none,none]⟩ z))⟩
def ow:List Ls:=[⟨[0,1,0,1],⟨[(0,.one (LD tB)),(1,.fn 68 [.rp [([4000000],0)] tI []]),(7,.one (LI)),(8,.one (LI))],[([4000000],.gone)]⟩,fun m n vs k=>ap 4 (aX m n) vs (lm 1 fun z=>k .ret (aG ⟨[(4,.one (LI))],[]⟩ z)) (lm 0 fun z=>k (.exit 0) (aG ⟨[],[]⟩ z))⟩]
def gJ:List Fs:=dM::uS
theorem oz:aM CX au gJ/\aY CX au dM:=fF Gn.1 dM Tryz.f67 ⟨67,2,19,16⟩ ow (fun _ _=>rfl) (fun _ _ _=>by kernel_rfl) ⟨fun _ _ _=>rfl,trivial⟩ ⟨fun _ _ _ _ _ _=>by kernel_rfl,trivial⟩ (fun _ _ _ _ _=>by kernel_rfl)
def eT:Nat->T->T->(T->An)->An
 | 0,_,_,_=>.bad
 | m+1,x0,x1,k0 =>
  dP m (T.l (((cO x0).drop 9).getD 0 dflt).rows) (T.l [[x1]])
  (fun y0=>k0 y0)
def qA:Fs:=⟨33,[.Ky [.sc (.int .i64),.sc (.int .i64),.sc (.int .i64),.sl tJ,.sl tC,.sc (.int .i64),.sl tS,.sl tW,.sl tW,.sl tB] [],.one (AI)],fun m vs k=>ap 2 (eT m) vs (lm 1 fun z=>k (bg ⟨[.one (RI)],[[],[none]],[none,none]⟩ z))⟩
def xB:List Fs:=qA::gJ
theorem Jz:aM CX au xB/\aY CX au qA:=fF oz.1 qA Tryz.f33 ⟨33,2,11,16⟩ [] (fun _ _=>rfl) (fun _ _ _=>by kernel_rfl) trivial trivial (fun _ _ _ _ _=>by kernel_rfl)
def d9 (m:Nat):Nat->T->T->T->T->(T->An)->(T->An)->An
 | 0,_,_,_,_,_,_=>.bad
 | n+1,x0,x1,x2,x3,k0,k1 =>
  cond (decide (x3.int<x2.int))
  (cond (decide ((0:Int)<=x3.int/\x3.int<(x1.rows.length:Int)))
  (eT m (T.l [((cO x0).take 10)]) ((x1.rows.getD (Int.toNat x3.int) []).getD 0 dflt)
  (fun oF=>cond ((decide (oF.int<0))==false)
  (cond (decide ((0:Int)<=oF.int/\oF.int<((((cO x0).drop 9).getD 0 dflt).rows.length:Int)))
  (bR m (T.l ((((((cO x0).drop 9).getD 0 dflt).rows.getD (Int.toNat oF.int) []).drop 1).getD 0 dflt).rows) (T.l ((x1.rows.getD (Int.toNat x3.int) []).getD 1 dflt).rows)
  (fun y13=>cond (!y13.bool)
  (k0 (T.b false))
  (d9 m n (T.l [(cO x0)]) x1 x2 (T.i (IntKind.i64.wrap (x3.int+1))) k0 k1)))
  (.bad))
  (k0 (T.b false))))
  (.bad))
  (k1 (T.l [(cO x0)]))
def eu (m:Nat):Nat->T->T->T->T->(T->An)->(T->An)->An
 | 0,_,_,_,_,_,_=>.bad
 | n+1,x0,x1,x2,x3,k0,k1 =>
  cond (decide (x3.int<x2.int))
  (cond (decide ((0:Int)<=x3.int/\x3.int<(x1.rows.length:Int)))
  (eT m (T.l [((cO x0).take 10)]) ((x1.rows.getD (Int.toNat x3.int) []).getD 0 dflt)
  (fun y9=>cond (decide (y9.int<0))
  (k0 (T.b false))
  (eu m n (T.l [(cO x0)]) x1 x2 (T.i (IntKind.i64.wrap (x3.int+1))) k0 k1)))
  (.bad))
  (k1 (T.l [(cO x0)]))
def eB (m:Nat):Nat->T->T->T->T->(T->An)->(T->An)->An
 | 0,_,_,_,_,_,_=>.bad
 | n+1,x0,x1,x2,x3,k0,k1 =>
  cond (decide (x3.int<x2.int))
  (cond (decide ((0:Int)<=x3.int/\x3.int<(x1.rows.length:Int)))
  (sU m (T.l ((x1.rows.getD (Int.toNat x3.int) []).getD 1 dflt).rows)
  (fun y0=>cond ((!y0.bool)==false)
  (jW m (T.l [((cO x0).take 6)])
  (fun y1=>dG m ((x1.rows.getD (Int.toNat x3.int) []).getD 0 dflt) (T.i 1000) (T.i (IntKind.i64.wrap (y1.int-1)))
  (fun y2=>cond ((!y2.bool)==false)
  (eT m (T.l [((cO x0).take 10)]) ((x1.rows.getD (Int.toNat x3.int) []).getD 0 dflt)
  (fun y3=>cond (y3.int != x3.int)
  (k0 (T.b false))
  (eB m n (T.l [(cO x0)]) x1 x2 (T.i (IntKind.i64.wrap (x3.int+1))) k0 k1)))
  (k0 (T.b false)))))
  (k0 (T.b false))))
  (.bad))
  (k1 (T.l [(cO x0)]))
def oN:Nat->T->(T->An)->An
 | 0,_,_=>.bad
 | m+1,x0,k0 =>
  eB m m (T.l [(cO x0)]) (((cO x0).drop 9).getD 0 dflt) (T.i ((((cO x0).drop 9).getD 0 dflt).rows.length:Int)) (T.i 0)
  (fun y7=>k0 y7)
  (fun y8=>eu m m (T.l [(cO y8)]) (((cO y8).drop 4).getD 0 dflt) (T.i ((((cO y8).drop 4).getD 0 dflt).rows.length:Int)) (T.i 0)
  (fun nP=>k0 nP)
  (fun ou=>d9 m m (T.l [(cO ou)]) (((cO ou).drop 3).getD 0 dflt) (T.i ((((cO ou).drop 3).getD 0 dflt).rows.length:Int)) (T.i 0)
  (fun vL=>k0 vL)
  (fun u7=>k0 (T.b (decide (((((cO u7).drop 9).getD 0 dflt).rows.length:Int)<=1000))))))
def qB:Fs:=⟨40,[.Ky [.sc (.int .i64),.sc (.int .i64),.sc (.int .i64),.sl tJ,.sl tC,.sc (.int .i64),.sl tS,.sl tW,.sl tW,.sl tB] []],fun m vs k=>ap 1 (oN m) vs (lm 1 fun z=>k (bg ⟨[.one (RB)],[[]],[none]⟩ z))⟩
def JA:List Ls:=[⟨[0,1,0,1,1,1],⟨[(0,.rp [([4000000],0)] [.sc (.int .i64),.sc (.int .i64),.sc (.int .i64),.sl tJ,.sl tC,.sc (.int .i64),.sl tS,.sl tW,.sl tW,.sl tB] []),(64,.one (LD tJ)),(65,.one (LI)),(66,.one (LI))],[([4000000],.gone)]⟩,fun m n vs k=>ap 4 (d9 m n) vs (lm 1 fun z=>k .ret (aG ⟨[(2,.one (LB))],[]⟩ z)) (lm 1 fun z=>k (.exit 4) (aG ⟨[(0,.rp [([4000000],0)] [.sc (.int .i64),.sc (.int .i64),.sc (.int .i64),.sl tJ,.sl tC,.sc (.int .i64),.sl tS,.sl tW,.sl tW,.sl tB] [])],[([4000000],.gone)]⟩ z))⟩,⟨[0,1,0,1,1],⟨[(0,.rp [([4000000],0)] [.sc (.int .i64),.sc (.int .i64),.sc (.int .i64),.sl tJ,.sl tC,.sc (.int .i64),.sl tS,.sl tW,.sl tW,.sl tB] []),(48,.one (LD tC)),(49,.one (LI)),(50,.one (LI))],[([4000000],.gone)]⟩,fun m n vs k=>ap 4 (eu m n) vs (lm 1 fun z=>k .ret (aG ⟨[(2,.one (LB))],[]⟩ z)) (lm 1 fun z=>k (.exit 2) (aG ⟨[(0,.rp [([4000000],0)] [.sc (.int .i64),.sc (.int .i64),.sc (.int .i64),.sl tJ,.sl tC,.sc (.int .i64),.sl tS,.sl tW,.sl tW,.sl tB] [])],[([4000000],.gone)]⟩ z))⟩,⟨[0,1,0,1],⟨[(0,.rp [([4000000],0)] [.sc (.int .i64),.sc (.int .i64),.sc (.int .i64),.sl tJ,.sl tC,.sc (.int .i64),.sl tS,.sl tW,.sl tW,.sl tB] []),(13,.one (LD tB)),(14,.one (LI)),(15,.one (LI))],[([4000000],.gone)]⟩,fun m n vs k=>ap 4 (eB m n) vs (lm 1 fun z=>k .ret (aG ⟨[(2,.one (LB))],[]⟩ z)) (lm 1 fun z=>k (.exit 0) (aG ⟨[(0,.rp [([4000000],0)] [.sc (.int .i64),.sc (.int .i64),.sc (.int .i64),.sl tJ,.sl tC,.sc (.int .i64),.sl tS,.sl tW,.sl tW,.sl tB] [])],[([4000000],.gone)]⟩ z))⟩]
def xC:List Fs:=qB::xB
theorem JB:aM CX au xC/\aY CX au qB:=fF Jz.1 qB Tryz.f40 ⟨40,1,97,4⟩ JA (fun _ _=>rfl) (fun _ _ _=>by kernel_rfl) ⟨fun _ _ _=>rfl,fun _ _ _=>rfl,fun _ _ _=>rfl,trivial⟩ ⟨fun _ _ _ _ _ _=>by kernel_rfl,fun _ _ _ _ _ _=>by kernel_rfl,fun _ _ _ _ _ _=>by kernel_rfl,trivial⟩ (fun _ _ _ _ _=>by kernel_rfl)
def jZ (m:Nat):Nat->T->T->T->T->T->T->T->T->T->T->T->T->T->T->(T->An)->(T->T->T->T->T->T->T->T->T->T->T->An)->An
 | 0,_,_,_,_,_,_,_,_,_,_,_,_,_,_,_,_=>.bad
 | n+1,x0,x1,x2,x3,x4,x5,x6,x7,x8,x9,x10,bH,fT,kX,k0,k1 =>
  cond (decide (x3.int<x2.int))
  ((fun (j4:An) =>
  cond (decide ((0:Int)<=x3.int/\x3.int<(x1.rows.length:Int)))
  (cond ((((x1.rows.getD (Int.toNat x3.int) []).getD 0 dflt).int != x3.int)==false)
  (ze m ((x1.rows.getD (Int.toNat x3.int) []).getD 0 dflt) (T.l ((x1.rows.getD (Int.toNat x3.int) []).getD 1 dflt).rows) ((x1.rows.getD (Int.toNat x3.int) []).getD 2 dflt) (T.l ((x1.rows.getD (Int.toNat x3.int) []).getD 3 dflt).rows) (T.l ((x1.rows.getD (Int.toNat x3.int) []).getD 4 dflt).rows)
  (fun y2=>cond (!y2.bool)
  (k0 (T.b false))
  (j4)))
  (k0 (T.b false)))
  (.bad))
  (jZ m n (T.i (x0.int.toNat:Int)) x1 x2 (T.i (IntKind.i64.wrap (x3.int+1))) x4 x5 x6 x7 x8 x9 x10 bH fT kX k0 k1))
  (k1 (T.i (x0.int.toNat:Int)) x4 x5 x6 x7 x8 x9 x10 bH fT kX)
def uT:Nat->T->T->T->T->T->T->T->T->T->T->(T->An)->An
 | 0,_,_,_,_,_,_,_,_,_,_,_=>.bad
 | m+1,x0,x1,x2,x3,x4,x5,x6,x7,x8,x9,k0 =>
  jn (fun (j21:An) =>
  yZ m x0 x1 x2 (T.l x3.rows) (T.l x4.rows) x5
  (fun y0=>cond ((!y0.bool)==false)
  (cond ((x6.rows.length:Int) != x0.int)
  (k0 (T.b false))
  (j21))
  (k0 (T.b false))))
  (jZ m m (T.i 0) (T.l x6.rows) (T.i (x6.rows.length:Int)) (T.i 0) x0 x1 x2 (T.l x3.rows) (T.l x4.rows) x5 (T.l x6.rows) (T.l x7.rows) (T.l x8.rows) (T.l x9.rows)
  (fun y5=>k0 y5)
  (fun y6 y7 y8 y9 nP ou oF y13 pJ uh xE=>mD m (T.l [[y7,y8,y9,(T.l nP.rows),(T.l ou.rows),oF,(T.l y13.rows),(T.l pJ.rows),(T.l uh.rows),(T.l xE.rows)]]) (T.l pJ.rows)
  (fun vL=>cond (vL.bool==true)
  (mD m (T.l [[y7,y8,y9,(T.l nP.rows),(T.l ou.rows),oF,(T.l y13.rows),(T.l pJ.rows),(T.l uh.rows),(T.l xE.rows)]]) (T.l uh.rows)
  (fun u7=>cond (u7.bool==true)
  (oN m (T.l [[y7,y8,y9,(T.l nP.rows),(T.l ou.rows),oF,(T.l y13.rows),(T.l pJ.rows),(T.l uh.rows),(T.l xE.rows)]])
  (fun Ku=>k0 (T.b Ku.bool)))
  (k0 (T.b false))))
  (k0 (T.b false)))))
def AQ:Fs:=⟨13,[.agg [AI,AI,AI,.dz tJ [],.dz tC [],AI,.dz tS [],.dz tW [],.dz tW [],.dz tB []]],fun m vs k=>ap 10 (uT m) vs (lm 1 fun z=>k (bg ⟨[.one (RB)],[[none,none,none,none,none,none,none,none,none,none]],[none]⟩ z))⟩
def Vg:List Ls:=[⟨[0,1,0,1,1],⟨[(1,EP 0),(19,.one (LD tS)),(20,.one (LI)),(21,.one (LI))],[((KI 0),.box [LI,LI,LI,LD tJ,LD tC,LI,LD tS,LD tW,LD tW,LD tB]),([4000000],.gone)]⟩,fun m n vs k=>ap 14 (jZ m n) vs (lm 1 fun z=>k .ret (aG ⟨[(2,.one (LB))],[]⟩ z)) (lm 11 fun z=>k (.exit 0) (aG ⟨[(1,EP 0)],[((KI 0),.box [LI,LI,LI,LD tJ,LD tC,LI,LD tS,LD tW,LD tW,LD tB]),([4000000],.gone)]⟩ z))⟩]
def JC:List Fs:=AQ::xC
theorem Vh:aM CX au JC/\aY CX au AQ:=fF JB.1 AQ Tryz.f13 ⟨13,1,47,4⟩ Vg (fun _ _=>rfl) (fun _ _ _=>by kernel_rfl) ⟨fun _ _ _=>rfl,trivial⟩ ⟨fun _ _ _ _ _ _=>by kernel_rfl,trivial⟩ (fun _ _ _ _ _=>by kernel_rfl)
def bU (m:Nat):Nat->T->T->T->T->T->(T->An)->An->An
 | 0,_,_,_,_,_,_,_=>.bad
 | n+1,x0,x1,x2,x3,x4,k0,k1 =>
  cond (decide (x4.int<x3.int))
  (cond (decide ((0:Int)<=x4.int/\x4.int<(x2.rows.length:Int)))
  (cond ((((x2.rows.getD (Int.toNat x4.int) []).getD 0 dflt).int==x1.int)==true)
  (cond (((x2.rows.getD (Int.toNat x4.int) []).getD 1 dflt).bool==true)
  (cond (decide (x4.int<(((cO x0).drop 5).getD 0 dflt).int))
  (k0 (T.b true))
  (bU m n (T.l [(cO x0)]) x1 x2 x3 (T.i (IntKind.i64.wrap (x4.int+1))) k0 k1))
  (bU m n (T.l [(cO x0)]) x1 x2 x3 (T.i (IntKind.i64.wrap (x4.int+1))) k0 k1))
  (bU m n (T.l [(cO x0)]) x1 x2 x3 (T.i (IntKind.i64.wrap (x4.int+1))) k0 k1))
  (.bad))
  (k1 )
def nQ:Nat->T->T->(T->An)->An
 | 0,_,_,_=>.bad
 | m+1,x0,x1,k0 =>
  bU m m (T.l [(cO x0)]) x1 (((cO x0).drop 4).getD 0 dflt) (T.i ((((cO x0).drop 4).getD 0 dflt).rows.length:Int)) (T.i 0)
  (fun y3=>k0 y3)
  (k0 (T.b false))
def pV:Fs:=⟨32,[.Ky [.sc (.int .i64),.sc (.int .i64),.sc (.int .i64),.sl tJ,.sl tC,.sc (.int .i64),.sl tS,.sl tW,.sl tW,.sl tB] [],.one (AI)],fun m vs k=>ap 2 (nQ m) vs (lm 1 fun z=>k (bg ⟨[.one (RB)],[[],[none]],[none,none]⟩ z))⟩
def H8:List Ls:=[⟨[0,1,0,1],⟨[(0,.rp [([4000000],0)] [.sc (.int .i64),.sc (.int .i64),.sc (.int .i64),.sl tJ,.sl tC,.sc (.int .i64),.sl tS,.sl tW,.sl tW,.sl tB] []),(1,.one (LI)),(11,.one (LD tC)),(12,.one (LI)),(13,.one (LI))],[([4000000],.gone)]⟩,fun m n vs k=>ap 5 (bU m n) vs (lm 1 fun z=>k .ret (aG ⟨[(4,.one (LB))],[]⟩ z)) (lm 0 fun z=>k (.exit 0) (aG ⟨[],[]⟩ z))⟩]
def vk:List Fs:=pV::JC
theorem H9:aM CX au vk/\aY CX au pV:=fF Vh.1 pV Tryz.f32 ⟨32,2,36,16⟩ H8 (fun _ _=>rfl) (fun _ _ _=>by kernel_rfl) ⟨fun _ _ _=>rfl,trivial⟩ ⟨fun _ _ _ _ _ _=>by kernel_rfl,trivial⟩ (fun _ _ _ _ _=>by kernel_rfl)
def lV (m:Nat):Nat->T->T->T->T->T->T->T->T->T->T->T->T->T->T->T->T->T->(T->An)->(T->T->T->T->T->T->T->T->T->T->T->T->T->T->An)->An
 | 0,_,_,_,_,_,_,_,_,_,_,_,_,_,_,_,_,_,_,_=>.bad
 | n+1,x0,x1,x2,x3,x4,x5,x6,x7,x8,x9,x10,bH,fT,kX,xk,KU,Po,k0,k1 =>
  cond (decide (x6.int<x5.int))
  ((fun (j2:An) =>
  cond (decide ((0:Int)<=x6.int/\x6.int<(x4.rows.length:Int)))
  (cond ((((x4.rows.getD (Int.toNat x6.int) []).getD 0 dflt).int==2)==true)
  (nQ m (T.l [[x7,x8,x9,(T.l x10.rows),(T.l bH.rows),fT,(T.l kX.rows),(T.l xk.rows),(T.l KU.rows),(T.l Po.rows)]]) ((x4.rows.getD (Int.toNat x6.int) []).getD 1 dflt)
  (fun y0=>cond (!y0.bool)
  (k0 (T.b false))
  (j2)))
  (j2))
  (.bad))
  (lV m n (T.i (x0.int.toNat:Int)) x1 x2 x3 x4 x5 (T.i (IntKind.i64.wrap (x6.int+1))) x7 x8 x9 x10 bH fT kX xk KU Po k0 k1))
  (k1 (T.i (x0.int.toNat:Int)) x1 x2 x3 x7 x8 x9 x10 bH fT kX xk KU Po)
def lW (m:Nat):Nat->T->T->T->T->T->T->T->T->T->T->T->T->T->T->(T->An)->An->An
 | 0,_,_,_,_,_,_,_,_,_,_,_,_,_,_,_,_=>.bad
 | n+1,x0,x1,x2,x3,x4,x5,x6,x7,x8,x9,x10,bH,fT,kX,k0,k1 =>
  cond (decide (x3.int<x2.int))
  (cond (decide ((0:Int)<=x3.int/\x3.int<(x1.rows.length:Int)))
  (lV m n (T.i (x0.int.toNat:Int)) x1 x2 x3 ((x1.rows.getD (Int.toNat x3.int) []).getD 1 dflt) (T.i (((x1.rows.getD (Int.toNat x3.int) []).getD 1 dflt).rows.length:Int)) (T.i 0) x4 x5 x6 x7 x8 x9 x10 bH fT kX
  (fun y3=>k0 y3)
  (fun y4 y5 y6 y7 y8 y9 nP ou oF y13 pJ uh xE vL=>lW m n (T.i (y4.int.toNat:Int)) y5 y6 (T.i (IntKind.i64.wrap (y7.int+1))) y8 y9 nP ou oF y13 pJ uh xE vL k0 k1))
  (.bad))
  (k1 )
def xD:Nat->T->T->T->T->T->T->T->T->T->T->(T->An)->An
 | 0,_,_,_,_,_,_,_,_,_,_,_=>.bad
 | m+1,x0,x1,x2,x3,x4,x5,x6,x7,x8,x9,k0 =>
  lW m m (T.i 0) (T.l x6.rows) (T.i (x6.rows.length:Int)) (T.i 0) x0 x1 x2 (T.l x3.rows) (T.l x4.rows) x5 (T.l x6.rows) (T.l x7.rows) (T.l x8.rows) (T.l x9.rows)
  (fun u7=>k0 u7)
  (k0 (T.b true))
def DJ:Fs:=⟨10,[.agg [AI,AI,AI,.dz tJ [],.dz tC [],AI,.dz tS [],.dz tW [],.dz tW [],.dz tB []]],fun m vs k=>ap 10 (xD m) vs (lm 1 fun z=>k (bg ⟨[.one (RB)],[[none,none,none,none,none,none,none,none,none,none]],[none]⟩ z))⟩
def Xm:List Ls:=[⟨[0,1,1,0,0,1,1,0,0,1,0,1],⟨[(1,EP 0),(8,.one (LD tS)),(9,.one (LI)),(10,.one (LI)),(15,.one (LD tR)),(16,.one (LI)),(17,.one (LI))],[((KI 0),.box [LI,LI,LI,LD tJ,LD tC,LI,LD tS,LD tW,LD tW,LD tB]),([4000000],.gone)]⟩,fun m n vs k=>ap 17 (lV m n) vs (lm 1 fun z=>k .ret (aG ⟨[(2,.one (LB))],[]⟩ z)) (lm 14 fun z=>k (.exit 2) (aG ⟨[(1,EP 0),(8,.one (LD tS)),(9,.one (LI)),(10,.one (LI))],[((KI 0),.box [LI,LI,LI,LD tJ,LD tC,LI,LD tS,LD tW,LD tW,LD tB]),([4000000],.gone)]⟩ z))⟩,⟨[0,1,0,1],⟨[(1,EP 0),(8,.one (LD tS)),(9,.one (LI)),(10,.one (LI))],[((KI 0),.box [LI,LI,LI,LD tJ,LD tC,LI,LD tS,LD tW,LD tW,LD tB]),([4000000],.gone)]⟩,fun m n vs k=>ap 14 (lW m n) vs (lm 1 fun z=>k .ret (aG ⟨[(2,.one (LB))],[]⟩ z)) (lm 0 fun z=>k (.exit 0) (aG ⟨[],[]⟩ z))⟩]
def Lh:List Fs:=DJ::vk
theorem Xn:aM CX au Lh/\aY CX au DJ:=fF H9.1 DJ Tryz.f10 ⟨10,1,32,4⟩ Xm (fun _ _=>rfl) (fun _ _ _=>by kernel_rfl) ⟨fun _ _ _=>rfl,fun _ _ _=>rfl,trivial⟩ ⟨fun _ _ _ _ _ _=>by kernel_rfl,fun _ _ _ _ _ _=>by kernel_rfl,trivial⟩ (fun _ _ _ _ _=>by kernel_rfl)
def jd (m:Nat):Nat->T->T->T->T->T->T->(T->An)->An
 | 0,_,_,_,_,_,_,_=>.bad
 | n+1,x0,x1,x2,x3,x4,x5,k0 =>
  cond (decide (x4.int<x3.int))
  (cond (decide ((0:Int)<=x4.int/\x4.int<(x2.rows.length:Int)))
  (uO m ((x2.rows.getD (Int.toNat x4.int) []).getD 1 dflt) x1
  (fun y0=>cond (y0.int==x0.int)
  (cond (decide ((x5.rows.length+1) * 3<=aD))
  (jd m n x0 x1 x2 x3 (T.i (IntKind.i64.wrap (x4.int+1))) (T.l (x5.rows++[[((x2.rows.getD (Int.toNat x4.int) []).getD 0 dflt),((x2.rows.getD (Int.toNat x4.int) []).getD 1 dflt),((x2.rows.getD (Int.toNat x4.int) []).getD 2 dflt)]])) k0)
  (.bad))
  (jd m n x0 x1 x2 x3 (T.i (IntKind.i64.wrap (x4.int+1))) (T.l x5.rows) k0)))
  (.bad))
  (k0 (T.l x5.rows))
def Co:Nat->T->T->T->(T->An)->An
 | 0,_,_,_,_=>.bad
 | m+1,x0,x1,x2,k0 =>
  jd m m x1 x2 (T.l x0.rows) (T.i (x0.rows.length:Int)) (T.i 0) (T.l [])
  (fun y3=>k0 (T.l y3.rows))
def DK:Fs:=⟨35,[.one (.dz tO []),.one (AI),.one (AI)],fun m vs k=>ap 3 (Co m) vs (lm 1 fun z=>k (bg ⟨[.one (.own (KR 0 0) tO m3 [])],[[none],[none],[none]],[none,none,none]⟩ z))⟩
def Xo:List Ls:=[⟨[0,1,0,1,1],⟨[(1,.one (LI)),(2,.one (LI)),(7,.one (LA (KI 0) tO)),(10,.one (LD tO)),(11,.one (LI)),(12,.one (LI))],[((KI 0),.row tO m3 []),([4000000],.gone)]⟩,fun m n vs k=>ap 6 (jd m n) vs (lm 1 fun z=>k (.exit 0) (aG ⟨[(7,.one (LA (KI 0) tO))],[((KI 0),.row tO m3 [])]⟩ z))⟩]
def Li:List Fs:=DK::Lh
theorem Xp:aM CX au Li/\aY CX au DK:=fF Xn.1 DK Tryz.f35 ⟨35,3,28,64⟩ Xo (fun _ _=>rfl) (fun _ _ _=>by kernel_rfl) ⟨fun _ _ _=>rfl,trivial⟩ ⟨fun _ _ _ _ _ _=>by kernel_rfl,trivial⟩ (fun _ _ _ _ _=>by kernel_rfl)
def nu (m:Nat):Nat->T->T->T->T->T->T->T->T->T->T->T->T->T->T->T->T->T->T->T->T->T->T->T->(T->An)->(T->T->T->T->T->T->T->T->T->T->T->T->T->T->An)->An
 | 0,_,_,_,_,_,_,_,_,_,_,_,_,_,_,_,_,_,_,_,_,_,_,_,_,_=>.bad
 | n+1,x0,x1,x2,x3,x4,x5,x6,x7,x8,x9,x10,bH,fT,kX,xk,KU,Po,Q9,x18,x19,x20,x21,x22,k0,k1 =>
  cond (decide (x7.int<x6.int))
  ((fun (j4:An) =>
  cond (decide ((0:Int)<=x7.int/\x7.int<(x5.rows.length:Int)))
  (cond (((x5.rows.getD (Int.toNat x7.int) []).getD 0 dflt).int != 1)
  (j4)
  (eT m (T.l [[x8,x9,x10,(T.l bH.rows),(T.l fT.rows),kX,(T.l xk.rows),(T.l KU.rows),(T.l Po.rows),(T.l Q9.rows)]]) ((x5.rows.getD (Int.toNat x7.int) []).getD 1 dflt)
  (fun y0=>cond ((decide (y0.int<0))==false)
  (cond (decide ((0:Int)<=y0.int/\y0.int<(Q9.rows.length:Int)))
  (Co m (T.l (((Q9.rows.getD (Int.toNat y0.int) []).drop 1).getD 0 dflt).rows) x18 x8
  (fun y1=>bR m (T.l y1.rows) (T.l ((x5.rows.getD (Int.toNat x7.int) []).getD 2 dflt).rows)
  (fun y2=>cond (!y2.bool)
  (k0 (T.b false))
  (j4))))
  (.bad))
  (k0 (T.b false)))))
  (.bad))
  (nu m n (T.i (x0.int.toNat:Int)) (T.i (x1.int.toNat:Int)) x2 x3 x4 x5 x6 (T.i (IntKind.i64.wrap (x7.int+1))) x8 x9 x10 bH fT kX xk KU Po Q9 x18 x19 x20 x21 x22 k0 k1))
  (k1 (T.i (x0.int.toNat:Int)) x2 x3 x4 x8 x9 x10 bH fT kX xk KU Po Q9)
def ny (m:Nat):Nat->T->T->T->T->T->T->T->T->T->T->T->T->T->T->(T->An)->An->An
 | 0,_,_,_,_,_,_,_,_,_,_,_,_,_,_,_,_=>.bad
 | n+1,x0,x1,x2,x3,x4,x5,x6,x7,x8,x9,x10,bH,fT,kX,k0,k1 =>
  cond (decide (x3.int<x2.int))
  (cond (decide ((0:Int)<=x3.int/\x3.int<(x1.rows.length:Int)))
  (nu m n (T.i (x0.int.toNat:Int)) (T.i 0) x1 x2 x3 ((x1.rows.getD (Int.toNat x3.int) []).getD 1 dflt) (T.i (((x1.rows.getD (Int.toNat x3.int) []).getD 1 dflt).rows.length:Int)) (T.i 0) x4 x5 x6 x7 x8 x9 x10 bH fT kX ((x1.rows.getD (Int.toNat x3.int) []).getD 0 dflt) ((x1.rows.getD (Int.toNat x3.int) []).getD 1 dflt) ((x1.rows.getD (Int.toNat x3.int) []).getD 2 dflt) ((x1.rows.getD (Int.toNat x3.int) []).getD 3 dflt) ((x1.rows.getD (Int.toNat x3.int) []).getD 4 dflt)
  (fun y5=>k0 y5)
  (fun y6 y7 y8 y9 nP ou oF y13 pJ uh xE vL u7 Ku=>ny m n (T.i (y6.int.toNat:Int)) y7 y8 (T.i (IntKind.i64.wrap (y9.int+1))) nP ou oF y13 pJ uh xE vL u7 Ku k0 k1))
  (.bad))
  (k1 )
def AR:Nat->T->T->T->T->T->T->T->T->T->T->(T->An)->An
 | 0,_,_,_,_,_,_,_,_,_,_,_=>.bad
 | m+1,x0,x1,x2,x3,x4,x5,x6,x7,x8,x9,k0 =>
  ny m m (T.i 0) (T.l x6.rows) (T.i (x6.rows.length:Int)) (T.i 0) x0 x1 x2 (T.l x3.rows) (T.l x4.rows) x5 (T.l x6.rows) (T.l x7.rows) (T.l x8.rows) (T.l x9.rows)
  (fun y20=>k0 y20)
  (k0 (T.b true))
def Gp:Fs:=⟨11,[.agg [AI,AI,AI,.dz tJ [],.dz tC [],AI,.dz tS [],.dz tW [],.dz tW [],.dz tB []]],fun m vs k=>ap 10 (AR m) vs (lm 1 fun z=>k (bg ⟨[.one (RB)],[[none,none,none,none,none,none,none,none,none,none]],[none]⟩ z))⟩
def aan:List Ls:=[⟨[0,1,1,0,0,1,1,0,0,1,0,1],⟨[(1,EP 0),(4,EP 1),(9,.one (LD tS)),(10,.one (LI)),(11,.one (LI)),(16,.one (LD tR)),(17,.one (LI)),(18,.one (LI))],[((KI 0),.box [LI,LI,LI,LD tJ,LD tC,LI,LD tS,LD tW,LD tW,LD tB]),((KI 1),.box [LI,LD tR,LI,LD tP,LD tR]),([4000000],.gone)]⟩,fun m n vs k=>ap 23 (nu m n) vs (lm 1 fun z=>k .ret (aG ⟨[(2,.one (LB))],[]⟩ z)) (lm 14 fun z=>k (.exit 2) (aG ⟨[(1,EP 0),(9,.one (LD tS)),(10,.one (LI)),(11,.one (LI))],[((KI 0),.box [LI,LI,LI,LD tJ,LD tC,LI,LD tS,LD tW,LD tW,LD tB]),([4000000],.gone)]⟩ z))⟩,⟨[0,1,0,1],⟨[(1,EP 0),(9,.one (LD tS)),(10,.one (LI)),(11,.one (LI))],[((KI 0),.box [LI,LI,LI,LD tJ,LD tC,LI,LD tS,LD tW,LD tW,LD tB]),([4000000],.gone)]⟩,fun m n vs k=>ap 14 (ny m n) vs (lm 1 fun z=>k .ret (aG ⟨[(2,.one (LB))],[]⟩ z)) (lm 0 fun z=>k (.exit 0) (aG ⟨[],[]⟩ z))⟩]
def Ou:List Fs:=Gp::Li
theorem aao:aM CX au Ou/\aY CX au Gp:=fF Xp.1 Gp Tryz.f11 ⟨11,1,50,4⟩ aan (fun _ _=>rfl) (fun _ _ _=>by kernel_rfl) ⟨fun _ _ _=>rfl,fun _ _ _=>rfl,trivial⟩ ⟨fun _ _ _ _ _ _=>by kernel_rfl,fun _ _ _ _ _ _=>by kernel_rfl,trivial⟩ (fun _ _ _ _ _=>by kernel_rfl)
def bX (m:Nat):Nat->T->T->T->T->(T->An)->An->An
 | 0,_,_,_,_,_,_=>.bad
 | n+1,x0,x1,x2,x3,k0,k1 =>
  cond (decide (x3.int<x2.int))
  (cond (decide ((0:Int)<=x3.int/\x3.int<(x1.rows.length:Int)))
  (cond ((((x1.rows.getD (Int.toNat x3.int) []).getD 1 dflt).int==x0.int)==true)
  (cond ((((x1.rows.getD (Int.toNat x3.int) []).getD 0 dflt).int==1)==false)
  (cond (((x1.rows.getD (Int.toNat x3.int) []).getD 0 dflt).int==2)
  (k0 (T.b true))
  (bX m n x0 x1 x2 (T.i (IntKind.i64.wrap (x3.int+1))) k0 k1))
  (k0 (T.b true)))
  (bX m n x0 x1 x2 (T.i (IntKind.i64.wrap (x3.int+1))) k0 k1))
  (.bad))
  (k1 )
def mH:Nat->T->T->(T->An)->An
 | 0,_,_,_=>.bad
 | m+1,x0,x1,k0 =>
  cond (decide ((0:Int)<=(LK 0 (LJ (((cO x0).drop 2).getD 0 dflt).int ((((cO x0).drop 1).getD 0 dflt).rows.length:Int)))/\(LK 0 (LJ (((cO x0).drop 2).getD 0 dflt).int ((((cO x0).drop 1).getD 0 dflt).rows.length:Int)))<=((((cO x0).drop 1).getD 0 dflt).rows.length:Int)))
  (cond (decide ((0:Int)<=0/\0<=(LK 0 (LJ (((cO x0).drop 2).getD 0 dflt).int ((((cO x0).drop 1).getD 0 dflt).rows.length:Int)))))
  (bX m m x1 (T.l ((((cO x0).drop 1).getD 0 dflt).rows.take (Int.toNat (LK 0 (LJ (((cO x0).drop 2).getD 0 dflt).int ((((cO x0).drop 1).getD 0 dflt).rows.length:Int)))))) (T.i (((((cO x0).drop 1).getD 0 dflt).rows.take (Int.toNat (LK 0 (LJ (((cO x0).drop 2).getD 0 dflt).int ((((cO x0).drop 1).getD 0 dflt).rows.length:Int))))).length:Int)) (T.i 0)
  (fun y1=>k0 y1)
  (k0 (T.b false)))
  (.bad))
  (.bad)
def og:Fs:=⟨37,[.Ky tS [],.one (AI)],fun m vs k=>ap 2 (mH m) vs (lm 1 fun z=>k (bg ⟨[.one (RB)],[[],[none]],[none,none]⟩ z))⟩
def Et:List Ls:=[⟨[0,1,0,1,1],⟨[(1,.one (LI)),(24,.one (LD tR)),(25,.one (LI)),(26,.one (LI))],[([4000000],.gone)]⟩,fun m n vs k=>ap 4 (bX m n) vs (lm 1 fun z=>k .ret (aG ⟨[(4,.one (LB))],[]⟩ z)) (lm 0 fun z=>k (.exit 0) (aG ⟨[],[]⟩ z))⟩]
def tZ:List Fs:=og::Ou
theorem Eu:aM CX au tZ/\aY CX au og:=fF aao.1 og Tryz.f37 ⟨37,2,45,16⟩ Et (fun _ _=>rfl) (fun _ _ _=>by kernel_rfl) ⟨fun _ _ _=>rfl,trivial⟩ ⟨fun _ _ _ _ _ _=>by kernel_rfl,trivial⟩ (fun _ _ _ _ _=>by kernel_rfl)
def je (m:Nat):Nat->T->T->T->T->T->T->T->T->T->T->T->T->T->T->T->T->T->T->T->T->(T->An)->(T->T->T->T->T->T->T->T->T->T->T->T->T->T->An)->An
 | 0,_,_,_,_,_,_,_,_,_,_,_,_,_,_,_,_,_,_,_,_,_,_=>.bad
 | n+1,x0,x1,x2,x3,x4,x5,x6,x7,x8,x9,x10,bH,fT,kX,xk,KU,Po,Q9,x18,x19,k0,k1 =>
  cond (decide (x7.int<x6.int))
  ((fun (j4:An) =>
  cond (decide ((0:Int)<=x7.int/\x7.int<(x5.rows.length:Int)))
  (cond ((decide (((x5.rows.getD (Int.toNat x7.int) []).getD 0 dflt).int>=(xk.rows.length:Int)))==false)
  (cond (decide ((0:Int)<=((x5.rows.getD (Int.toNat x7.int) []).getD 0 dflt).int/\((x5.rows.getD (Int.toNat x7.int) []).getD 0 dflt).int<(xk.rows.length:Int)))
  (mH m (T.l [((xk.rows.getD (Int.toNat ((x5.rows.getD (Int.toNat x7.int) []).getD 0 dflt).int) []).take 5)]) x18
  (fun y2=>cond (!y2.bool)
  (k0 (T.b false))
  (j4)))
  (.bad))
  (k0 (T.b false)))
  (.bad))
  (je m n (T.i (x0.int.toNat:Int)) (T.i (x1.int.toNat:Int)) x2 x3 x4 x5 x6 (T.i (IntKind.i64.wrap (x7.int+1))) x8 x9 x10 bH fT kX xk KU Po Q9 x18 x19 k0 k1))
  (k1 (T.i (x0.int.toNat:Int)) x2 x3 x4 x8 x9 x10 bH fT kX xk KU Po Q9)
def jf (m:Nat):Nat->T->T->T->T->T->T->T->T->T->T->T->T->T->T->(T->An)->An->An
 | 0,_,_,_,_,_,_,_,_,_,_,_,_,_,_,_,_=>.bad
 | n+1,x0,x1,x2,x3,x4,x5,x6,x7,x8,x9,x10,bH,fT,kX,k0,k1 =>
  cond (decide (x3.int<x2.int))
  ((fun (j48:T->T->T->T->T->T->T->T->T->T->T->T->T->T->An) =>
  cond (decide ((0:Int)<=x3.int/\x3.int<(x1.rows.length:Int)))
  (cond (!((x1.rows.getD (Int.toNat x3.int) []).getD 1 dflt).bool)
  (j48 (T.i (x0.int.toNat:Int)) x1 x2 x3 x4 x5 x6 x7 x8 x9 x10 bH fT kX)
  (eT m (T.l [[x4,x5,x6,(T.l x7.rows),(T.l x8.rows),x9,(T.l x10.rows),(T.l bH.rows),(T.l fT.rows),(T.l kX.rows)]]) ((x1.rows.getD (Int.toNat x3.int) []).getD 0 dflt)
  (fun y0=>cond (decide (y0.int<0))
  (k0 (T.b false))
  (cond (decide ((0:Int)<=y0.int/\y0.int<(kX.rows.length:Int)))
  (pO m (T.l (((kX.rows.getD (Int.toNat y0.int) []).drop 1).getD 0 dflt).rows) x4
  (fun y1=>je m n (T.i (x0.int.toNat:Int)) (T.i 0) x1 x2 x3 (T.l y1.rows) (T.i (y1.rows.length:Int)) (T.i 0) x4 x5 x6 x7 x8 x9 x10 bH fT kX ((x1.rows.getD (Int.toNat x3.int) []).getD 0 dflt) ((x1.rows.getD (Int.toNat x3.int) []).getD 1 dflt)
  (fun y5=>k0 y5)
  (fun y6 y7 y8 y9 nP ou oF y13 pJ uh xE vL u7 Ku=>j48 (T.i (y6.int.toNat:Int)) y7 y8 y9 nP ou oF y13 pJ uh xE vL u7 Ku)))
  (.bad)))))
  (.bad))
  (fun y34 y35 y36 y37 y38 y39 y40 y41 y42 y43 y44 y45 y46 y47=>jf m n (T.i (y34.int.toNat:Int)) y35 y36 (T.i (IntKind.i64.wrap (y37.int+1))) y38 y39 y40 y41 y42 y43 y44 y45 y46 y47 k0 k1))
  (k1 )
def sj:Nat->T->T->T->T->T->T->T->T->T->T->(T->An)->An
 | 0,_,_,_,_,_,_,_,_,_,_,_=>.bad
 | m+1,x0,x1,x2,x3,x4,x5,x6,x7,x8,x9,k0 =>
  jf m m (T.i 0) (T.l x4.rows) (T.i (x4.rows.length:Int)) (T.i 0) x0 x1 x2 (T.l x3.rows) (T.l x4.rows) x5 (T.l x6.rows) (T.l x7.rows) (T.l x8.rows) (T.l x9.rows)
  (fun y49=>k0 y49)
  (k0 (T.b true))
def yx:Fs:=⟨12,[.agg [AI,AI,AI,.dz tJ [],.dz tC [],AI,.dz tS [],.dz tW [],.dz tW [],.dz tB []]],fun m vs k=>ap 10 (sj m) vs (lm 1 fun z=>k (bg ⟨[.one (RB)],[[none,none,none,none,none,none,none,none,none,none]],[none]⟩ z))⟩
def RD:List Ls:=[⟨[0,1,1,1,1,1,0,0,1,1,0,0,1,0,1],⟨[(1,EP 0),(4,EP 1),(10,.one (LD tC)),(11,.one (LI)),(12,.one (LI)),(33,.one (LZ tI)),(34,.one (LI)),(35,.one (LI))],[((KI 0),.box [LI,LI,LI,LD tJ,LD tC,LI,LD tS,LD tW,LD tW,LD tB]),((KI 1),.box [LI,LB]),([4000000],.gone)]⟩,fun m n vs k=>ap 20 (je m n) vs (lm 1 fun z=>k .ret (aG ⟨[(2,.one (LB))],[]⟩ z)) (lm 14 fun z=>k (.exit 2) (aG ⟨[(1,EP 0),(10,.one (LD tC)),(11,.one (LI)),(12,.one (LI))],[((KI 0),.box [LI,LI,LI,LD tJ,LD tC,LI,LD tS,LD tW,LD tW,LD tB]),([4000000],.gone)]⟩ z))⟩,⟨[0,1,0,1],⟨[(1,EP 0),(10,.one (LD tC)),(11,.one (LI)),(12,.one (LI))],[((KI 0),.box [LI,LI,LI,LD tJ,LD tC,LI,LD tS,LD tW,LD tW,LD tB]),([4000000],.gone)]⟩,fun m n vs k=>ap 14 (jf m n) vs (lm 1 fun z=>k .ret (aG ⟨[(2,.one (LB))],[]⟩ z)) (lm 0 fun z=>k (.exit 0) (aG ⟨[],[]⟩ z))⟩]
def Hw:List Fs:=yx::tZ
theorem RF:aM CX au Hw/\aY CX au yx:=fF Eu.1 yx Tryz.f12 ⟨12,1,56,4⟩ RD (fun _ _=>rfl) (fun _ _ _=>by kernel_rfl) ⟨fun _ _ _=>rfl,fun _ _ _=>rfl,trivial⟩ ⟨fun _ _ _ _ _ _=>by kernel_rfl,fun _ _ _ _ _ _=>by kernel_rfl,trivial⟩ (fun _ _ _ _ _=>by kernel_rfl)
def jg (m:Nat):Nat->T->T->T->T->(T->An)->An->An
 | 0,_,_,_,_,_,_=>.bad
 | n+1,x0,x1,x2,x3,k0,k1 =>
  cond (decide (x3.int<x2.int))
  (cond (decide ((0:Int)<=x3.int/\x3.int<(x0.rows.length:Int)))
  (cond (x1.bool==((x0.rows.getD (Int.toNat x3.int) []).getD 0 dflt).bool)
  (k0 x3)
  (jg m n x0 x1 x2 (T.i (IntKind.i64.wrap (x3.int+1))) k0 k1))
  (.bad))
  (k1 )
def mW:Nat->T->T->(T->An)->An
 | 0,_,_,_=>.bad
 | m+1,x0,x1,k0 =>
  jg m m (T.l x0.rows) x1 (T.i (x0.rows.length:Int)) (T.i 0)
  (fun y0=>k0 y0)
  (k0 (T.i (-1)))
def lu:Fs:=⟨26,[.one (.dz [.sc (.bool)] []),.one (AB)],fun m vs k=>ap 2 (mW m) vs (lm 1 fun z=>k (bg ⟨[.one (RI)],[[none],[none]],[none,none]⟩ z))⟩
def zf:List Ls:=[⟨[0,1,0,1],⟨[(0,.one (LD [.sc (.bool)])),(1,.one (LB)),(7,.one (LI)),(8,.one (LI))],[([4000000],.gone)]⟩,fun m n vs k=>ap 4 (jg m n) vs (lm 1 fun z=>k .ret (aG ⟨[(4,.one (LI))],[]⟩ z)) (lm 0 fun z=>k (.exit 0) (aG ⟨[],[]⟩ z))⟩]
def p9:List Fs:=lu::Hw
theorem zh:aM CX au p9/\aY CX au lu:=fF RF.1 lu Tryz.f26 ⟨26,2,19,16⟩ zf (fun _ _=>rfl) (fun _ _ _=>by kernel_rfl) ⟨fun _ _ _=>rfl,trivial⟩ ⟨fun _ _ _ _ _ _=>by kernel_rfl,trivial⟩ (fun _ _ _ _ _=>by kernel_rfl)
def Kj:Nat->T->T->T->T->T->T->T->T->T->T->(T->An)->An
 | 0,_,_,_,_,_,_,_,_,_,_,_=>.bad
 | m+1,x0,x1,x2,x3,x4,x5,x6,x7,x8,x9,k0 =>
  uT m x0 x1 x2 (T.l x3.rows) (T.l x4.rows) x5 (T.l x6.rows) (T.l x7.rows) (T.l x8.rows) (T.l x9.rows)
  (fun y0=>uI m x0 x1 x2 (T.l x3.rows) (T.l x4.rows) x5 (T.l x6.rows) (T.l x7.rows) (T.l x8.rows) (T.l x9.rows)
  (fun y1=>xD m x0 x1 x2 (T.l x3.rows) (T.l x4.rows) x5 (T.l x6.rows) (T.l x7.rows) (T.l x8.rows) (T.l x9.rows)
  (fun y2=>AR m x0 x1 x2 (T.l x3.rows) (T.l x4.rows) x5 (T.l x6.rows) (T.l x7.rows) (T.l x8.rows) (T.l x9.rows)
  (fun y3=>sj m x0 x1 x2 (T.l x3.rows) (T.l x4.rows) x5 (T.l x6.rows) (T.l x7.rows) (T.l x8.rows) (T.l x9.rows)
  (fun y4=>mW m (T.l [[y0],[y1],[y2],[y3],[y4]]) (T.b false)
  (fun y5=>k0 (T.i (IntKind.i64.wrap (1+y5.int)))))))))
def JD:Fs:=⟨7,[.agg [AI,AI,AI,.dz tJ [],.dz tC [],AI,.dz tS [],.dz tW [],.dz tW [],.dz tB []]],fun m vs k=>ap 10 (Kj m) vs (lm 1 fun z=>k (bg ⟨[.one (RI)],[[none,none,none,none,none,none,none,none,none,none]],[none]⟩ z))⟩
def QG:List Fs:=JD::p9
theorem abT:aM CX au QG/\aY CX au JD:=fF zh.1 JD Tryz.f7 ⟨7,1,18,4⟩ [] (fun _ _=>rfl) (fun _ _ _=>by kernel_rfl) trivial trivial (fun _ _ _ _ _=>by kernel_rfl)
def jh (m:Nat):Nat->T->T->T->T->T->T->T->T->T->T->T->T->T->T->(T->An)->(T->T->T->T->T->T->T->T->T->T->T->T->An)->An
 | 0,_,_,_,_,_,_,_,_,_,_,_,_,_,_,_,_=>.bad
 | n+1,x0,x1,x2,x3,x4,x5,x6,x7,x8,x9,x10,bH,fT,kX,k0,k1 =>
  cond (decide (x3.int<(kX.rows.length:Int)))
  ((fun (j17:An) =>
  cond (decide ((0:Int)<=x3.int/\x3.int<(kX.rows.length:Int)))
  (qw m (T.l x2.rows) ((kX.rows.getD (Int.toNat x3.int) []).getD 0 dflt)
  (fun uh=>cond ((!uh.bool)==false)
  (cond ((decide (x3.int > 0))==true)
  (cond (decide ((0:Int)<=(IntKind.i64.wrap (x3.int-1))/\(IntKind.i64.wrap (x3.int-1))<(kX.rows.length:Int)))
  (cond (decide ((0:Int)<=x3.int/\x3.int<(kX.rows.length:Int)))
  (cond (decide (((kX.rows.getD (Int.toNat (IntKind.i64.wrap (x3.int-1))) []).getD 0 dflt).int>=((kX.rows.getD (Int.toNat x3.int) []).getD 0 dflt).int))
  (k0 (T.b false))
  (j17))
  (.bad))
  (.bad))
  (j17))
  (k0 (T.b false))))
  (.bad))
  (jh m n (T.i (x0.int.toNat:Int)) (T.i (x1.int.toNat:Int)) x2 (T.i (IntKind.i64.wrap (x3.int+1))) x4 x5 x6 x7 x8 x9 x10 bH fT kX k0 k1))
  (k1 (T.i (x0.int.toNat:Int)) (T.i (x1.int.toNat:Int)) x4 x5 x6 x7 x8 x9 x10 bH fT kX)
def Cq:Nat->T->T->T->T->T->T->T->(T->An)->An
 | 0,_,_,_,_,_,_,_,_=>.bad
 | m+1,x0,x1,x2,x3,x4,x5,x6,k0 =>
  cond (decide ((0:Int)<=x6.int/\x6.int<(x3.rows.length:Int)))
  (jn (fun (j33:T->T->T->T->An) =>
  bM m ((x3.rows.getD (Int.toNat x6.int) []).getD 0 dflt) (T.i (IntKind.i64.wrap (x1.int * 1000))) (T.i (IntKind.i64.wrap ((IntKind.i64.wrap ((IntKind.i64.wrap (x1.int * 1000))+x2.int))-1)))
  (fun y0=>cond ((!y0.bool)==false)
  (cond ((decide (x6.int > 0))==true)
  (cond (decide ((0:Int)<=(IntKind.i64.wrap (x6.int-1))/\(IntKind.i64.wrap (x6.int-1))<(x3.rows.length:Int)))
  (cond ((decide (((x3.rows.getD (Int.toNat (IntKind.i64.wrap (x6.int-1))) []).getD 0 dflt).int>=((x3.rows.getD (Int.toNat x6.int) []).getD 0 dflt).int))==false)
  (mq m (T.l ((x3.rows.getD (Int.toNat x6.int) []).getD 1 dflt).rows)
  (fun y1=>cond ((!y1.bool)==false)
  (bM m ((x3.rows.getD (Int.toNat x6.int) []).getD 2 dflt) (T.i 1) (T.i 3)
  (fun y2=>cond (!y2.bool)
  (k0 (T.b false))
  (j33 ((x3.rows.getD (Int.toNat x6.int) []).getD 0 dflt) ((x3.rows.getD (Int.toNat x6.int) []).getD 1 dflt) ((x3.rows.getD (Int.toNat x6.int) []).getD 2 dflt) ((x3.rows.getD (Int.toNat x6.int) []).getD 3 dflt))))
  (k0 (T.b false))))
  (k0 (T.b false)))
  (.bad))
  (mq m (T.l ((x3.rows.getD (Int.toNat x6.int) []).getD 1 dflt).rows)
  (fun y3=>cond ((!y3.bool)==false)
  (bM m ((x3.rows.getD (Int.toNat x6.int) []).getD 2 dflt) (T.i 1) (T.i 3)
  (fun y4=>cond (!y4.bool)
  (k0 (T.b false))
  (j33 ((x3.rows.getD (Int.toNat x6.int) []).getD 0 dflt) ((x3.rows.getD (Int.toNat x6.int) []).getD 1 dflt) ((x3.rows.getD (Int.toNat x6.int) []).getD 2 dflt) ((x3.rows.getD (Int.toNat x6.int) []).getD 3 dflt))))
  (k0 (T.b false)))))
  (k0 (T.b false))))
  (fun nP ou oF y13=>gK m (T.l ou.rows) x0
  (fun pJ=>jh m m (T.i 0) (T.i 0) (T.l pJ.rows) (T.i 0) x0 x1 x2 (T.l x3.rows) (T.l x4.rows) x5 nP ou oF y13
  (fun u7=>k0 u7)
  (fun Ku y20 y21 y22 y23 y24 y25 Ra y27 y28 y29 UR=>jI m y21 y22 y23 (T.l y24.rows) (T.l y25.rows) Ra y27
  (fun y31=>cond (decide (y31.int<0))
  (k0 (T.b (y29.int==1)))
  (cond ((y29.int==2)==true)
  (cond (decide ((0:Int)<=y31.int/\y31.int<(y25.rows.length:Int)))
  (cond ((((y25.rows.getD (Int.toNat y31.int) []).drop 1).getD 0 dflt).bool==false)
  (cond ((y29.int==3)==true)
  (cond (decide ((0:Int)<=y31.int/\y31.int<(y25.rows.length:Int)))
  (k0 (T.b (!(((y25.rows.getD (Int.toNat y31.int) []).drop 1).getD 0 dflt).bool)))
  (.bad))
  (k0 (T.b false)))
  (k0 (T.b true)))
  (.bad))
  (cond ((y29.int==3)==true)
  (cond (decide ((0:Int)<=y31.int/\y31.int<(y25.rows.length:Int)))
  (k0 (T.b (!(((y25.rows.getD (Int.toNat y31.int) []).drop 1).getD 0 dflt).bool)))
  (.bad))
  (k0 (T.b false)))))))))
  (.bad)
def DL:Fs:=⟨96,[.agg [AI,AI,AI,.dz tJ [],.dz tC [],AI],.one (AI)],fun m vs k=>ap 7 (Cq m) vs (lm 1 fun z=>k (bg ⟨[.one (RB)],[[none,none,none,none,none,none],[none]],[none,none]⟩ z))⟩
def Xq:List Ls:=[⟨[0,1,0,1,1,1,1],⟨[(2,EP 0),(5,EP 1),(6,.one (LZ tI)),(7,.one (LI))],[((KI 0),.box [LI,LI,LI,LD tJ,LD tC,LI]),((KI 1),.box [LI,LD tO,LI,LD tI]),([4000000],.gone)]⟩,fun m n vs k=>ap 14 (jh m n) vs (lm 1 fun z=>k .ret (aG ⟨[(4,.one (LB))],[]⟩ z)) (lm 12 fun z=>k (.exit 0) (aG ⟨[(2,EP 0),(5,EP 1)],[((KI 0),.box [LI,LI,LI,LD tJ,LD tC,LI]),((KI 1),.box [LI,LD tO,LI,LD tI]),([4000000],.gone)]⟩ z))⟩]
def Lj:List Fs:=DL::QG
theorem Xr:aM CX au Lj/\aY CX au DL:=fF abT.1 DL Tryz.f96 ⟨96,2,128,16⟩ Xq (fun _ _=>rfl) (fun _ _ _=>by kernel_rfl) ⟨fun _ _ _=>rfl,trivial⟩ ⟨fun _ _ _ _ _ _=>by kernel_rfl,trivial⟩ (fun _ _ _ _ _=>by kernel_rfl)
def kg (m:Nat):Nat->T->T->T->T->T->T->T->T->(T->An)->An->An
 | 0,_,_,_,_,_,_,_,_,_,_=>.bad
 | n+1,x0,x1,x2,x3,x4,x5,x6,x7,k0,k1 =>
  cond (decide (x1.int<(x5.rows.length:Int)))
  (Cq m x2 x3 x4 (T.l x5.rows) (T.l x6.rows) x7 x1
  (fun xE=>cond (!xE.bool)
  (k0 (T.b false))
  (kg m n (T.i (x0.int.toNat:Int)) (T.i (IntKind.i64.wrap (x1.int+1))) x2 x3 x4 x5 x6 x7 k0 k1)))
  (k1 )
def kr (m:Nat):Nat->T->T->T->T->T->T->T->T->(T->An)->(T->T->T->T->T->T->T->An)->An
 | 0,_,_,_,_,_,_,_,_,_,_=>.bad
 | n+1,x0,x1,x2,x3,x4,x5,x6,x7,k0,k1 =>
  cond (decide (x1.int<(x6.rows.length:Int)))
  (cond (decide ((0:Int)<=x1.int/\x1.int<(x6.rows.length:Int)))
  (bM m ((x6.rows.getD (Int.toNat x1.int) []).getD 0 dflt) (T.i 1000) (T.i (IntKind.i64.wrap ((IntKind.i64.wrap ((IntKind.i64.wrap (x3.int * 1000))+x4.int))-1)))
  (fun y5=>cond ((!y5.bool)==false)
  (cond (decide ((0:Int)<=x1.int/\x1.int<(x6.rows.length:Int)))
  (jI m x2 x3 x4 (T.l x5.rows) (T.l x6.rows) x7 ((x6.rows.getD (Int.toNat x1.int) []).getD 0 dflt)
  (fun y6=>cond (y6.int != x1.int)
  (k0 (T.b false))
  (kr m n (T.i (x0.int.toNat:Int)) (T.i (IntKind.i64.wrap (x1.int+1))) x2 x3 x4 x5 x6 x7 k0 k1)))
  (.bad))
  (k0 (T.b false))))
  (.bad))
  (k1 (T.i (x0.int.toNat:Int)) x2 x3 x4 x5 x6 x7)
def zi:Nat->T->T->T->T->T->T->(T->An)->An
 | 0,_,_,_,_,_,_,_=>.bad
 | m+1,x0,x1,x2,x3,x4,x5,k0 =>
  jn (fun (j18:An) =>
  bM m x0 (T.i 1) (T.i 8)
  (fun y0=>cond ((!y0.bool)==false)
  (bM m x1 (T.i 1) (T.i 900)
  (fun y1=>cond ((!y1.bool)==false)
  (bM m x2 (T.i 0) (T.i 999)
  (fun y2=>cond ((!y2.bool)==false)
  (cond ((decide ((x4.rows.length:Int) > 1000))==false)
  (bM m x5 (T.i 0) (T.i (x4.rows.length:Int))
  (fun y3=>cond (!y3.bool)
  (k0 (T.b false))
  (j18)))
  (k0 (T.b false)))
  (k0 (T.b false))))
  (k0 (T.b false))))
  (k0 (T.b false))))
  (kr m m (T.i 0) (T.i 0) x0 x1 x2 (T.l x3.rows) (T.l x4.rows) x5
  (fun y8=>k0 y8)
  (fun y9 nP ou oF y13 pJ uh=>kg m m (T.i (y9.int.toNat:Int)) (T.i 0) nP ou oF y13 pJ uh
  (fun vL=>k0 vL)
  (k0 (T.b true))))
def AU:Fs:=⟨57,[.agg [AI,AI,AI,.dz tJ [],.dz tC [],AI]],fun m vs k=>ap 6 (zi m) vs (lm 1 fun z=>k (bg ⟨[.one (RB)],[[none,none,none,none,none,none]],[none]⟩ z))⟩
def Vi:List Ls:=[⟨[0,1,0,1,1,1],⟨[(1,EP 0),(4,.one (LI))],[((KI 0),.box [LI,LI,LI,LD tJ,LD tC,LI]),([4000000],.gone)]⟩,fun m n vs k=>ap 8 (kg m n) vs (lm 1 fun z=>k .ret (aG ⟨[(2,.one (LB))],[]⟩ z)) (lm 0 fun z=>k (.exit 2) (aG ⟨[],[]⟩ z))⟩,⟨[0,1,0,1,1],⟨[(1,EP 0),(3,.one (LI))],[((KI 0),.box [LI,LI,LI,LD tJ,LD tC,LI]),([4000000],.gone)]⟩,fun m n vs k=>ap 8 (kr m n) vs (lm 1 fun z=>k .ret (aG ⟨[(2,.one (LB))],[]⟩ z)) (lm 7 fun z=>k (.exit 0) (aG ⟨[(1,EP 0)],[((KI 0),.box [LI,LI,LI,LD tJ,LD tC,LI]),([4000000],.gone)]⟩ z))⟩]
def JE:List Fs:=AU::Lj
theorem Vj:aM CX au JE/\aY CX au AU:=fF Xr.1 AU Tryz.f57 ⟨57,1,81,4⟩ Vi (fun _ _=>rfl) (fun _ _ _=>by kernel_rfl) ⟨fun _ _ _=>rfl,fun _ _ _=>rfl,trivial⟩ ⟨fun _ _ _ _ _ _=>by kernel_rfl,fun _ _ _ _ _ _=>by kernel_rfl,trivial⟩ (fun _ _ _ _ _=>by kernel_rfl)
def Cr:Nat->T->T->T->T->T->(T->An)->An
 | 0,_,_,_,_,_,_=>.bad
 | m+1,x0,x1,x2,x3,x4,k0 =>
  jn (fun (j8:An) =>
  bM m x1 (T.i 0) (T.i 7)
  (fun y0=>cond ((!y0.bool)==false)
  (bM m x2 (T.i 1) (T.i 1000000)
  (fun y1=>cond (!y1.bool)
  (k0 (T.b false))
  (j8)))
  (k0 (T.b false))))
  (cond (x0.int==1)
  (mq m (T.l x3.rows)
  (fun y3=>cond (y3.bool==true)
  (k0 (T.b (!x4.bool)))
  (k0 (T.b false))))
  ((fun (j7:T->An) =>
  cond (x0.int==2)
  (j7 (T.b true))
  (j7 (T.b (x0.int==3))))
  (fun y5=>cond y5.bool
  (k0 (T.b ((x3.rows.length:Int)==0)))
  (cond (x0.int==4)
  (cond (((x3.rows.length:Int)==0)==true)
  (k0 (T.b (!x4.bool)))
  (k0 (T.b false)))
  (k0 (T.b false))))))
def DN:Fs:=⟨97,[.agg [AI,AI,AI,.dz tO [],AB]],fun m vs k=>ap 5 (Cr m) vs (lm 1 fun z=>k (bg ⟨[.one (RB)],[[none,none,none,none,none]],[none]⟩ z))⟩
def Ll:List Fs:=DN::JE
theorem Xt:aM CX au Ll/\aY CX au DN:=fF Vj.1 DN Tryz.f97 ⟨97,1,43,4⟩ [] (fun _ _=>rfl) (fun _ _ _=>by kernel_rfl) trivial trivial (fun _ _ _ _ _=>by kernel_rfl)
def jk (m:Nat):Nat->T->T->T->T->T->T->T->T->T->T->T->T->T->(T->An)->(T->An)->An
 | 0,_,_,_,_,_,_,_,_,_,_,_,_,_,_,_=>.bad
 | n+1,x0,x1,x2,x3,x4,x5,x6,x7,x8,x9,x10,bH,fT,k0,k1 =>
  cond (decide (x2.int<(x0.rows.length:Int)))
  ((fun (j2:An) =>
  cond (decide ((0:Int)<=x2.int/\x2.int<(x0.rows.length:Int)))
  (Cr m ((x0.rows.getD (Int.toNat x2.int) []).getD 0 dflt) ((x0.rows.getD (Int.toNat x2.int) []).getD 1 dflt) ((x0.rows.getD (Int.toNat x2.int) []).getD 2 dflt) (T.l ((x0.rows.getD (Int.toNat x2.int) []).getD 3 dflt).rows) ((x0.rows.getD (Int.toNat x2.int) []).getD 4 dflt)
  (fun y0=>cond ((!y0.bool)==false)
  (cond (decide ((0:Int)<=x2.int/\x2.int<(x0.rows.length:Int)))
  (cond (decide ((((x0.rows.getD (Int.toNat x2.int) []).drop 1).getD 0 dflt).int>=(x9.rows.length:Int)))
  (k0 (T.b false))
  (j2))
  (.bad))
  (k0 (T.b false))))
  (.bad))
  (jk m n x0 (T.i (x1.int.toNat:Int)) (T.i (IntKind.i64.wrap (x2.int+1))) x3 x4 x5 x6 x7 x8 x9 x10 bH fT k0 k1))
  (k1 x0)
def su:Nat->T->T->T->T->T->T->T->T->T->T->T->(T->An)->An
 | 0,_,_,_,_,_,_,_,_,_,_,_,_=>.bad
 | m+1,x0,x1,x2,x3,x4,x5,x6,x7,x8,x9,x10,k0 =>
  jk m m (T.l x10.rows) (T.i 0) (T.i 0) x0 x1 x2 (T.l x3.rows) (T.l x4.rows) x5 (T.l x6.rows) (T.l x7.rows) (T.l x8.rows) (T.l x9.rows)
  (fun y3=>k0 y3)
  (fun y4=>k0 (T.b (decide ((y4.rows.length:Int)<=400))))
def yA:Fs:=⟨58,[.agg [AI,AI,AI,.dz tJ [],.dz tC [],AI,.dz tS [],.dz tW [],.dz tW [],.dz tB []],.one (.dz tW [])],fun m vs k=>ap 11 (su m) vs (lm 1 fun z=>k (bg ⟨[.one (RB)],[[none,none,none,none,none,none,none,none,none,none],[none]],[none,none]⟩ z))⟩
def RG:List Ls:=[⟨[0,1,0,1],⟨[(1,.one (LD tW)),(2,EP 1),(5,.one (LI))],[([4000000],.gone),((KI 1),.box [LI,LI,LI,LD tJ,LD tC,LI,LD tS,LD tW,LD tW,LD tB])]⟩,fun m n vs k=>ap 13 (jk m n) vs (lm 1 fun z=>k .ret (aG ⟨[(4,.one (LB))],[]⟩ z)) (lm 1 fun z=>k (.exit 0) (aG ⟨[(1,.one (LD tW))],[([4000000],.gone)]⟩ z))⟩]
def Hy:List Fs:=yA::Ll
theorem RH:aM CX au Hy/\aY CX au yA:=fF Xt.1 yA Tryz.f58 ⟨58,2,32,16⟩ RG (fun _ _=>rfl) (fun _ _ _=>by kernel_rfl) ⟨fun _ _ _=>rfl,trivial⟩ ⟨fun _ _ _ _ _ _=>by kernel_rfl,trivial⟩ (fun _ _ _ _ _=>by kernel_rfl)
def jl (m:Nat):Nat->T->T->T->T->T->T->T->T->T->T->T->T->T->(T->An)->An->An
 | 0,_,_,_,_,_,_,_,_,_,_,_,_,_,_,_=>.bad
 | n+1,x0,x1,x2,x3,x4,x5,x6,x7,x8,x9,x10,bH,fT,k0,k1 =>
  cond (decide (x2.int<(fT.rows.length:Int)))
  (cond (decide ((0:Int)<=x2.int/\x2.int<(fT.rows.length:Int)))
  (cond (((fT.rows.getD (Int.toNat x2.int) []).getD 0 dflt).int==x0.int)
  (k0 x2)
  (jl m n x0 (T.i (x1.int.toNat:Int)) (T.i (IntKind.i64.wrap (x2.int+1))) x3 x4 x5 x6 x7 x8 x9 x10 bH fT k0 k1))
  (.bad))
  (k1 )
def lF:Nat->T->T->T->T->T->T->T->T->T->T->T->(T->An)->An
 | 0,_,_,_,_,_,_,_,_,_,_,_,_=>.bad
 | m+1,x0,x1,x2,x3,x4,x5,x6,x7,x8,x9,x10,k0 =>
  jl m m x10 (T.i 0) (T.i 0) x0 x1 x2 (T.l x3.rows) (T.l x4.rows) x5 (T.l x6.rows) (T.l x7.rows) (T.l x8.rows) (T.l x9.rows)
  (fun y0=>k0 y0)
  (k0 (T.i (-1)))
def yB:Fs:=⟨63,[.agg [AI,AI,AI,.dz tJ [],.dz tC [],AI,.dz tS [],.dz tW [],.dz tW [],.dz tB []],.one (AI)],fun m vs k=>ap 11 (lF m) vs (lm 1 fun z=>k (bg ⟨[.one (RI)],[[none,none,none,none,none,none,none,none,none,none],[none]],[none,none]⟩ z))⟩
def RJ:List Ls:=[⟨[0,1,0,1],⟨[(1,.one (LI)),(2,EP 0),(5,.one (LI))],[((KI 0),.box [LI,LI,LI,LD tJ,LD tC,LI,LD tS,LD tW,LD tW,LD tB]),([4000000],.gone)]⟩,fun m n vs k=>ap 13 (jl m n) vs (lm 1 fun z=>k .ret (aG ⟨[(4,.one (LI))],[]⟩ z)) (lm 0 fun z=>k (.exit 0) (aG ⟨[],[]⟩ z))⟩]
def Hz:List Fs:=yB::Hy
theorem RN:aM CX au Hz/\aY CX au yB:=fF RH.1 yB Tryz.f63 ⟨63,2,22,16⟩ RJ (fun _ _=>rfl) (fun _ _ _=>by kernel_rfl) ⟨fun _ _ _=>rfl,trivial⟩ ⟨fun _ _ _ _ _ _=>by kernel_rfl,trivial⟩ (fun _ _ _ _ _=>by kernel_rfl)
def ig (m:Nat):Nat->T->T->T->(T->An)->An->An
 | 0,_,_,_,_,_=>.bad
 | n+1,x0,x1,x2,k0,k1 =>
  cond (decide (x2.int<(x0.rows.length:Int)))
  (cond (decide ((0:Int)<=x2.int/\x2.int<(x0.rows.length:Int)))
  (cond (decide ((0:Int)<=x2.int/\x2.int<(x1.rows.length:Int)))
  (cond (!((((x0.rows.getD (Int.toNat x2.int) []).getD 0 dflt).int==((x1.rows.getD (Int.toNat x2.int) []).getD 0 dflt).int)&&((((x0.rows.getD (Int.toNat x2.int) []).getD 1 dflt).str.toList==((x1.rows.getD (Int.toNat x2.int) []).getD 1 dflt).str.toList)&&((((x0.rows.getD (Int.toNat x2.int) []).getD 2 dflt).str.toList==((x1.rows.getD (Int.toNat x2.int) []).getD 2 dflt).str.toList)&&true))))
  (k0 (T.b false))
  (ig m n x0 x1 (T.i (IntKind.i64.wrap (x2.int+1))) k0 k1))
  (.bad))
  (.bad))
  (k1 )
def mE:Nat->T->T->(T->An)->An
 | 0,_,_,_=>.bad
 | m+1,x0,x1,k0 =>
  cond ((x0.rows.length:Int) != (x1.rows.length:Int))
  (k0 (T.b false))
  (ig m m (T.l x0.rows) (T.l x1.rows) (T.i 0)
  (fun y0=>k0 y0)
  (k0 (T.b true)))
def vV:Fs:=⟨64,[.one (.dz tO []),.one (.dz tO [])],fun m vs k=>ap 2 (mE m) vs (lm 1 fun z=>k (bg ⟨[.one (RB)],[[none],[none]],[none,none]⟩ z))⟩
def PL:List Ls:=[⟨[0,1,0,1,1],⟨[(0,.one (LD tO)),(1,.one (LD tO)),(5,.one (LI))],[([4000000],.gone)]⟩,fun m n vs k=>ap 3 (ig m n) vs (lm 1 fun z=>k .ret (aG ⟨[(4,.one (LB))],[]⟩ z)) (lm 0 fun z=>k (.exit 0) (aG ⟨[],[]⟩ z))⟩]
def Ev:List Fs:=vV::Hz
theorem PN:aM CX au Ev/\aY CX au vV:=fF RN.1 vV Tryz.f64 ⟨64,2,26,16⟩ PL (fun _ _=>rfl) (fun _ _ _=>by kernel_rfl) ⟨fun _ _ _=>rfl,trivial⟩ ⟨fun _ _ _ _ _ _=>by kernel_rfl,trivial⟩ (fun _ _ _ _ _=>by kernel_rfl)
def iq (m:Nat):Nat->T->T->T->T->T->T->T->T->T->T->T->T->(T->An)->(T->T->T->T->T->T->T->T->T->T->T->An)->An
 | 0,_,_,_,_,_,_,_,_,_,_,_,_,_,_=>.bad
 | n+1,x0,x1,x2,x3,x4,x5,x6,x7,x8,x9,x10,bH,k0,k1 =>
  cond (decide (x1.int<(x6.rows.length:Int)))
  (cond (decide ((0:Int)<=x1.int/\x1.int<(x6.rows.length:Int)))
  (lF m x2 x3 x4 (T.l x5.rows) (T.l x6.rows) x7 (T.l x8.rows) (T.l x9.rows) (T.l x10.rows) (T.l bH.rows) ((x6.rows.getD (Int.toNat x1.int) []).getD 0 dflt)
  (fun y33=>cond (decide (y33.int<0))
  (k0 (T.b false))
  (iq m n (T.i (x0.int.toNat:Int)) (T.i (IntKind.i64.wrap (x1.int+1))) x2 x3 x4 x5 x6 x7 x8 x9 x10 bH k0 k1)))
  (.bad))
  (k1 (T.i (x0.int.toNat:Int)) x2 x3 x4 x5 x6 x7 x8 x9 x10 bH)
def iw (m:Nat):Nat->T->T->T->T->T->T->T->T->T->T->T->T->(T->An)->(T->T->T->T->T->T->T->T->T->T->T->An)->An
 | 0,_,_,_,_,_,_,_,_,_,_,_,_,_,_=>.bad
 | n+1,x0,x1,x2,x3,x4,x5,x6,x7,x8,x9,x10,bH,k0,k1 =>
  cond (decide (x1.int<(x5.rows.length:Int)))
  ((fun (j20:An) =>
  cond (decide ((0:Int)<=x1.int/\x1.int<(x5.rows.length:Int)))
  (lF m x2 x3 x4 (T.l x5.rows) (T.l x6.rows) x7 (T.l x8.rows) (T.l x9.rows) (T.l x10.rows) (T.l bH.rows) ((x5.rows.getD (Int.toNat x1.int) []).getD 0 dflt)
  (fun vL=>cond ((decide (vL.int<0))==false)
  (cond (decide ((0:Int)<=vL.int/\vL.int<(bH.rows.length:Int)))
  (cond (decide ((0:Int)<=x1.int/\x1.int<(x5.rows.length:Int)))
  (mE m (T.l (((bH.rows.getD (Int.toNat vL.int) []).drop 1).getD 0 dflt).rows) (T.l (((x5.rows.getD (Int.toNat x1.int) []).drop 1).getD 0 dflt).rows)
  (fun u7=>cond (!u7.bool)
  (k0 (T.b false))
  (j20)))
  (.bad))
  (.bad))
  (k0 (T.b false))))
  (.bad))
  (iw m n (T.i (x0.int.toNat:Int)) (T.i (IntKind.i64.wrap (x1.int+1))) x2 x3 x4 x5 x6 x7 x8 x9 x10 bH k0 k1))
  (k1 (T.i (x0.int.toNat:Int)) x2 x3 x4 x5 x6 x7 x8 x9 x10 bH)
def iy (m:Nat):Nat->T->T->T->T->T->T->T->T->T->T->T->T->(T->An)->(T->T->T->T->T->T->T->T->T->T->T->An)->An
 | 0,_,_,_,_,_,_,_,_,_,_,_,_,_,_=>.bad
 | n+1,x0,x1,x2,x3,x4,x5,x6,x7,x8,x9,x10,bH,k0,k1 =>
  cond (decide (x1.int<(bH.rows.length:Int)))
  ((fun (j4:An) =>
  cond (decide ((0:Int)<=x1.int/\x1.int<(bH.rows.length:Int)))
  (mq m (T.l (((bH.rows.getD (Int.toNat x1.int) []).drop 1).getD 0 dflt).rows)
  (fun y0=>cond ((!y0.bool)==false)
  (cond (decide ((0:Int)<=x1.int/\x1.int<(bH.rows.length:Int)))
  (lF m x2 x3 x4 (T.l x5.rows) (T.l x6.rows) x7 (T.l x8.rows) (T.l x9.rows) (T.l x10.rows) (T.l bH.rows) ((bH.rows.getD (Int.toNat x1.int) []).getD 0 dflt)
  (fun y1=>cond ((y1.int != x1.int)==false)
  (cond (decide ((0:Int)<=x1.int/\x1.int<(bH.rows.length:Int)))
  (bM m ((bH.rows.getD (Int.toNat x1.int) []).getD 0 dflt) (T.i 1000) (T.i (IntKind.i64.wrap ((IntKind.i64.wrap ((IntKind.i64.wrap (x3.int * 1000))+x4.int))-1)))
  (fun y2=>cond (!y2.bool)
  (k0 (T.b false))
  (j4)))
  (.bad))
  (k0 (T.b false))))
  (.bad))
  (k0 (T.b false))))
  (.bad))
  (iy m n (T.i (x0.int.toNat:Int)) (T.i (IntKind.i64.wrap (x1.int+1))) x2 x3 x4 x5 x6 x7 x8 x9 x10 bH k0 k1))
  (k1 (T.i (x0.int.toNat:Int)) x2 x3 x4 x5 x6 x7 x8 x9 x10 bH)
def uU:Nat->T->T->T->T->T->T->T->T->T->T->(T->An)->An
 | 0,_,_,_,_,_,_,_,_,_,_,_=>.bad
 | m+1,x0,x1,x2,x3,x4,x5,x6,x7,x8,x9,k0 =>
  iy m m (T.i 0) (T.i 0) x0 x1 x2 (T.l x3.rows) (T.l x4.rows) x5 (T.l x6.rows) (T.l x7.rows) (T.l x8.rows) (T.l x9.rows)
  (fun y5=>k0 y5)
  (fun y6 y7 y8 y9 nP ou oF y13 pJ uh xE=>iw m m (T.i (y6.int.toNat:Int)) (T.i 0) y7 y8 y9 nP ou oF y13 pJ uh xE
  (fun y21=>k0 y21)
  (fun y22 y23 y24 y25 Ra y27 y28 y29 UR y31 y32=>iq m m (T.i (y22.int.toNat:Int)) (T.i 0) y23 y24 y25 Ra y27 y28 y29 UR y31 y32
  (fun y34=>k0 y34)
  (fun y35 y36 y37 y38 y39 y40 y41 y42 y43 y44 y45=>k0 (T.b (decide ((y45.rows.length:Int)<=1000))))))
def vW:Fs:=⟨59,[.agg [AI,AI,AI,.dz tJ [],.dz tC [],AI,.dz tS [],.dz tW [],.dz tW [],.dz tB []]],fun m vs k=>ap 10 (uU m) vs (lm 1 fun z=>k (bg ⟨[.one (RB)],[[none,none,none,none,none,none,none,none,none,none]],[none]⟩ z))⟩
def PO:List Ls:=[⟨[0,1,0,1,1,1],⟨[(1,EP 0),(6,.one (LI))],[((KI 0),.box [LI,LI,LI,LD tJ,LD tC,LI,LD tS,LD tW,LD tW,LD tB]),([4000000],.gone)]⟩,fun m n vs k=>ap 12 (iq m n) vs (lm 1 fun z=>k .ret (aG ⟨[(2,.one (LB))],[]⟩ z)) (lm 11 fun z=>k (.exit 4) (aG ⟨[(1,EP 0)],[((KI 0),.box [LI,LI,LI,LD tJ,LD tC,LI,LD tS,LD tW,LD tW,LD tB]),([4000000],.gone)]⟩ z))⟩,⟨[0,1,0,1,1],⟨[(1,EP 0),(4,.one (LI))],[((KI 0),.box [LI,LI,LI,LD tJ,LD tC,LI,LD tS,LD tW,LD tW,LD tB]),([4000000],.gone)]⟩,fun m n vs k=>ap 12 (iw m n) vs (lm 1 fun z=>k .ret (aG ⟨[(2,.one (LB))],[]⟩ z)) (lm 11 fun z=>k (.exit 2) (aG ⟨[(1,EP 0)],[((KI 0),.box [LI,LI,LI,LD tJ,LD tC,LI,LD tS,LD tW,LD tW,LD tB]),([4000000],.gone)]⟩ z))⟩,⟨[0,1,0,1],⟨[(1,EP 0),(3,.one (LI))],[((KI 0),.box [LI,LI,LI,LD tJ,LD tC,LI,LD tS,LD tW,LD tW,LD tB]),([4000000],.gone)]⟩,fun m n vs k=>ap 12 (iy m n) vs (lm 1 fun z=>k .ret (aG ⟨[(2,.one (LB))],[]⟩ z)) (lm 11 fun z=>k (.exit 0) (aG ⟨[(1,EP 0)],[((KI 0),.box [LI,LI,LI,LD tJ,LD tC,LI,LD tS,LD tW,LD tW,LD tB]),([4000000],.gone)]⟩ z))⟩]
def Ew:List Fs:=vW::Ev
theorem PS:aM CX au Ew/\aY CX au vW:=fF PN.1 vW Tryz.f59 ⟨59,1,111,4⟩ PO (fun _ _=>rfl) (fun _ _ _=>by kernel_rfl) ⟨fun _ _ _=>rfl,fun _ _ _=>rfl,fun _ _ _=>rfl,trivial⟩ ⟨fun _ _ _ _ _ _=>by kernel_rfl,fun _ _ _ _ _ _=>by kernel_rfl,fun _ _ _ _ _ _=>by kernel_rfl,trivial⟩ (fun _ _ _ _ _=>by kernel_rfl)
def fO (m:Nat):Nat->T->T->T->(T->An)->An->An
 | 0,_,_,_,_,_=>.bad
 | n+1,x0,x1,x2,k0,k1 =>
  cond (decide (x2.int<(x0.rows.length:Int)))
  (cond (decide ((0:Int)<=x2.int/\x2.int<(x0.rows.length:Int)))
  (cond (decide ((0:Int)<=x2.int/\x2.int<(x1.rows.length:Int)))
  (cond (!((((x0.rows.getD (Int.toNat x2.int) []).getD 0 dflt).str.toList==((x1.rows.getD (Int.toNat x2.int) []).getD 0 dflt).str.toList)&&((((x0.rows.getD (Int.toNat x2.int) []).getD 1 dflt).str.toList==((x1.rows.getD (Int.toNat x2.int) []).getD 1 dflt).str.toList)&&true)))
  (k0 (T.b false))
  (fO m n x0 x1 (T.i (IntKind.i64.wrap (x2.int+1))) k0 k1))
  (.bad))
  (.bad))
  (k1 )
def qY:Nat->T->T->(T->An)->An
 | 0,_,_,_=>.bad
 | m+1,x0,x1,k0 =>
  cond ((x0.rows.length:Int) != (x1.rows.length:Int))
  (k0 (T.b false))
  (fO m m (T.l x0.rows) (T.l x1.rows) (T.i 0)
  (fun y0=>k0 y0)
  (k0 (T.b true)))
def sW:Fs:=⟨100,[.one (.dz tP []),.one (.dz tP [])],fun m vs k=>ap 2 (qY m) vs (lm 1 fun z=>k (bg ⟨[.one (RB)],[[none],[none]],[none,none]⟩ z))⟩
def Mk:List Ls:=[⟨[0,1,0,1,1],⟨[(0,.one (LD tP)),(1,.one (LD tP)),(5,.one (LI))],[([4000000],.gone)]⟩,fun m n vs k=>ap 3 (fO m n) vs (lm 1 fun z=>k .ret (aG ⟨[(4,.one (LB))],[]⟩ z)) (lm 0 fun z=>k (.exit 0) (aG ⟨[],[]⟩ z))⟩]
def AV:List Fs:=sW::Ew
theorem Ml:aM CX au AV/\aY CX au sW:=fF PS.1 sW Tryz.f100 ⟨100,2,26,16⟩ Mk (fun _ _=>rfl) (fun _ _ _=>by kernel_rfl) ⟨fun _ _ _=>rfl,trivial⟩ ⟨fun _ _ _ _ _ _=>by kernel_rfl,trivial⟩ (fun _ _ _ _ _=>by kernel_rfl)
def gB (m:Nat):Nat->T->T->T->(T->An)->An->An
 | 0,_,_,_,_,_=>.bad
 | n+1,x0,x1,x2,k0,k1 =>
  cond (decide (x2.int<(x0.rows.length:Int)))
  (cond (decide ((0:Int)<=x2.int/\x2.int<(x0.rows.length:Int)))
  (cond (decide ((0:Int)<=x2.int/\x2.int<(x1.rows.length:Int)))
  (cond ((((x0.rows.getD (Int.toNat x2.int) []).getD 0 dflt).int != ((x1.rows.getD (Int.toNat x2.int) []).getD 0 dflt).int)==false)
  (cond (decide ((0:Int)<=x2.int/\x2.int<(x0.rows.length:Int)))
  (cond (decide ((0:Int)<=x2.int/\x2.int<(x1.rows.length:Int)))
  (cond (((((x0.rows.getD (Int.toNat x2.int) []).drop 1).getD 0 dflt).int != (((x1.rows.getD (Int.toNat x2.int) []).drop 1).getD 0 dflt).int)==false)
  (cond (decide ((0:Int)<=x2.int/\x2.int<(x0.rows.length:Int)))
  (cond (decide ((0:Int)<=x2.int/\x2.int<(x1.rows.length:Int)))
  (mE m (T.l (((x0.rows.getD (Int.toNat x2.int) []).drop 2).getD 0 dflt).rows) (T.l (((x1.rows.getD (Int.toNat x2.int) []).drop 2).getD 0 dflt).rows)
  (fun y0=>cond (!y0.bool)
  (k0 (T.b false))
  (gB m n x0 x1 (T.i (IntKind.i64.wrap (x2.int+1))) k0 k1)))
  (.bad))
  (.bad))
  (k0 (T.b false)))
  (.bad))
  (.bad))
  (k0 (T.b false)))
  (.bad))
  (.bad))
  (k1 )
def sM:Nat->T->T->(T->An)->An
 | 0,_,_,_=>.bad
 | m+1,x0,x1,k0 =>
  cond ((x0.rows.length:Int) != (x1.rows.length:Int))
  (k0 (T.b false))
  (gB m m (T.l x0.rows) (T.l x1.rows) (T.i 0)
  (fun y2=>k0 y2)
  (k0 (T.b true)))
def uV:Fs:=⟨101,[.one (.dz tR []),.one (.dz tR [])],fun m vs k=>ap 2 (sM m) vs (lm 1 fun z=>k (bg ⟨[.one (RB)],[[none],[none]],[none,none]⟩ z))⟩
def Ov:List Ls:=[⟨[0,1,0,1,1],⟨[(0,.one (LD tR)),(1,.one (LD tR)),(5,.one (LI))],[([4000000],.gone)]⟩,fun m n vs k=>ap 3 (gB m n) vs (lm 1 fun z=>k .ret (aG ⟨[(4,.one (LB))],[]⟩ z)) (lm 0 fun z=>k (.exit 0) (aG ⟨[],[]⟩ z))⟩]
def Ct:List Fs:=uV::AV
theorem Ow:aM CX au Ct/\aY CX au uV:=fF Ml.1 uV Tryz.f101 ⟨101,2,55,16⟩ Ov (fun _ _=>rfl) (fun _ _ _=>by kernel_rfl) ⟨fun _ _ _=>rfl,trivial⟩ ⟨fun _ _ _ _ _ _=>by kernel_rfl,trivial⟩ (fun _ _ _ _ _=>by kernel_rfl)
def zk:Nat->T->T->T->T->T->(T->An)->An
 | 0,_,_,_,_,_,_=>.bad
 | m+1,x0,x1,x2,x3,x4,k0 =>
  jn (fun (j9:An) =>
  bM m x0 (T.i 0) (T.i 7)
  (fun y0=>cond ((!y0.bool)==false)
  (cond ((decide ((x1.rows.length:Int) > 300))==false)
  (bM m x2 (T.i 0) (T.i (x1.rows.length:Int))
  (fun y1=>cond (!y1.bool)
  (k0 (T.b false))
  (j9)))
  (k0 (T.b false)))
  (k0 (T.b false))))
  (kN m (T.l x1.rows)
  (fun y3 y4 y5=>cond (y5.bool==true)
  (qY m (T.l y3.rows) (T.l x3.rows)
  (fun y6=>cond (y6.bool==true)
  (sM m (T.l y4.rows) (T.l x4.rows)
  (fun y7=>cond (y7.bool==true)
  (k0 (T.b (decide ((IntKind.i64.wrap ((x1.rows.length:Int)+(y4.rows.length:Int)))<=300))))
  (k0 (T.b false))))
  (k0 (T.b false))))
  (k0 (T.b false))))
def AX:Fs:=⟨60,[.agg [AI,.dz tR [],AI,.dz tP [],.dz tR []]],fun m vs k=>ap 5 (zk m) vs (lm 1 fun z=>k (bg ⟨[.one (RB)],[[none,none,none,none,none]],[none]⟩ z))⟩
def JF:List Fs:=AX::Ct
theorem Vk:aM CX au JF/\aY CX au AX:=fF Ow.1 AX Tryz.f60 ⟨60,1,54,4⟩ [] (fun _ _=>rfl) (fun _ _ _=>by kernel_rfl) trivial trivial (fun _ _ _ _ _=>by kernel_rfl)
def ku (m:Nat):Nat->T->T->T->T->T->T->T->T->T->T->T->T->(T->An)->An->An
 | 0,_,_,_,_,_,_,_,_,_,_,_,_,_,_=>.bad
 | n+1,x0,x1,x2,x3,x4,x5,x6,x7,x8,x9,x10,bH,k0,k1 =>
  cond (decide (x1.int<(x8.rows.length:Int)))
  ((fun (j7:An) =>
  cond (decide ((0:Int)<=x1.int/\x1.int<(x8.rows.length:Int)))
  (cond ((((x8.rows.getD (Int.toNat x1.int) []).getD 0 dflt).int != x1.int)==false)
  (cond (decide ((0:Int)<=x1.int/\x1.int<(x8.rows.length:Int)))
  (zk m ((x8.rows.getD (Int.toNat x1.int) []).getD 0 dflt) (T.l ((x8.rows.getD (Int.toNat x1.int) []).getD 1 dflt).rows) ((x8.rows.getD (Int.toNat x1.int) []).getD 2 dflt) (T.l ((x8.rows.getD (Int.toNat x1.int) []).getD 3 dflt).rows) (T.l ((x8.rows.getD (Int.toNat x1.int) []).getD 4 dflt).rows)
  (fun y5=>cond (!y5.bool)
  (k0 (T.b false))
  (j7)))
  (.bad))
  (k0 (T.b false)))
  (.bad))
  (ku m n (T.i (x0.int.toNat:Int)) (T.i (IntKind.i64.wrap (x1.int+1))) x2 x3 x4 x5 x6 x7 x8 x9 x10 bH k0 k1))
  (k1 )
def zl:Nat->T->T->T->T->T->T->T->T->T->T->(T->An)->An
 | 0,_,_,_,_,_,_,_,_,_,_,_=>.bad
 | m+1,x0,x1,x2,x3,x4,x5,x6,x7,x8,x9,k0 =>
  (fun (j9:An) =>
  zi m x0 x1 x2 (T.l x3.rows) (T.l x4.rows) x5
  (fun y0=>cond ((!y0.bool)==false)
  (cond (((x6.rows.length:Int) != x0.int)==false)
  (su m x0 x1 x2 (T.l x3.rows) (T.l x4.rows) x5 (T.l x6.rows) (T.l x7.rows) (T.l x8.rows) (T.l x9.rows) (T.l x7.rows)
  (fun y1=>cond ((!y1.bool)==false)
  (su m x0 x1 x2 (T.l x3.rows) (T.l x4.rows) x5 (T.l x6.rows) (T.l x7.rows) (T.l x8.rows) (T.l x9.rows) (T.l x8.rows)
  (fun y2=>cond ((!y2.bool)==false)
  (uU m x0 x1 x2 (T.l x3.rows) (T.l x4.rows) x5 (T.l x6.rows) (T.l x7.rows) (T.l x8.rows) (T.l x9.rows)
  (fun y3=>cond (!y3.bool)
  (k0 (T.b false))
  (j9)))
  (k0 (T.b false))))
  (k0 (T.b false))))
  (k0 (T.b false)))
  (k0 (T.b false))))
  (ku m m (T.i 0) (T.i 0) x0 x1 x2 (T.l x3.rows) (T.l x4.rows) x5 (T.l x6.rows) (T.l x7.rows) (T.l x8.rows) (T.l x9.rows)
  (fun y8=>k0 y8)
  (k0 (T.b true)))
def AY:Fs:=⟨27,[.agg [AI,AI,AI,.dz tJ [],.dz tC [],AI,.dz tS [],.dz tW [],.dz tW [],.dz tB []]],fun m vs k=>ap 10 (zl m) vs (lm 1 fun z=>k (bg ⟨[.one (RB)],[[none,none,none,none,none,none,none,none,none,none]],[none]⟩ z))⟩
def Vl:List Ls:=[⟨[0,1,0,1,1],⟨[(1,EP 0),(3,.one (LI))],[((KI 0),.box [LI,LI,LI,LD tJ,LD tC,LI,LD tS,LD tW,LD tW,LD tB]),([4000000],.gone)]⟩,fun m n vs k=>ap 12 (ku m n) vs (lm 1 fun z=>k .ret (aG ⟨[(2,.one (LB))],[]⟩ z)) (lm 0 fun z=>k (.exit 0) (aG ⟨[],[]⟩ z))⟩]
def JG:List Fs:=AY::JF
theorem Vm:aM CX au JG/\aY CX au AY:=fF Vk.1 AY Tryz.f27 ⟨27,1,60,4⟩ Vl (fun _ _=>rfl) (fun _ _ _=>by kernel_rfl) ⟨fun _ _ _=>rfl,trivial⟩ ⟨fun _ _ _ _ _ _=>by kernel_rfl,trivial⟩ (fun _ _ _ _ _=>by kernel_rfl)
def gQ (m:Nat):Nat->T->T->T->T->T->(T->An)->An->An
 | 0,_,_,_,_,_,_,_=>.bad
 | n+1,x0,x1,x2,x3,x4,k0,k1 =>
  jn (fun (j2:An) =>
  cond ((decide (x4.int<x1.int))==true)
  (cond (decide (x4.int<(x0.rows.length:Int)))
  (j2)
  (k1 ))
  (k1 ))
  (cond (decide ((0:Int)<=x4.int/\x4.int<(x0.rows.length:Int)))
  (cond ((((x0.rows.getD (Int.toNat x4.int) []).getD 0 dflt).int==x2.int)==true)
  (cond (decide ((0:Int)<=x4.int/\x4.int<(x0.rows.length:Int)))
  (cond ((((x0.rows.getD (Int.toNat x4.int) []).drop 1).getD 0 dflt).int==x3.int)
  (k0 (T.b true))
  (gQ m n x0 x1 x2 x3 (T.i (IntKind.i64.wrap (x4.int+1))) k0 k1))
  (.bad))
  (gQ m n x0 x1 x2 x3 (T.i (IntKind.i64.wrap (x4.int+1))) k0 k1))
  (.bad))
def qZ:Nat->T->T->T->T->(T->An)->An
 | 0,_,_,_,_,_=>.bad
 | m+1,x0,x1,x2,x3,k0 =>
  gQ m m (T.l x0.rows) x1 x2 x3 (T.i 0)
  (fun y3=>k0 y3)
  (k0 (T.b false))
def AZ:Fs:=⟨61,[.one (.dz tR []),.one (AI),.one (AI),.one (AI)],fun m vs k=>ap 4 (qZ m) vs (lm 1 fun z=>k (bg ⟨[.one (RB)],[[none],[none],[none],[none]],[none,none,none,none]⟩ z))⟩
def Vn:List Ls:=[⟨[0,1,0,1],⟨[(0,.one (LD tR)),(1,.one (LI)),(2,.one (LI)),(3,.one (LI)),(9,.one (LI))],[([4000000],.gone)]⟩,fun m n vs k=>ap 5 (gQ m n) vs (lm 1 fun z=>k .ret (aG ⟨[(8,.one (LB))],[]⟩ z)) (lm 0 fun z=>k (.exit 0) (aG ⟨[],[]⟩ z))⟩]
def JH:List Fs:=AZ::JG
theorem Vo:aM CX au JH/\aY CX au AZ:=fF Vm.1 AZ Tryz.f61 ⟨61,4,37,256⟩ Vn (fun _ _=>rfl) (fun _ _ _=>by kernel_rfl) ⟨fun _ _ _=>rfl,trivial⟩ ⟨fun _ _ _ _ _ _=>by kernel_rfl,trivial⟩ (fun _ _ _ _ _=>by kernel_rfl)
def kC (m:Nat):Nat->T->T->T->T->T->T->T->T->T->T->T->T->T->T->T->(T->An)->(T->T->T->T->T->T->T->T->T->T->T->T->T->T->An)->An
 | 0,_,_,_,_,_,_,_,_,_,_,_,_,_,_,_,_,_=>.bad
 | n+1,x0,x1,x2,x3,x4,x5,x6,x7,x8,x9,x10,bH,fT,kX,xk,k0,k1 =>
  jn (fun (j2:An) =>
  cond ((decide (x4.int<(bH.rows.length:Int)))==true)
  (cond (decide ((0:Int)<=x3.int/\x3.int<(x2.rows.length:Int)))
  (cond (((x2.rows.getD (Int.toNat x3.int) []).getD 0 dflt).int==2)
  (j2)
  (k1 (T.i (x0.int.toNat:Int)) x1 x2 x3 x5 x6 x7 x8 x9 x10 bH fT kX xk))
  (.bad))
  (k1 (T.i (x0.int.toNat:Int)) x1 x2 x3 x5 x6 x7 x8 x9 x10 bH fT kX xk))
  (cond (decide ((0:Int)<=x4.int/\x4.int<(bH.rows.length:Int)))
  (cond (decide ((0:Int)<=x4.int/\x4.int<(bH.rows.length:Int)))
  (cond (decide ((0:Int)<=x3.int/\x3.int<(x2.rows.length:Int)))
  (qZ m (T.l (((bH.rows.getD (Int.toNat x4.int) []).drop 1).getD 0 dflt).rows) (T.i ((((bH.rows.getD (Int.toNat x4.int) []).drop 1).getD 0 dflt).rows.length:Int)) (T.i 3) (((x2.rows.getD (Int.toNat x3.int) []).drop 1).getD 0 dflt)
  (fun y1=>cond y1.bool
  (k0 (T.b false))
  (kC m n (T.i (x0.int.toNat:Int)) x1 x2 x3 (T.i (IntKind.i64.wrap (x4.int+1))) x5 x6 x7 x8 x9 x10 bH fT kX xk k0 k1)))
  (.bad))
  (.bad))
  (.bad))
def kD (m:Nat):Nat->T->T->T->T->T->T->T->T->T->T->T->T->T->T->(T->An)->(T->T->T->T->T->T->T->T->T->T->T->T->An)->An
 | 0,_,_,_,_,_,_,_,_,_,_,_,_,_,_,_,_=>.bad
 | n+1,x0,x1,x2,x3,x4,x5,x6,x7,x8,x9,x10,bH,fT,kX,k0,k1 =>
  cond (decide (x3.int<(x2.rows.length:Int)))
  (kC m n (T.i (x0.int.toNat:Int)) x1 x2 x3 (T.i 0) x4 x5 x6 x7 x8 x9 x10 bH fT kX
  (fun y3=>k0 y3)
  (fun y4 y5 y6 y7 y8 y9 nP ou oF y13 pJ uh xE vL=>kD m n (T.i (y4.int.toNat:Int)) y5 y6 (T.i (IntKind.i64.wrap (y7.int+1))) y8 y9 nP ou oF y13 pJ uh xE vL k0 k1))
  (k1 (T.i (x0.int.toNat:Int)) x1 x4 x5 x6 x7 x8 x9 x10 bH fT kX)
def kE (m:Nat):Nat->T->T->T->T->T->T->T->T->T->T->T->T->(T->An)->An->An
 | 0,_,_,_,_,_,_,_,_,_,_,_,_,_,_=>.bad
 | n+1,x0,x1,x2,x3,x4,x5,x6,x7,x8,x9,x10,bH,k0,k1 =>
  cond (decide (x1.int<(x8.rows.length:Int)))
  (cond (decide ((0:Int)<=x1.int/\x1.int<(x8.rows.length:Int)))
  (kD m n (T.i (x0.int.toNat:Int)) x1 (((x8.rows.getD (Int.toNat x1.int) []).drop 1).getD 0 dflt) (T.i 0) x2 x3 x4 x5 x6 x7 x8 x9 x10 bH
  (fun u7=>k0 u7)
  (fun Ku y20 y21 y22 y23 y24 y25 Ra y27 y28 y29 UR=>kE m n (T.i (Ku.int.toNat:Int)) (T.i (IntKind.i64.wrap (y20.int+1))) y21 y22 y23 y24 y25 Ra y27 y28 y29 UR k0 k1))
  (.bad))
  (k1 )
def zm:Nat->T->T->T->T->T->T->T->T->T->T->(T->An)->An
 | 0,_,_,_,_,_,_,_,_,_,_,_=>.bad
 | m+1,x0,x1,x2,x3,x4,x5,x6,x7,x8,x9,k0 =>
  kE m m (T.i 0) (T.i 0) x0 x1 x2 (T.l x3.rows) (T.l x4.rows) x5 (T.l x6.rows) (T.l x7.rows) (T.l x8.rows) (T.l x9.rows)
  (fun y31=>k0 y31)
  (k0 (T.b true))
def A8:Fs:=⟨28,[.agg [AI,AI,AI,.dz tJ [],.dz tC [],AI,.dz tS [],.dz tW [],.dz tW [],.dz tB []]],fun m vs k=>ap 10 (zm m) vs (lm 1 fun z=>k (bg ⟨[.one (RB)],[[none,none,none,none,none,none,none,none,none,none]],[none]⟩ z))⟩
def Vp:List Ls:=[⟨[0,1,0,0,1,0,0,1,1,0,0,1,0,0,1,0,1],⟨[(1,EP 0),(3,.one (LI)),(4,.one (LD tR)),(5,.one (LI)),(6,.one (LI))],[((KI 0),.box [LI,LI,LI,LD tJ,LD tC,LI,LD tS,LD tW,LD tW,LD tB]),([4000000],.gone)]⟩,fun m n vs k=>ap 15 (kC m n) vs (lm 1 fun z=>k .ret (aG ⟨[(2,.one (LB))],[]⟩ z)) (lm 14 fun z=>k (.exit 4) (aG ⟨[(1,EP 0),(3,.one (LI)),(4,.one (LD tR)),(5,.one (LI))],[((KI 0),.box [LI,LI,LI,LD tJ,LD tC,LI,LD tS,LD tW,LD tW,LD tB]),([4000000],.gone)]⟩ z))⟩,⟨[0,1,1,0,0,1,0,0,1,0,1],⟨[(1,EP 0),(3,.one (LI)),(4,.one (LD tR)),(5,.one (LI))],[((KI 0),.box [LI,LI,LI,LD tJ,LD tC,LI,LD tS,LD tW,LD tW,LD tB]),([4000000],.gone)]⟩,fun m n vs k=>ap 14 (kD m n) vs (lm 1 fun z=>k .ret (aG ⟨[(2,.one (LB))],[]⟩ z)) (lm 12 fun z=>k (.exit 2) (aG ⟨[(1,EP 0),(3,.one (LI))],[((KI 0),.box [LI,LI,LI,LD tJ,LD tC,LI,LD tS,LD tW,LD tW,LD tB]),([4000000],.gone)]⟩ z))⟩,⟨[0,1,0,1],⟨[(1,EP 0),(3,.one (LI))],[((KI 0),.box [LI,LI,LI,LD tJ,LD tC,LI,LD tS,LD tW,LD tW,LD tB]),([4000000],.gone)]⟩,fun m n vs k=>ap 12 (kE m n) vs (lm 1 fun z=>k .ret (aG ⟨[(2,.one (LB))],[]⟩ z)) (lm 0 fun z=>k (.exit 0) (aG ⟨[],[]⟩ z))⟩]
def JJ:List Fs:=A8::JH
theorem Vq:aM CX au JJ/\aY CX au A8:=fF Vo.1 A8 Tryz.f28 ⟨28,1,60,4⟩ Vp (fun _ _=>rfl) (fun _ _ _=>by kernel_rfl) ⟨fun _ _ _=>rfl,fun _ _ _=>rfl,fun _ _ _=>rfl,trivial⟩ ⟨fun _ _ _ _ _ _=>by kernel_rfl,fun _ _ _ _ _ _=>by kernel_rfl,fun _ _ _ _ _ _=>by kernel_rfl,trivial⟩ (fun _ _ _ _ _=>by kernel_rfl)
def jm (m:Nat):Nat->T->T->T->T->T->T->T->T->T->(T->An)->An->An
 | 0,_,_,_,_,_,_,_,_,_,_,_=>.bad
 | n+1,x0,x1,x2,x3,x4,x5,x6,x7,x8,k0,k1 =>
  jn (fun (j2:An) =>
  cond ((decide (x2.int<(x7.rows.length:Int)))==true)
  (cond (decide (x2.int<x8.int))
  (j2)
  (k1 ))
  (k1 ))
  (cond (decide ((0:Int)<=x2.int/\x2.int<(x7.rows.length:Int)))
  (cond ((((x7.rows.getD (Int.toNat x2.int) []).getD 0 dflt).int==x0.int)==true)
  (cond (decide ((0:Int)<=x2.int/\x2.int<(x7.rows.length:Int)))
  (cond (((x7.rows.getD (Int.toNat x2.int) []).drop 1).getD 0 dflt).bool
  (k0 (T.b true))
  (jm m n x0 (T.i (x1.int.toNat:Int)) (T.i (IntKind.i64.wrap (x2.int+1))) x3 x4 x5 x6 x7 x8 k0 k1))
  (.bad))
  (jm m n x0 (T.i (x1.int.toNat:Int)) (T.i (IntKind.i64.wrap (x2.int+1))) x3 x4 x5 x6 x7 x8 k0 k1))
  (.bad))
def Cu:Nat->T->T->T->T->T->T->T->(T->An)->An
 | 0,_,_,_,_,_,_,_,_=>.bad
 | m+1,x0,x1,x2,x3,x4,x5,x6,k0 =>
  jm m m x6 (T.i 0) (T.i 0) x0 x1 x2 (T.l x3.rows) (T.l x4.rows) x5
  (fun y3=>k0 y3)
  (k0 (T.b false))
def DR:Fs:=⟨62,[.agg [AI,AI,AI,.dz tJ [],.dz tC [],AI],.one (AI)],fun m vs k=>ap 7 (Cu m) vs (lm 1 fun z=>k (bg ⟨[.one (RB)],[[none,none,none,none,none,none],[none]],[none,none]⟩ z))⟩
def Xu:List Ls:=[⟨[0,1,0,1],⟨[(1,.one (LI)),(2,EP 0),(5,.one (LI))],[((KI 0),.box [LI,LI,LI,LD tJ,LD tC,LI]),([4000000],.gone)]⟩,fun m n vs k=>ap 9 (jm m n) vs (lm 1 fun z=>k .ret (aG ⟨[(4,.one (LB))],[]⟩ z)) (lm 0 fun z=>k (.exit 0) (aG ⟨[],[]⟩ z))⟩]
def Lm:List Fs:=DR::JJ
theorem Xv:aM CX au Lm/\aY CX au DR:=fF Vq.1 DR Tryz.f62 ⟨62,2,35,16⟩ Xu (fun _ _=>rfl) (fun _ _ _=>by kernel_rfl) ⟨fun _ _ _=>rfl,trivial⟩ ⟨fun _ _ _ _ _ _=>by kernel_rfl,trivial⟩ (fun _ _ _ _ _=>by kernel_rfl)
def lX (m:Nat):Nat->T->T->T->T->T->T->T->T->T->T->T->T->T->T->(T->An)->(T->T->T->T->T->T->T->T->T->T->T->T->An)->An
 | 0,_,_,_,_,_,_,_,_,_,_,_,_,_,_,_,_=>.bad
 | n+1,x0,x1,x2,x3,x4,x5,x6,x7,x8,x9,x10,bH,fT,kX,k0,k1 =>
  cond (decide (x3.int<(x2.rows.length:Int)))
  ((fun (j2:An) =>
  cond (decide ((0:Int)<=x3.int/\x3.int<(x2.rows.length:Int)))
  (cond ((((x2.rows.getD (Int.toNat x3.int) []).getD 0 dflt).int==2)==true)
  (cond (decide ((0:Int)<=x3.int/\x3.int<(x2.rows.length:Int)))
  (Cu m x4 x5 x6 (T.l x7.rows) (T.l x8.rows) x9 (((x2.rows.getD (Int.toNat x3.int) []).drop 1).getD 0 dflt)
  (fun y0=>cond (!y0.bool)
  (k0 (T.b false))
  (j2)))
  (.bad))
  (j2))
  (.bad))
  (lX m n (T.i (x0.int.toNat:Int)) x1 x2 (T.i (IntKind.i64.wrap (x3.int+1))) x4 x5 x6 x7 x8 x9 x10 bH fT kX k0 k1))
  (k1 (T.i (x0.int.toNat:Int)) x1 x4 x5 x6 x7 x8 x9 x10 bH fT kX)
def lY (m:Nat):Nat->T->T->T->T->T->T->T->T->T->T->T->T->(T->An)->An->An
 | 0,_,_,_,_,_,_,_,_,_,_,_,_,_,_=>.bad
 | n+1,x0,x1,x2,x3,x4,x5,x6,x7,x8,x9,x10,bH,k0,k1 =>
  cond (decide (x1.int<(x8.rows.length:Int)))
  (cond (decide ((0:Int)<=x1.int/\x1.int<(x8.rows.length:Int)))
  (lX m n (T.i (x0.int.toNat:Int)) x1 (((x8.rows.getD (Int.toNat x1.int) []).drop 1).getD 0 dflt) (T.i 0) x2 x3 x4 x5 x6 x7 x8 x9 x10 bH
  (fun y3=>k0 y3)
  (fun y4 y5 y6 y7 y8 y9 nP ou oF y13 pJ uh=>lY m n (T.i (y4.int.toNat:Int)) (T.i (IntKind.i64.wrap (y5.int+1))) y6 y7 y8 y9 nP ou oF y13 pJ uh k0 k1))
  (.bad))
  (k1 )
def Cv:Nat->T->T->T->T->T->T->T->T->T->T->(T->An)->An
 | 0,_,_,_,_,_,_,_,_,_,_,_=>.bad
 | m+1,x0,x1,x2,x3,x4,x5,x6,x7,x8,x9,k0 =>
  lY m m (T.i 0) (T.i 0) x0 x1 x2 (T.l x3.rows) (T.l x4.rows) x5 (T.l x6.rows) (T.l x7.rows) (T.l x8.rows) (T.l x9.rows)
  (fun xE=>k0 xE)
  (k0 (T.b true))
def DT:Fs:=⟨29,[.agg [AI,AI,AI,.dz tJ [],.dz tC [],AI,.dz tS [],.dz tW [],.dz tW [],.dz tB []]],fun m vs k=>ap 10 (Cv m) vs (lm 1 fun z=>k (bg ⟨[.one (RB)],[[none,none,none,none,none,none,none,none,none,none]],[none]⟩ z))⟩
def Xw:List Ls:=[⟨[0,1,1,0,0,1,0,0,1,0,1],⟨[(1,EP 0),(3,.one (LI)),(4,.one (LD tR)),(5,.one (LI))],[((KI 0),.box [LI,LI,LI,LD tJ,LD tC,LI,LD tS,LD tW,LD tW,LD tB]),([4000000],.gone)]⟩,fun m n vs k=>ap 14 (lX m n) vs (lm 1 fun z=>k .ret (aG ⟨[(2,.one (LB))],[]⟩ z)) (lm 12 fun z=>k (.exit 2) (aG ⟨[(1,EP 0),(3,.one (LI))],[((KI 0),.box [LI,LI,LI,LD tJ,LD tC,LI,LD tS,LD tW,LD tW,LD tB]),([4000000],.gone)]⟩ z))⟩,⟨[0,1,0,1],⟨[(1,EP 0),(3,.one (LI))],[((KI 0),.box [LI,LI,LI,LD tJ,LD tC,LI,LD tS,LD tW,LD tW,LD tB]),([4000000],.gone)]⟩,fun m n vs k=>ap 12 (lY m n) vs (lm 1 fun z=>k .ret (aG ⟨[(2,.one (LB))],[]⟩ z)) (lm 0 fun z=>k (.exit 0) (aG ⟨[],[]⟩ z))⟩]
def Lp:List Fs:=DT::Lm
theorem Xx:aM CX au Lp/\aY CX au DT:=fF Xv.1 DT Tryz.f29 ⟨29,1,42,4⟩ Xw (fun _ _=>rfl) (fun _ _ _=>by kernel_rfl) ⟨fun _ _ _=>rfl,fun _ _ _=>rfl,trivial⟩ ⟨fun _ _ _ _ _ _=>by kernel_rfl,fun _ _ _ _ _ _=>by kernel_rfl,trivial⟩ (fun _ _ _ _ _=>by kernel_rfl)
def nA (m:Nat):Nat->T->T->T->T->T->T->T->T->T->T->T->T->T->T->(T->An)->(T->T->T->T->T->T->T->T->T->T->T->T->An)->An
 | 0,_,_,_,_,_,_,_,_,_,_,_,_,_,_,_,_=>.bad
 | n+1,x0,x1,x2,x3,x4,x5,x6,x7,x8,x9,x10,bH,fT,kX,k0,k1 =>
  cond (decide (x3.int<(x2.rows.length:Int)))
  ((fun (j4:An) =>
  cond (decide ((0:Int)<=x3.int/\x3.int<(x2.rows.length:Int)))
  (cond (((x2.rows.getD (Int.toNat x3.int) []).getD 0 dflt).int != 1)
  (j4)
  (cond (decide ((0:Int)<=x3.int/\x3.int<(x2.rows.length:Int)))
  (lF m x4 x5 x6 (T.l x7.rows) (T.l x8.rows) x9 (T.l x10.rows) (T.l bH.rows) (T.l fT.rows) (T.l kX.rows) (((x2.rows.getD (Int.toNat x3.int) []).drop 1).getD 0 dflt)
  (fun y0=>cond ((decide (y0.int<0))==false)
  (cond (decide ((0:Int)<=x3.int/\x3.int<(x2.rows.length:Int)))
  (cond (decide ((0:Int)<=y0.int/\y0.int<(kX.rows.length:Int)))
  (cond (decide ((0:Int)<=x1.int/\x1.int<(x10.rows.length:Int)))
  (xu m (T.l (((kX.rows.getD (Int.toNat y0.int) []).drop 1).getD 0 dflt).rows) ((x10.rows.getD (Int.toNat x1.int) []).getD 0 dflt) x4
  (fun y1=>mE m (T.l (((x2.rows.getD (Int.toNat x3.int) []).drop 2).getD 0 dflt).rows) (T.l y1.rows)
  (fun y2=>cond (!y2.bool)
  (k0 (T.b false))
  (j4))))
  (.bad))
  (.bad))
  (.bad))
  (k0 (T.b false))))
  (.bad)))
  (.bad))
  (nA m n (T.i (x0.int.toNat:Int)) x1 x2 (T.i (IntKind.i64.wrap (x3.int+1))) x4 x5 x6 x7 x8 x9 x10 bH fT kX k0 k1))
  (k1 (T.i (x0.int.toNat:Int)) x1 x4 x5 x6 x7 x8 x9 x10 bH fT kX)
def nC (m:Nat):Nat->T->T->T->T->T->T->T->T->T->T->T->T->(T->An)->An->An
 | 0,_,_,_,_,_,_,_,_,_,_,_,_,_,_=>.bad
 | n+1,x0,x1,x2,x3,x4,x5,x6,x7,x8,x9,x10,bH,k0,k1 =>
  cond (decide (x1.int<(x8.rows.length:Int)))
  (cond (decide ((0:Int)<=x1.int/\x1.int<(x8.rows.length:Int)))
  (nA m n (T.i (x0.int.toNat:Int)) x1 (((x8.rows.getD (Int.toNat x1.int) []).drop 1).getD 0 dflt) (T.i 0) x2 x3 x4 x5 x6 x7 x8 x9 x10 bH
  (fun y5=>k0 y5)
  (fun y6 y7 y8 y9 nP ou oF y13 pJ uh xE vL=>nC m n (T.i (y6.int.toNat:Int)) (T.i (IntKind.i64.wrap (y7.int+1))) y8 y9 nP ou oF y13 pJ uh xE vL k0 k1))
  (.bad))
  (k1 )
def Gq:Nat->T->T->T->T->T->T->T->T->T->T->(T->An)->An
 | 0,_,_,_,_,_,_,_,_,_,_,_=>.bad
 | m+1,x0,x1,x2,x3,x4,x5,x6,x7,x8,x9,k0 =>
  nC m m (T.i 0) (T.i 0) x0 x1 x2 (T.l x3.rows) (T.l x4.rows) x5 (T.l x6.rows) (T.l x7.rows) (T.l x8.rows) (T.l x9.rows)
  (fun u7=>k0 u7)
  (k0 (T.b true))
def Gr:Fs:=⟨30,[.agg [AI,AI,AI,.dz tJ [],.dz tC [],AI,.dz tS [],.dz tW [],.dz tW [],.dz tB []]],fun m vs k=>ap 10 (Gq m) vs (lm 1 fun z=>k (bg ⟨[.one (RB)],[[none,none,none,none,none,none,none,none,none,none]],[none]⟩ z))⟩
def aap:List Ls:=[⟨[0,1,1,0,0,1,0,0,1,0,1],⟨[(1,EP 0),(3,.one (LI)),(4,.one (LD tR)),(5,.one (LI))],[((KI 0),.box [LI,LI,LI,LD tJ,LD tC,LI,LD tS,LD tW,LD tW,LD tB]),([4000000],.gone)]⟩,fun m n vs k=>ap 14 (nA m n) vs (lm 1 fun z=>k .ret (aG ⟨[(2,.one (LB))],[]⟩ z)) (lm 12 fun z=>k (.exit 2) (aG ⟨[(1,EP 0),(3,.one (LI))],[((KI 0),.box [LI,LI,LI,LD tJ,LD tC,LI,LD tS,LD tW,LD tW,LD tB]),([4000000],.gone)]⟩ z))⟩,⟨[0,1,0,1],⟨[(1,EP 0),(3,.one (LI))],[((KI 0),.box [LI,LI,LI,LD tJ,LD tC,LI,LD tS,LD tW,LD tW,LD tB]),([4000000],.gone)]⟩,fun m n vs k=>ap 12 (nC m n) vs (lm 1 fun z=>k .ret (aG ⟨[(2,.one (LB))],[]⟩ z)) (lm 0 fun z=>k (.exit 0) (aG ⟨[],[]⟩ z))⟩]
def Ox:List Fs:=Gr::Lp
theorem aaq:aM CX au Ox/\aY CX au Gr:=fF Xx.1 Gr Tryz.f30 ⟨30,1,66,4⟩ aap (fun _ _=>rfl) (fun _ _ _=>by kernel_rfl) ⟨fun _ _ _=>rfl,fun _ _ _=>rfl,trivial⟩ ⟨fun _ _ _ _ _ _=>by kernel_rfl,fun _ _ _ _ _ _=>by kernel_rfl,trivial⟩ (fun _ _ _ _ _=>by kernel_rfl)
def kF (m:Nat):Nat->T->T->T->T->T->T->T->T->T->T->T->T->T->T->T->T->(T->An)->An->An
 | 0,_,_,_,_,_,_,_,_,_,_,_,_,_,_,_,_,_,_=>.bad
 | n+1,x0,x1,x2,x3,x4,x5,x6,x7,x8,x9,x10,bH,fT,kX,xk,KU,k0,k1 =>
  cond (decide (x3.int<(x2.rows.length:Int)))
  ((fun (j4:An) =>
  cond (decide ((0:Int)<=x3.int/\x3.int<(x2.rows.length:Int)))
  (cond (decide (((x2.rows.getD (Int.toNat x3.int) []).getD 0 dflt).int>=(x10.rows.length:Int)))
  (k0 (T.b false))
  (cond (decide ((0:Int)<=x3.int/\x3.int<(x2.rows.length:Int)))
  (cond (decide ((0:Int)<=((x2.rows.getD (Int.toNat x3.int) []).getD 0 dflt).int/\((x2.rows.getD (Int.toNat x3.int) []).getD 0 dflt).int<(x10.rows.length:Int)))
  (qZ m (T.l ((x10.rows.getD (Int.toNat ((x2.rows.getD (Int.toNat x3.int) []).getD 0 dflt).int) []).getD 1 dflt).rows) ((x10.rows.getD (Int.toNat ((x2.rows.getD (Int.toNat x3.int) []).getD 0 dflt).int) []).getD 2 dflt) (T.i 1) xk
  (fun y1=>cond ((!y1.bool)==true)
  (qZ m (T.l ((x10.rows.getD (Int.toNat ((x2.rows.getD (Int.toNat x3.int) []).getD 0 dflt).int) []).getD 1 dflt).rows) ((x10.rows.getD (Int.toNat ((x2.rows.getD (Int.toNat x3.int) []).getD 0 dflt).int) []).getD 2 dflt) (T.i 2) xk
  (fun y2=>cond (!y2.bool)
  (k0 (T.b false))
  (j4)))
  (j4)))
  (.bad))
  (.bad)))
  (.bad))
  (kF m n (T.i (x0.int.toNat:Int)) (T.i (x1.int.toNat:Int)) x2 (T.i (IntKind.i64.wrap (x3.int+1))) x4 x5 x6 x7 x8 x9 x10 bH fT kX xk KU k0 k1))
  (k1 )
def zn:Nat->T->T->T->T->T->T->T->T->T->T->T->T->(T->An)->An
 | 0,_,_,_,_,_,_,_,_,_,_,_,_,_=>.bad
 | m+1,x0,x1,x2,x3,x4,x5,x6,x7,x8,x9,x10,bH,k0 =>
  gK m (T.l bH.rows) x0
  (fun y0=>kF m m (T.i 0) (T.i 0) (T.l y0.rows) (T.i 0) x0 x1 x2 (T.l x3.rows) (T.l x4.rows) x5 (T.l x6.rows) (T.l x7.rows) (T.l x8.rows) (T.l x9.rows) x10 (T.l bH.rows)
  (fun y5=>k0 y5)
  (k0 (T.b true)))
def A9:Fs:=⟨66,[.agg [AI,AI,AI,.dz tJ [],.dz tC [],AI,.dz tS [],.dz tW [],.dz tW [],.dz tB []],.agg [AI,.dz tO []]],fun m vs k=>ap 12 (zn m) vs (lm 1 fun z=>k (bg ⟨[.one (RB)],[[none,none,none,none,none,none,none,none,none,none],[none,none]],[none,none]⟩ z))⟩
def Vr:List Ls:=[⟨[0,1,0,1,1],⟨[(2,EP 0),(3,EP 1),(5,.one (LZ tI)),(6,.one (LI))],[((KI 0),.box [LI,LI,LI,LD tJ,LD tC,LI,LD tS,LD tW,LD tW,LD tB]),((KI 1),.box [LI,LD tO]),([4000000],.gone)]⟩,fun m n vs k=>ap 16 (kF m n) vs (lm 1 fun z=>k .ret (aG ⟨[(4,.one (LB))],[]⟩ z)) (lm 0 fun z=>k (.exit 0) (aG ⟨[],[]⟩ z))⟩]
def JK:List Fs:=A9::Ox
theorem Vs:aM CX au JK/\aY CX au A9:=fF aaq.1 A9 Tryz.f66 ⟨66,2,54,16⟩ Vr (fun _ _=>rfl) (fun _ _ _=>by kernel_rfl) ⟨fun _ _ _=>rfl,trivial⟩ ⟨fun _ _ _ _ _ _=>by kernel_rfl,trivial⟩ (fun _ _ _ _ _=>by kernel_rfl)
def jo (m:Nat):Nat->T->T->T->T->T->T->T->T->T->T->T->T->(T->An)->An->An
 | 0,_,_,_,_,_,_,_,_,_,_,_,_,_,_=>.bad
 | n+1,x0,x1,x2,x3,x4,x5,x6,x7,x8,x9,x10,bH,k0,k1 =>
  cond (decide (x1.int<(x6.rows.length:Int)))
  ((fun (j3:An) =>
  cond (decide ((0:Int)<=x1.int/\x1.int<(x6.rows.length:Int)))
  (cond (!(((x6.rows.getD (Int.toNat x1.int) []).drop 1).getD 0 dflt).bool)
  (j3)
  (cond (decide ((0:Int)<=x1.int/\x1.int<(x6.rows.length:Int)))
  (lF m x2 x3 x4 (T.l x5.rows) (T.l x6.rows) x7 (T.l x8.rows) (T.l x9.rows) (T.l x10.rows) (T.l bH.rows) ((x6.rows.getD (Int.toNat x1.int) []).getD 0 dflt)
  (fun y0=>cond ((decide (y0.int<0))==false)
  (cond (decide ((0:Int)<=y0.int/\y0.int<(bH.rows.length:Int)))
  (zn m x2 x3 x4 (T.l x5.rows) (T.l x6.rows) x7 (T.l x8.rows) (T.l x9.rows) (T.l x10.rows) (T.l bH.rows) ((bH.rows.getD (Int.toNat y0.int) []).getD 0 dflt) (T.l ((bH.rows.getD (Int.toNat y0.int) []).getD 1 dflt).rows)
  (fun y1=>cond (!y1.bool)
  (k0 (T.b false))
  (j3)))
  (.bad))
  (k0 (T.b false))))
  (.bad)))
  (.bad))
  (jo m n (T.i (x0.int.toNat:Int)) (T.i (IntKind.i64.wrap (x1.int+1))) x2 x3 x4 x5 x6 x7 x8 x9 x10 bH k0 k1))
  (k1 )
def wK:Nat->T->T->T->T->T->T->T->T->T->T->(T->An)->An
 | 0,_,_,_,_,_,_,_,_,_,_,_=>.bad
 | m+1,x0,x1,x2,x3,x4,x5,x6,x7,x8,x9,k0 =>
  jo m m (T.i 0) (T.i 0) x0 x1 x2 (T.l x3.rows) (T.l x4.rows) x5 (T.l x6.rows) (T.l x7.rows) (T.l x8.rows) (T.l x9.rows)
  (fun y4=>k0 y4)
  (k0 (T.b true))
def yC:Fs:=⟨31,[.agg [AI,AI,AI,.dz tJ [],.dz tC [],AI,.dz tS [],.dz tW [],.dz tW [],.dz tB []]],fun m vs k=>ap 10 (wK m) vs (lm 1 fun z=>k (bg ⟨[.one (RB)],[[none,none,none,none,none,none,none,none,none,none]],[none]⟩ z))⟩
def RO:List Ls:=[⟨[0,1,0,1],⟨[(1,EP 0),(3,.one (LI))],[((KI 0),.box [LI,LI,LI,LD tJ,LD tC,LI,LD tS,LD tW,LD tW,LD tB]),([4000000],.gone)]⟩,fun m n vs k=>ap 12 (jo m n) vs (lm 1 fun z=>k .ret (aG ⟨[(2,.one (LB))],[]⟩ z)) (lm 0 fun z=>k (.exit 0) (aG ⟨[],[]⟩ z))⟩]
def HV:List Fs:=yC::JK
theorem RP:aM CX au HV/\aY CX au yC:=fF Vs.1 yC Tryz.f31 ⟨31,1,42,4⟩ RO (fun _ _=>rfl) (fun _ _ _=>by kernel_rfl) ⟨fun _ _ _=>rfl,trivial⟩ ⟨fun _ _ _ _ _ _=>by kernel_rfl,trivial⟩ (fun _ _ _ _ _=>by kernel_rfl)
def Kk:Nat->T->T->T->T->T->T->T->T->T->T->(T->An)->An
 | 0,_,_,_,_,_,_,_,_,_,_,_=>.bad
 | m+1,x0,x1,x2,x3,x4,x5,x6,x7,x8,x9,k0 =>
  zl m x0 x1 x2 (T.l x3.rows) (T.l x4.rows) x5 (T.l x6.rows) (T.l x7.rows) (T.l x8.rows) (T.l x9.rows)
  (fun y0=>cond (!y0.bool)
  (k0 (T.i 1))
  (zm m x0 x1 x2 (T.l x3.rows) (T.l x4.rows) x5 (T.l x6.rows) (T.l x7.rows) (T.l x8.rows) (T.l x9.rows)
  (fun y1=>cond (!y1.bool)
  (k0 (T.i 2))
  (Cv m x0 x1 x2 (T.l x3.rows) (T.l x4.rows) x5 (T.l x6.rows) (T.l x7.rows) (T.l x8.rows) (T.l x9.rows)
  (fun y2=>cond (!y2.bool)
  (k0 (T.i 3))
  (Gq m x0 x1 x2 (T.l x3.rows) (T.l x4.rows) x5 (T.l x6.rows) (T.l x7.rows) (T.l x8.rows) (T.l x9.rows)
  (fun y3=>cond (!y3.bool)
  (k0 (T.i 4))
  (wK m x0 x1 x2 (T.l x3.rows) (T.l x4.rows) x5 (T.l x6.rows) (T.l x7.rows) (T.l x8.rows) (T.l x9.rows)
  (fun y4=>cond (!y4.bool)
  (k0 (T.i 5))
  (k0 (T.i 0)))))))))))
def JL:Fs:=⟨8,[.agg [AI,AI,AI,.dz tJ [],.dz tC [],AI,.dz tS [],.dz tW [],.dz tW [],.dz tB []]],fun m vs k=>ap 10 (Kk m) vs (lm 1 fun z=>k (bg ⟨[.one (RI)],[[none,none,none,none,none,none,none,none,none,none]],[none]⟩ z))⟩
def QH:List Fs:=JL::HV
theorem abU:aM CX au QH/\aY CX au JL:=fF RP.1 JL Tryz.f8 ⟨8,1,23,4⟩ [] (fun _ _=>rfl) (fun _ _ _=>by kernel_rfl) trivial trivial (fun _ _ _ _ _=>by kernel_rfl)
def Mq:Nat->T->(T->An)->An
 | 0,_,_=>.bad
 | m+1,x0,k0 =>
  NJ m (T.l x0.rows)
  (fun y0=>cond y0.bool
  (k0 (T.b true))
  (uM m (T.l x0.rows)
  (fun y1 y2 y3 y4 y5 y6 y7 y8 y9 nP=>Kj m y1 y2 y3 (T.l y4.rows) (T.l y5.rows) y6 (T.l y7.rows) (T.l y8.rows) (T.l y9.rows) (T.l nP.rows)
  (fun ou=>cond ((ou.int==0)==true)
  (Kk m y1 y2 y3 (T.l y4.rows) (T.l y5.rows) y6 (T.l y7.rows) (T.l y8.rows) (T.l y9.rows) (T.l nP.rows)
  (fun oF=>cond ((oF.int==0)==true)
  (uI m y1 y2 y3 (T.l y4.rows) (T.l y5.rows) y6 (T.l y7.rows) (T.l y8.rows) (T.l y9.rows) (T.l nP.rows)
  (fun y13=>cond (y13.bool==true)
  (xD m y1 y2 y3 (T.l y4.rows) (T.l y5.rows) y6 (T.l y7.rows) (T.l y8.rows) (T.l y9.rows) (T.l nP.rows)
  (fun pJ=>cond (pJ.bool==true)
  (AR m y1 y2 y3 (T.l y4.rows) (T.l y5.rows) y6 (T.l y7.rows) (T.l y8.rows) (T.l y9.rows) (T.l nP.rows)
  (fun uh=>cond (uh.bool==true)
  (sj m y1 y2 y3 (T.l y4.rows) (T.l y5.rows) y6 (T.l y7.rows) (T.l y8.rows) (T.l y9.rows) (T.l nP.rows)
  (fun xE=>cond (xE.bool==true)
  (uT m y1 y2 y3 (T.l y4.rows) (T.l y5.rows) y6 (T.l y7.rows) (T.l y8.rows) (T.l y9.rows) (T.l nP.rows)
  (fun vL=>k0 (T.b vL.bool)))
  (k0 (T.b false))))
  (k0 (T.b false))))
  (k0 (T.b false))))
  (k0 (T.b false))))
  (k0 (T.b false))))
  (k0 (T.b false))))))
def Gs:Fs:=⟨3,[.one (.fz tU [])],fun m vs k=>ap 1 (Mq m) vs (lm 1 fun z=>k (bg ⟨[.one (RB)],[[none]],[none]⟩ z))⟩
def aar:List Fs:=Gs::QH
theorem aas:aM CX au aar/\aY CX au Gs:=fF abU.1 Gs Tryz.f3 ⟨3,1,36,4⟩ [] (fun _ _=>rfl) (fun _ _ _=>by kernel_rfl) trivial trivial (fun _ _ _ _ _=>by kernel_rfl)
end
end Go.Proofs.YtjjonejgbdbnjaaGreat

