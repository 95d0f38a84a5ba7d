/- A part of the proof: texts VP: see the last part's opening words. -/
import Derived.Test.YtpchnmbcbcfhjaaGreatH
set_option linter.unusedVariables false
set_option linter.unusedSimpArgs false
set_option linter.unnecessarySimpa false
namespace Go.Proofs.YtpchnmbcbcfhjaaGreat
open Go Go.E Go.Proofs
noncomputable section
def PS0:PS CX aD:=⟨[],acF⟩
def aQ:Nat->T->(T->An)->An
 | 0,_,_=>.bad
 | m+1,x0,k0=>cond (decide (x0.rows.length * 3<=au)) (k0 (wL x0)) .bad
def gM:List Arg:=[.one (.dz tO [])]
def lD (m:Nat) (vs:List T) (k:gu->An):An:=aQ m (vs.headD dflt) (fun z0=>k ⟨[.one (.own [7000000] tO m3 z0.rows)],[[none]],[]⟩)
theorem rz (m:Nat) : ∀ vs k,jm CX aD m 76 (fArgs gM vs) k=lD m vs k:=by
 intro vs k
 cases m with
 | zero=>rfl
 | succ m =>
  refine Eq.trans (b:=((mP tO) (fArgs gM vs)).bind k) (by kernel_rfl) ?_
  refine Eq.trans (b:=(cond (decide ((vs.headD dflt).rows.length * 3<=au)) (R3.ok ⟨[.one (.own [7000000] tO m3 (vs.headD dflt).rows)],[[none]],[]⟩) .bad).bind k) (by kernel_rfl) ?_
  rw [fP]; rfl
def sj:PS CX aD:=pS PS0 ⟨76,gM,lD⟩ rz
def gG:Nat->T->(T->An)->An
 | 0,_,_=>.bad
 | m+1,x0,k0=>cond (decide (x0.rows.length * 1<=au)) (k0 (wL x0)) .bad
def lJ:List Arg:=[.one (.dz tI [])]
def qm (m:Nat) (vs:List T) (k:gu->An):An:=gG m (vs.headD dflt) (fun z0=>k ⟨[.one (.own [7000000] tI [.F] z0.rows)],[[none]],[]⟩)
theorem yh (m:Nat) : ∀ vs k,jm CX aD m 118 (fArgs lJ vs) k=qm m vs k:=by
 intro vs k
 cases m with
 | zero=>rfl
 | succ m =>
  refine Eq.trans (b:=((mP tI) (fArgs lJ vs)).bind k) (by kernel_rfl) ?_
  refine Eq.trans (b:=(cond (decide ((vs.headD dflt).rows.length * 1<=au)) (R3.ok ⟨[.one (.own [7000000] tI [.F] (vs.headD dflt).rows)],[[none]],[]⟩) .bad).bind k) (by kernel_rfl) ?_
  rw [fP]; rfl
def yV:PS CX aD:=pS sj ⟨118,lJ,qm⟩ yh
def bT:Nat->T->(T->An)->An
 | 0,_,_=>.bad
 | m+1,x0,k0=>cond (decide (x0.rows.length * 2<=au)) (k0 (wL x0)) .bad
def dU:List Arg:=[.one (.dz tC [])]
def iC (m:Nat) (vs:List T) (k:gu->An):An:=bT m (vs.headD dflt) (fun z0=>k ⟨[.one (.own [7000000] tC m2 z0.rows)],[[none]],[]⟩)
theorem nG (m:Nat) : ∀ vs k,jm CX aD m 119 (fArgs dU vs) k=iC m vs k:=by
 intro vs k
 cases m with
 | zero=>rfl
 | succ m =>
  refine Eq.trans (b:=((mP tC) (fArgs dU vs)).bind k) (by kernel_rfl) ?_
  refine Eq.trans (b:=(cond (decide ((vs.headD dflt).rows.length * 2<=au)) (R3.ok ⟨[.one (.own [7000000] tC m2 (vs.headD dflt).rows)],[[none]],[]⟩) .bad).bind k) (by kernel_rfl) ?_
  rw [fP]; rfl
def nS:PS CX aD:=pS yV ⟨119,dU,iC⟩ nG
def bH:Nat->T->(T->An)->An
 | 0,_,_=>.bad
 | m+1,x0,k0=>cond (decide (x0.rows.length * 2<=au)) (k0 (wL x0)) .bad
def fD:List Arg:=[.one (.dz tP [])]
def jG (m:Nat) (vs:List T) (k:gu->An):An:=bH m (vs.headD dflt) (fun z0=>k ⟨[.one (.own [7000000] tP m2 z0.rows)],[[none]],[]⟩)
theorem oW (m:Nat) : ∀ vs k,jm CX aD m 47 (fArgs fD vs) k=jG m vs k:=by
 intro vs k
 cases m with
 | zero=>rfl
 | succ m =>
  refine Eq.trans (b:=((mP tP) (fArgs fD vs)).bind k) (by kernel_rfl) ?_
  refine Eq.trans (b:=(cond (decide ((vs.headD dflt).rows.length * 2<=au)) (R3.ok ⟨[.one (.own [7000000] tP m2 (vs.headD dflt).rows)],[[none]],[]⟩) .bad).bind k) (by kernel_rfl) ?_
  rw [fP]; rfl
def pY:PS CX aD:=pS nS ⟨47,fD,jG⟩ oW
def rZ:Nat->T->(T->An)->An
 | 0,_,_=>.bad
 | m+1,x0,k0=>k0 (T.l (xZ x0.rows))
def Al:List Arg:=[.one (.own tI [.F] [])]
def FI (m:Nat) (vs:List T) (k:gu->An):An:=rZ m (vs.headD dflt) (fun z0=>k ⟨[],[[some (tI,[.F],z0.rows)]],[]⟩)
theorem Ou (m:Nat) : ∀ vs k,jm CX aD m 40 (fArgs Al vs) k=FI m vs k:=by
 intro vs k
 cases m with
 | zero=>rfl
 | succ m =>
  refine Eq.trans (b:=(D7 (fArgs Al vs)).bind k) (by kernel_rfl) ?_
  rfl
def Qe:PS CX aD:=pS pY ⟨40,Al,FI⟩ Ou
def slices_Compact:Nat->T->(T->An)->An
 | 0,_,_=>.bad
 | m+1,x0,k0=>k0 (T.l (oU x0.rows))
def uD:List Arg:=[.one (.own tI [.F] [])]
def AZ (m:Nat) (vs:List T) (k:gu->An):An:=slices_Compact m (vs.headD dflt) (fun z0=>k ⟨[.one (.own [7000000] tI [.F] z0.rows)],[[none]],[]⟩)
theorem Ir (m:Nat) : ∀ vs k,jm CX aD m 42 (fArgs uD vs) k=AZ m vs k:=by
 intro vs k
 cases m with
 | zero=>rfl
 | succ m =>
  refine Eq.trans (b:=(vJ (fArgs uD vs)).bind k) (by kernel_rfl) ?_
  rfl
def JB:PS CX aD:=pS Qe ⟨42,uD,AZ⟩ Ir
def fJ:Nat->T->T->T->(T->An)->An
 | 0,_,_,_,_=>.bad
 | m+1,x0,x1,x2,k0=>cond (decide (0<=x1.int/\x1.int<=(x0.rows.length:Int))&&decide (0<x2.rows.length)&&decide ((x0.rows.length+x2.rows.length) * 2<=au)) (k0 (T.l (x0.rows.take x1.int.toNat++x2.rows++x0.rows.drop x1.int.toNat))) .bad
def eU:List Arg:=[.one (.own tP m2 []),.one (AI),.one (.own tP m2 [])]
def jr (m:Nat) (vs:List T) (k:gu->An):An:=fJ m (vs.headD dflt) (vs.tail.headD dflt) (vs.tail.tail.headD dflt) (fun z0=>k ⟨[.one (.own [7000000] tP m2 z0.rows)],[[none],[none],[none]],[]⟩)
theorem oI (m:Nat) : ∀ vs k,jm CX aD m 92 (fArgs eU vs) k=jr m vs k:=by
 intro vs k
 cases m with
 | zero=>rfl
 | succ m =>
  refine Eq.trans (b:=((yc tP) (fArgs eU vs)).bind k) (by kernel_rfl) ?_
  refine Eq.trans (b:=(cond (decide (0<=(vs.tail.headD dflt).int/\(vs.tail.headD dflt).int<=((vs.headD dflt).rows.length:Int))&&decide (0<(vs.tail.tail.headD dflt).rows.length)&&decide (((vs.headD dflt).rows.length+(vs.tail.tail.headD dflt).rows.length) * 2<=au)) (R3.ok ⟨[.one (.own [7000000] tP m2 ((vs.headD dflt).rows.take (vs.tail.headD dflt).int.toNat++(vs.tail.tail.headD dflt).rows++(vs.headD dflt).rows.drop (vs.tail.headD dflt).int.toNat))],[[none],[none],[none]],[]⟩) .bad).bind k) (by kernel_rfl) ?_
  rw [fP]; rfl
def oZ:PS CX aD:=pS JB ⟨92,eU,jr⟩ oI
def zB:Nat->T->T->(T->An)->An
 | 0,_,_,_=>.bad
 | m+1,x0,x1,k0=>cond (decide (x0.rows.length * 2<=au)) (k0 (T.l (zA x0.rows x1))) .bad
def Am:List Arg:=[.one (.dz tP []),.one (AS)]
def FJ (m:Nat) (vs:List T) (k:gu->An):An:=zB m (vs.headD dflt) (vs.tail.headD dflt) (fun z0=>k ⟨[.one (.own [7000000] tP m2 z0.rows)],[[none],[none]],[]⟩)
theorem Ov (m:Nat) : ∀ vs k,jm CX aD m 49 (fArgs Am vs) k=FJ m vs k:=by
 intro vs k
 cases m with
 | zero=>rfl
 | succ m =>
  refine Eq.trans (b:=(yg (fArgs Am vs)).bind k) (by kernel_rfl) ?_
  refine Eq.trans (b:=(cond (decide ((vs.headD dflt).rows.length * 2<=au)) (R3.ok ⟨[.one (.own [7000000] tP m2 (zA (vs.headD dflt).rows (vs.tail.headD dflt)))],[[none],[none]],[]⟩) .bad).bind k) (by kernel_rfl) ?_
  rw [fP]; rfl
def Qf:PS CX aD:=pS oZ ⟨49,Am,FJ⟩ Ov
def aU:Nat->T->T->T->(T->An)->An
 | 0,_,_,_,_=>.bad
 | m+1,x0,x1,x2,k0=>cond (decide (0<=x1.int/\x1.int<x2.int/\x2.int<=(x0.rows.length:Int))) (k0 (T.l (x0.rows.take x1.int.toNat++x0.rows.drop x2.int.toNat))) .bad
def fK:List Arg:=[.one (.own tR m3 []),.one (AI),.one (AI)]
def kr (m:Nat) (vs:List T) (k:gu->An):An:=aU m (vs.headD dflt) (vs.tail.headD dflt) (vs.tail.tail.headD dflt) (fun z0=>k ⟨[.one (.own [7000000] tR m3 z0.rows)],[[none],[none],[none]],[]⟩)
theorem p8 (m:Nat) : ∀ vs k,jm CX aD m 184 (fArgs fK vs) k=kr m vs k:=by
 intro vs k
 cases m with
 | zero=>rfl
 | succ m =>
  refine Eq.trans (b:=((ru tR) (fArgs fK vs)).bind k) (by kernel_rfl) ?_
  refine Eq.trans (b:=(cond (decide (0<=(vs.tail.headD dflt).int/\(vs.tail.headD dflt).int<(vs.tail.tail.headD dflt).int/\(vs.tail.tail.headD dflt).int<=((vs.headD dflt).rows.length:Int))) (R3.ok ⟨[.one (.own [7000000] tR m3 ((vs.headD dflt).rows.take (vs.tail.headD dflt).int.toNat++(vs.headD dflt).rows.drop (vs.tail.tail.headD dflt).int.toNat))],[[none],[none],[none]],[]⟩) .bad).bind k) (by kernel_rfl) ?_
  rw [fP]; rfl
def qp:PS CX aD:=pS Qf ⟨184,fK,kr⟩ p8
def dJ:Nat->T->T->T->(T->An)->An
 | 0,_,_,_,_=>.bad
 | m+1,x0,x1,x2,k0=>cond (decide (0<=x1.int/\x1.int<x2.int/\x2.int<=(x0.rows.length:Int))) (k0 (T.l (x0.rows.take x1.int.toNat++x0.rows.drop x2.int.toNat))) .bad
def eX:List Arg:=[.one (.own tW m5 []),.one (AI),.one (AI)]
def jv (m:Nat) (vs:List T) (k:gu->An):An:=dJ m (vs.headD dflt) (vs.tail.headD dflt) (vs.tail.tail.headD dflt) (fun z0=>k ⟨[.one (.own [7000000] tW m5 z0.rows)],[[none],[none],[none]],[]⟩)
theorem oJ (m:Nat) : ∀ vs k,jm CX aD m 131 (fArgs eX vs) k=jv m vs k:=by
 intro vs k
 cases m with
 | zero=>rfl
 | succ m =>
  refine Eq.trans (b:=((ru tW) (fArgs eX vs)).bind k) (by kernel_rfl) ?_
  refine Eq.trans (b:=(cond (decide (0<=(vs.tail.headD dflt).int/\(vs.tail.headD dflt).int<(vs.tail.tail.headD dflt).int/\(vs.tail.tail.headD dflt).int<=((vs.headD dflt).rows.length:Int))) (R3.ok ⟨[.one (.own [7000000] tW m5 ((vs.headD dflt).rows.take (vs.tail.headD dflt).int.toNat++(vs.headD dflt).rows.drop (vs.tail.tail.headD dflt).int.toNat))],[[none],[none],[none]],[]⟩) .bad).bind k) (by kernel_rfl) ?_
  rw [fP]; rfl
def o7:PS CX aD:=pS qp ⟨131,eX,jv⟩ oJ
def wT:Nat->T->T->T->T->T->T->T->T->T->T->(T->An)->An
 | 0,_,_,_,_,_,_,_,_,_,_,_=>.bad
 | m+1,x0,x1,x2,x3,x4,x5,x6,x7,x8,x9,k0=>cond (decide ((uy x6.rows).length<=au)) (k0 (T.b (Yp (uy x6.rows)))) .bad
def yj:List Arg:=[.agg [AI,AI,AI,.dz tJ [],.dz tC [],AI,.dz tS [],.dz tW [],.dz tW [],.dz tB []]]
def Eb (m:Nat) (vs:List T) (k:gu->An):An:=wT m (vs.headD dflt) (vs.tail.headD dflt) (vs.tail.tail.headD dflt) (vs.tail.tail.tail.headD dflt) (vs.tail.tail.tail.tail.headD dflt) (vs.tail.tail.tail.tail.tail.headD dflt) (vs.tail.tail.tail.tail.tail.tail.headD dflt) (vs.tail.tail.tail.tail.tail.tail.tail.headD dflt) (vs.tail.tail.tail.tail.tail.tail.tail.tail.headD dflt) (vs.tail.tail.tail.tail.tail.tail.tail.tail.tail.headD dflt) (fun z0=>k ⟨[.one (.sc (.bool) z0)],[List.replicate 10 none],[]⟩)
theorem Lj (m:Nat) : ∀ vs k,jm CX aD m 51 (fArgs yj vs) k=Eb m vs k:=by
 intro vs k
 cases m with
 | zero=>rfl
 | succ m =>
  refine Eq.trans (b:=(vK (fArgs yj vs)).bind k) (by kernel_rfl) ?_
  refine Eq.trans (b:=(cond (decide ((uy (vs.tail.tail.tail.tail.tail.tail.headD dflt).rows).length<=au)) (R3.ok ⟨[.one (.sc (.bool) (.b (Yp (uy (vs.tail.tail.tail.tail.tail.tail.headD dflt).rows))))],[List.replicate 10 none],[]⟩) .bad).bind k) (by kernel_rfl) ?_
  rw [fP]; rfl
def Ow:PS CX aD:=pS o7 ⟨51,yj,Eb⟩ Lj
def Iu:Nat->T->(T->An)->An
 | 0,_,_=>.bad
 | m+1,x0,k0 =>
  k0 (T.b (decide ((x0.rows.length:Int) > 1048576)))
def Yr:PS CX aD:=fF Ow (FN 7 [.one (.dz tU [])] 1 1 Iu [.one (RB)]) Tryz.f7 ⟨7,1,6,4⟩
def jS (m:Nat):Nat->T->T->T->(T->T->An)->An
 | 0,_,_,_,_=>.bad
 | n+1,x0,x1,x2,k0 =>
  jn (fun (j1:An) =>
  cond ((decide (x2.int<(x0.rows.length:Int)))==true)
  (cond (decide (x2.int<4000))
  (j1)
  (k0 x0 x1))
  (k0 x0 x1))
  (aX x2 x0
  (jS m n x0 (jO .i64 (BitVec.ofInt IntKind.i64.bits (IntKind.i64.wrap ((IntKind.i64.wrap ((IntKind.i64.wrap (x1.int * 137))+(IntKind.i64.wrap (aM x0 x2 0).int)))+11)) &&& BitVec.ofInt IntKind.i64.bits 1073741823)) (bq x2) k0))
def Cy:Nat->T->(T->T->T->An)->An
 | 0,_,_=>.bad
 | m+1,x0,k0 =>
  jS m m (wL x0) (T.i (IntKind.i64.wrap (381381+(x0.rows.length:Int)))) (T.i 0)
  (fun y2 y3=>k0 (wL y2) (T.i 0) y3)
def TF:PS CX aD:=fF Yr (FN 30 [.one (.fz tU [])] 1 3 Cy [.bx [2000031] [.fz tU [],RI,RI]]) Tryz.f30 ⟨30,1,32,4⟩ [L1 [0,1,0,1,1] ⟨[(0,.one (LZ tU)),(3,.one (LI)),(4,.one (LI))],[]⟩ 3 2 jS (.exit 0) ⟨[(0,.one (LZ tU)),(3,.one (LI))],[]⟩]
def vL:Nat->T->T->(T->An)->An
 | 0,_,_,_=>.bad
 | m+1,x0,x1,k0 =>
  cond (decide ((IntKind.i64.wrap (3+(IntKind.i64.wrap (Int.tdiv (x0.rows.length:Int) 12)))) > x1.int))
  (k0 x1)
  (k0 (T.i (IntKind.i64.wrap (3+(IntKind.i64.wrap (Int.tdiv (x0.rows.length:Int) 12))))))
def Qg:PS CX aD:=fF TF (FN 57 [.one (.fz tU []),.one (AI)] 2 1 vL [.one (RI)]) Tryz.f57 ⟨57,2,15,16⟩
def nA:Nat->T->T->T->(T->T->T->T->An)->An
 | 0,_,_,_,_=>.bad
 | m+1,x0,x1,x2,k0 =>
  nu x1 x0
  (aX x1 x0
  (k0 (jO .i64 (BitVec.ofInt IntKind.i64.bits (IntKind.i64.wrap ((jO .i64 (BitVec.ofInt IntKind.i64.bits (jO .i64 (BitVec.ofInt IntKind.i64.bits (Int.fdiv (IntKind.i64.wrap ((IntKind.i64.wrap (x2.int * 6364136223846793005))+1442695040888963407)) (2 ^ (min (Int.toNat 33) IntKind.i64.bits))) ^^^ BitVec.ofInt IntKind.i64.bits (Int.fdiv (IntKind.i64.wrap ((IntKind.i64.wrap (x2.int * 6364136223846793005))+1442695040888963407)) (2 ^ (min (Int.toNat 47) IntKind.i64.bits))))).int &&& BitVec.ofInt IntKind.i64.bits 255)).int+(IntKind.i64.wrap (aM x0 x1 0).int))) &&& BitVec.ofInt IntKind.i64.bits 255)) (wL x0) (bq x1) (T.i (IntKind.i64.wrap ((IntKind.i64.wrap (x2.int * 6364136223846793005))+1442695040888963407)))))
  (k0 (jO .i64 (BitVec.ofInt IntKind.i64.bits (jO .i64 (BitVec.ofInt IntKind.i64.bits (Int.fdiv (IntKind.i64.wrap ((IntKind.i64.wrap (x2.int * 6364136223846793005))+1442695040888963407)) (2 ^ (min (Int.toNat 33) IntKind.i64.bits))) ^^^ BitVec.ofInt IntKind.i64.bits (Int.fdiv (IntKind.i64.wrap ((IntKind.i64.wrap (x2.int * 6364136223846793005))+1442695040888963407)) (2 ^ (min (Int.toNat 47) IntKind.i64.bits))))).int &&& BitVec.ofInt IntKind.i64.bits 255)) (wL x0) x1 (T.i (IntKind.i64.wrap ((IntKind.i64.wrap (x2.int * 6364136223846793005))+1442695040888963407))))
def Qh:PS CX aD:=fF Qg (F1 108 [.bx [.fz tU [],AI,AI]] 3 4 nA ⟨[.one (RI)],[[none,none,none]],[some [.fz tU [],RI,RI]]⟩) Tryz.f108 ⟨108,1,58,5⟩
def bY:Nat->T->T->T->T->(T->T->T->T->An)->An
 | 0,_,_,_,_,_=>.bad
 | m+1,x0,x1,x2,x3,k0 =>
  cond (decide (x3.int<=0))
  (k0 (T.i 0) (wL x0) x1 x2)
  (cond (decide (x3.int<=256))
  (nA m (wL x0) x1 x2
  (fun y0 y1 y2 y3=>cond (!decide (x3.int=0))
  (k0 (T.i (Int.tmod y0.int x3.int)) (wL y1) y2 y3)
  (.bad)))
  (nA m (wL x0) x1 x2
  (fun y4 y5 y6 y7=>nA m (wL y5) y6 y7
  (fun y8 y9 nO nT=>nA m (wL y9) nO nT
  (fun nY y13 o8 sw=>cond (!decide (x3.int=0))
  (k0 (T.i (Int.tmod (IntKind.i64.wrap ((IntKind.i64.wrap ((IntKind.i64.wrap (y4.int * 65536))+(IntKind.i64.wrap (y8.int * 256))))+nY.int)) x3.int)) (wL y13) o8 sw)
  (.bad))))))
def Ox:PS CX aD:=fF Qh (F1 62 [.bx [.fz tU [],AI,AI],.one (AI)] 4 4 bY ⟨[.one (RI)],[[none,none,none],[none]],[some [.fz tU [],RI,RI],none]⟩) Tryz.f62 ⟨62,2,31,17⟩
def uE:Nat->T->T->T->T->(T->T->T->T->An)->An
 | 0,_,_,_,_,_=>.bad
 | m+1,x0,x1,x2,x3,k0 =>
  bY m (wL x0) x1 x2 (T.i (x3.rows.length:Int))
  (fun y0 y1 y2 y3=>aX y0 x3
  (k0 (aM x3 y0 0) (wL y1) y2 y3))
def TG:PS CX aD:=fF Ox (F1 101 [.bx [.fz tU [],AI,AI],.one (.dz tI [])] 4 4 uE ⟨[.one (RI)],[[none,none,none],[none]],[some [.fz tU [],RI,RI],none]⟩) Tryz.f101 ⟨101,2,12,17⟩
def fQ:Nat->T->T->T->(T->An)->An
 | 0,_,_,_,_=>.bad
 | m+1,x0,x1,x2,k0 =>
  cond ((decide (x0.int>=x1.int))==true)
  (k0 (T.b (decide (x0.int<=x2.int))))
  (k0 (T.b false))
def V3:PS CX aD:=fF TG (FN 112 [.one (AI),.one (AI),.one (AI)] 3 1 fQ [.one (RB)]) Tryz.f112 ⟨112,3,15,64⟩
def uQ:Nat->T->(T->T->T->T->T->T->An)->An
 | 0,_,_=>.bad
 | m+1,x0,k0 =>
  fQ m x0 (T.i 1) (T.i 8)
  (fun y0=>cond (!y0.bool)
  (k0 (T.i 0) (T.i 0) (T.i 0) (T.l []) (T.l []) (T.i 0))
  (k0 x0 (T.i 1) (T.i 0) (T.l []) (T.l []) (T.i 0)))
def Ll:PS CX aD:=fF V3 (FN 155 [.one (AI)] 1 6 uQ [.agg [RI,RI,RI,.own (KR 0 3) tJ m4 [],.own (KR 0 4) tC m2 [],RI]]) Tryz.f155 ⟨155,1,9,4⟩
def Ao:Nat->T->(T->T->T->T->T->An)->An
 | 0,_,_=>.bad
 | m+1,x0,k0 =>
  fQ m x0 (T.i 0) (T.i 7)
  (fun y0=>cond (!y0.bool)
  (k0 (T.i 0) (T.l []) (T.i 0) (T.l []) (T.l []))
  (k0 x0 (T.l []) (T.i 0) (T.l []) (T.l [])))
def Lm:PS CX aD:=fF Ll (FN 156 [.one (AI)] 1 5 Ao [.agg [RI,.own (KR 0 1) tR m3 [],RI,.own (KR 0 3) tP m2 [],.own (KR 0 4) tR m3 []]]) Tryz.f156 ⟨156,1,9,4⟩
def iM (m:Nat):Nat->T->T->T->T->T->T->T->T->T->T->T->T->T->T->T->T->T->T->T->T->T->T->T->T->(T->T->T->T->T->T->T->T->T->T->T->T->T->T->T->T->T->T->T->T->T->T->An)->An
 | 0,_,_,_,_,_,_,_,_,_,_,_,_,_,_,_,_,_,_,_,_,_,_,_,_,_=>.bad
 | n+1,x0,x1,x2,x3,x4,x5,x6,x7,x8,x9,x10,bW,gH,mh,qF,wF,wG,xE,x18,Dm,x20,x21,GH,x23,k0 =>
  cond (decide (x3.int<x0.int))
  (Ao m x3
  (fun y7 y8 y9 nO nT=>cond (decide ((x20.rows.length+1) * 5<=au))
  (iM m n x0 (T.i (x1.int.toNat:Int)) (T.i (x2.int.toNat:Int)) (bq x3) x4 x5 x6 x7 x8 x9 x10 bW (wL gH) (wL mh) (wL qF) (wL wF) (wL wG) (wL xE) (wL x18) (wL Dm) (T.l (x20.rows++[[y7,(wL y8),y9,(wL nO),(wL nT)]])) (wL x21) (wL GH) (wL x23) k0)
  (.bad)))
  (k0 (T.i (x1.int.toNat:Int)) (T.i (x2.int.toNat:Int)) x4 x5 x6 x7 x8 x9 x10 bW (wL gH) (wL mh) (wL qF) (wL wF) (wL wG) (wL xE) (wL x18) (wL Dm) (wL x20) (wL x21) (wL GH) (wL x23))
def uR:Nat->T->(T->T->T->T->T->T->T->T->T->T->An)->An
 | 0,_,_=>.bad
 | m+1,x0,k0 =>
  fQ m x0 (T.i 1) (T.i 8)
  (fun y0=>cond (!y0.bool)
  (k0 (T.i 0) (T.i 0) (T.i 0) (T.l []) (T.l []) (T.i 0) (T.l []) (T.l []) (T.l []) (T.l []))
  (uQ m x0
  (fun y1 y2 y3 y4 y5 y6=>iM m m x0 (T.i 0) (T.i 0) (T.i 0) (T.i 0) (T.i 0) (T.i 0) (T.i 0) y1 y2 y3 y6 (T.l []) (T.l []) (T.l []) (T.l []) (T.l []) (T.l []) (wL y4) (wL y5) (T.l []) (T.l []) (T.l []) (T.l [])
  (fun nY y13 o8 sw wH vS uS BF y20 y21 y22 y23 y24 y25 JC y27 y28 y29 Gg y31 y32 Lp=>k0 uS BF y20 (wL y28) (wL y29) y21 (wL Gg) (wL y31) (wL y32) (wL Lp)))))
def Lr:PS CX aD:=fF Lm (FN 100 [.one (AI)] 1 10 uR [.agg [RI,RI,RI,.own (KR 0 3) tJ m4 [],.own (KR 0 4) tC m2 [],RI,.own (KR 0 6) tS mS [],.own (KR 0 7) tW m5 [],.own (KR 0 8) tW m5 [],.own (KR 0 9) tB m2 []]]) Tryz.f100 ⟨100,1,25,4⟩ [L1 [0,1,0,1,1,1] ⟨[(0,.one (LI)),(2,EP 0),(3,EP 1),(4,.one (LI))],[((KI 0),.box [LI,LI,LI,LA (KI 2) tJ,LA (KI 3) tC,LI,LA (KI 4) tS,LA (KI 5) tW,LA (KI 6) tW,LA (KI 7) tB]),((KI 1),.box [LI,LI,LI,LA (KI 8) tJ,LA (KI 9) tC,LI,LA (KI 10) tS,LA (KI 11) tW,LA (KI 12) tW,LA (KI 13) tB]),((KI 2),.row tJ m4 []),((KI 3),.row tC m2 []),((KI 4),.row tS mS []),((KI 5),.row tW m5 []),((KI 6),.row tW m5 []),((KI 7),.row tB m2 []),((KI 8),.row tJ m4 []),((KI 9),.row tC m2 []),((KI 10),.row tS mS []),((KI 11),.row tW m5 []),((KI 12),.row tW m5 []),((KI 13),.row tB m2 [])]⟩ 24 22 iM (.exit 0) ⟨[(2,EP 0),(3,EP 1)],[((KI 0),.box [LI,LI,LI,LA (KI 2) tJ,LA (KI 3) tC,LI,LA (KI 4) tS,LA (KI 5) tW,LA (KI 6) tW,LA (KI 7) tB]),((KI 1),.box [LI,LI,LI,LA (KI 8) tJ,LA (KI 9) tC,LI,LA (KI 10) tS,LA (KI 11) tW,LA (KI 12) tW,LA (KI 13) tB]),((KI 2),.row tJ m4 []),((KI 3),.row tC m2 []),((KI 4),.row tS mS []),((KI 5),.row tW m5 []),((KI 6),.row tW m5 []),((KI 7),.row tB m2 []),((KI 8),.row tJ m4 []),((KI 9),.row tC m2 []),((KI 10),.row tS mS []),((KI 11),.row tW m5 []),((KI 12),.row tW m5 []),((KI 13),.row tB m2 [])]⟩]
def zC:Nat->T->T->T->T->(T->T->T->T->An)->An
 | 0,_,_,_,_,_=>.bad
 | m+1,x0,x1,x2,x3,k0 =>
  bY m (wL x0) x1 x2 x3
  (fun y0 y1 y2 y3=>k0 (T.b (y0.int==0)) (wL y1) y2 y3)
def Qi:PS CX aD:=fF Lr (F1 109 [.bx [.fz tU [],AI,AI],.one (AI)] 4 4 zC ⟨[.one (RB)],[[none,none,none],[none]],[some [.fz tU [],RI,RI],none]⟩) Tryz.f109 ⟨109,2,9,17⟩
def yt:Nat->T->T->T->T->(T->T->T->T->An)->An
 | 0,_,_,_,_,_=>.bad
 | m+1,x0,x1,x2,x3,k0 =>
  bY m (wL x0) x1 x2 (T.i (x3.rows.length:Int))
  (fun y0 y1 y2 y3=>aX y0 x3
  (k0 (aM x3 y0 0) (wL y1) y2 y3))
def TH:PS CX aD:=fF Qi (F1 117 [.bx [.fz tU [],AI,AI],.one (.dz tT [])] 4 4 yt ⟨[.one (RS)],[[none,none,none],[none]],[some [.fz tU [],RI,RI],none]⟩) Tryz.f117 ⟨117,2,12,17⟩
def Cz:Nat->T->T->T->(T->T->T->T->An)->An
 | 0,_,_,_,_=>.bad
 | m+1,x0,x1,x2,k0 =>
  yt m (wL x0) x1 x2 (T.l [[(T.s (⟨#[97]⟩:ByteArray))],[(T.s (⟨#[98]⟩:ByteArray))],[(T.s (⟨#[99]⟩:ByteArray))],[(T.s (⟨#[107,49]⟩:ByteArray))],[(T.s (⟨#[107,50]⟩:ByteArray))],[(T.s (⟨#[109]⟩:ByteArray))],[(T.s (⟨#[122]⟩:ByteArray))]])
  (fun y0 y1 y2 y3=>k0 y0 (wL y1) y2 y3)
def TJ:PS CX aD:=fF TH (F1 68 [.bx [.fz tU [],AI,AI]] 3 4 Cz ⟨[.one (RS)],[[none,none,none]],[some [.fz tU [],RI,RI]]⟩) Tryz.f68 ⟨68,1,6,5⟩
def yu:Nat->T->T->T->(T->T->T->T->T->T->An)->An
 | 0,_,_,_,_=>.bad
 | m+1,x0,x1,x2,k0 =>
  uE m (wL x0) x1 x2 (T.l [[(T.i 1)],[(T.i 1)],[(T.i 1)],[(T.i 2)],[(T.i 3)]])
  (fun y0 y1 y2 y3=>Cz m (wL y1) y2 y3
  (fun y4 y5 y6 y7=>cond (y0.int != 2)
  (yt m (wL y5) y6 y7 (T.l [[(T.s (⟨#[49]⟩:ByteArray))],[(T.s (⟨#[50]⟩:ByteArray))],[(T.s (⟨#[120]⟩:ByteArray))],[(T.s (⟨#[]⟩:ByteArray))],[(T.s (⟨#[49]⟩:ByteArray))]])
  (fun y8 y9 nO nT=>k0 y0 y4 y8 (wL y9) nO nT))
  (k0 y0 y4 (T.s (⟨#[]⟩:ByteArray)) (wL y5) y6 y7)))
def TL:PS CX aD:=fF TJ (F1 71 [.bx [.fz tU [],AI,AI]] 3 6 yu ⟨[.agg [RI,RS,RS]],[[none,none,none]],[some [.fz tU [],RI,RI]]⟩) Tryz.f71 ⟨71,1,18,5⟩
def iD (m:Nat):Nat->T->T->T->T->T->T->T->T->(T->T->T->T->T->T->An)->An
 | 0,_,_,_,_,_,_,_,_,_=>.bad
 | n+1,x0,x1,x2,x3,x4,x5,x6,x7,k0 =>
  nu x3 x0
  (jn (fun (j3:T->T->An) =>
  cond ((!x2.bool)==true)
  (aX x3 x0
  (cond (!(Op.bytesLess (qE x0 x3 1).str.toList x5.str.toList))
  (cond (decide ((x7.rows.length+1) * 3<=au))
  (j3 (T.b true) (T.l (x7.rows++[[x4,x5,x6]])))
  (.bad))
  (j3 x2 (wL x7))))
  (j3 x2 (wL x7)))
  (fun y1 y2=>aX x3 x0
  (cond (!((qE x0 x3 1).str.toList==x5.str.toList))
  (aX x3 x0
  (cond (decide ((y2.rows.length+1) * 3<=au))
  (iD m n x0 (T.i (x1.int.toNat:Int)) y1 (bq x3) x4 x5 x6 (T.l (y2.rows++[[(aM x0 x3 0),(aM x0 x3 1),(aM x0 x3 2)]])) k0)
  (.bad)))
  (iD m n x0 (T.i (x1.int.toNat:Int)) y1 (bq x3) x4 x5 x6 (wL y2) k0))))
  (k0 (T.i (x1.int.toNat:Int)) x2 x4 x5 x6 (wL x7))
def yw:Nat->T->T->T->T->(T->An)->An
 | 0,_,_,_,_,_=>.bad
 | m+1,x0,x1,x2,x3,k0 =>
  iD m m (wL x0) (T.i 0) (T.b false) (T.i 0) x1 x2 x3 (T.l [])
  (fun y8 y9 nO nT nY y13=>cond (!y9.bool)
  (cond (decide ((y13.rows.length+1) * 3<=au))
  (k0 (T.l (y13.rows++[[nO,nT,nY]])))
  (.bad))
  (k0 (wL y13)))
def TM:PS CX aD:=fF TL (FN 70 [.one (.dz tO []),.agg [AI,AS,AS]] 4 1 yw [.one (.own (KR 0 0) tO m3 [])]) Tryz.f70 ⟨70,2,53,16⟩ [L1 [0,1,0,1,1,1] ⟨[(0,.one (LD tO)),(3,EP 1),(5,.one (LA (KI 2) tO)),(6,.one (LB)),(7,.one (LI))],[([4000000],.gone),((KI 1),.box [LI,LS,LS]),((KI 2),.row tO m3 [])]⟩ 8 6 iD (.exit 0) ⟨[(3,EP 0),(5,.one (LA (KI 1) tO)),(6,.one (LB))],[((KI 0),.box [LI,LS,LS]),((KI 1),.row tO m3 [])]⟩]
def kJ (m:Nat):Nat->T->T->T->T->T->T->(T->T->T->T->T->An)->An
 | 0,_,_,_,_,_,_,_=>.bad
 | n+1,x0,x1,x2,x3,x4,x5,k0 =>
  cond (decide (x1.int > 0))
  (yu m (wL x2) x3 x4
  (fun y4 y5 y6 y7 y8 y9=>yw m (wL x5) y4 y5 y6
  (fun nO=>kJ m n (T.i (x0.int.toNat:Int)) (T.i (IntKind.i64.wrap (x1.int-1))) (wL y7) y8 y9 (wL nO) k0)))
  (k0 (T.i (x0.int.toNat:Int)) x2 x3 x4 (wL x5))
def vM:Nat->T->T->T->(T->T->T->T->An)->An
 | 0,_,_,_,_=>.bad
 | m+1,x0,x1,x2,k0 =>
  bY m (wL x0) x1 x2 (T.i 4)
  (fun y0 y1 y2 y3=>kJ m m (T.i 0) (T.i (IntKind.i64.wrap (1+y0.int))) (wL y1) y2 y3 (T.l [])
  (fun nT nY y13 o8 sw=>k0 (wL sw) (wL nY) y13 o8))
def Qj:PS CX aD:=fF TM (F1 32 [.bx [.fz tU [],AI,AI]] 3 4 vM ⟨[.one (.own (KR 0 0) tO m3 [])],[[none,none,none]],[some [.fz tU [],RI,RI]]⟩) Tryz.f32 ⟨32,1,18,5⟩ [L1 [0,1,0,1,1] ⟨[(0,.ptr [0,999999] 0 0 0),(3,.one (LA (KI 1) tO)),(4,.one (LI))],[([0,999999],.box [LZ tU,LI,LI]),((KI 1),.row tO m3 [])]⟩ 6 5 kJ (.exit 0) ⟨[(0,.ptr [0,999999] 0 0 0),(3,.one (LA (KI 1) tO))],[([0,999999],.box [LZ tU,LI,LI]),((KI 1),.row tO m3 [])]⟩]
def nZ:Nat->T->T->T->T->T->T->T->T->T->T->T->T->T->(T->T->T->T->T->T->T->An)->An
 | 0,_,_,_,_,_,_,_,_,_,_,_,_,_,_=>.bad
 | m+1,x0,x1,x2,x3,x4,x5,x6,x7,x8,x9,x10,bW,gH,k0 =>
  jn (fun (j16:T->T->T->T->An) =>
  cond ((decide ((x10.rows.length:Int) > 0))==true)
  (zC m (wL x0) x1 x2 (T.i 2)
  (fun y0 y1 y2 y3=>j16 (T.b y0.bool) (wL y1) y2 y3))
  (j16 (T.b false) (wL x0) x1 x2))
  (fun y4 y5 y6 y7=>cond y4.bool
  (uE m (wL y5) y6 y7 (T.l [[(T.i 2)],[(T.i 2)],[(T.i 2)],[(T.i 2)],[(T.i 2)],[(T.i 2)],[(T.i 3)],[(T.i 4)]])
  (fun y8 y9 nO nT=>bY m (wL y9) nO nT (T.i (x10.rows.length:Int))
  (fun nY y13 o8 sw=>k0 y8 nY (T.i 0) (T.l []) (wL y13) o8 sw)))
  (bY m (wL y5) y6 y7 (T.i (x9.rows.length:Int))
  (fun vS uS BF y20=>bY m (wL uS) BF y20 (T.i 14)
  (fun y21 y22 y23 y24=>jn (fun (j44:T->An) =>
  cond (y21.int==0)
  (j44 (T.b true))
  (cond (y21.int==1)
  (j44 (T.b true))
  (j44 (T.b (y21.int==2)))))
  (fun y25=>cond y25.bool
  (vM m (wL y22) y23 y24
  (fun JC y27 y28 y29=>k0 (T.i 1) (T.i 0) (T.i 0) (wL JC) (wL y27) y28 y29))
  (jn (fun (j43:T->An) =>
  cond (y21.int==3)
  (j43 (T.b true))
  (cond (y21.int==4)
  (j43 (T.b true))
  (cond (y21.int==5)
  (j43 (T.b true))
  (j43 (T.b (y21.int==6))))))
  (fun Gg=>cond Gg.bool
  (k0 (T.i 5) vS (T.i 0) (T.l []) (wL y22) y23 y24)
  (jn (fun (j42:T->An) =>
  cond (y21.int==7)
  (j42 (T.b true))
  (j42 (T.b (y21.int==8))))
  (fun y31=>cond y31.bool
  (k0 (T.i 6) (T.i 0) (T.i 0) (T.l []) (wL y22) y23 y24)
  (jn (fun (j41:T->An) =>
  cond (y21.int==9)
  (j41 (T.b true))
  (j41 (T.b (y21.int==10))))
  (fun y32=>cond y32.bool
  (k0 (T.i 7) (T.i 0) (T.i 0) (T.l []) (wL y22) y23 y24)
  (cond (y21.int==11)
  (k0 (T.i 8) vS (T.i 0) (T.l []) (wL y22) y23 y24)
  (cond (y21.int==12)
  (bY m (wL y22) y23 y24 (T.i 3)
  (fun Lp y34 Mx KJ=>k0 (T.i 9) vS Lp (T.l []) (wL y34) Mx KJ))
  (bY m (wL y22) y23 y24 (T.i 3)
  (fun KL y38 y39 Fa=>k0 (T.i 10) (T.i 0) KL (T.l []) (wL y38) y39 Fa)))))))))))))))
def Lu:PS CX aD:=fF Qj (F1 63 [.bx [.fz tU [],AI,AI],.agg [AI,AI,AI,.dz tJ [],.dz tC [],AI,.dz tS [],.dz tW [],.dz tW [],.dz tB []]] 13 7 nZ ⟨[.agg [RI,RI,RI,.own (KR 0 3) tO m3 []]],[[none,none,none],[none,none,none,none,none,none,none,none,none,none]],[some [.fz tU [],RI,RI],none]⟩) Tryz.f63 ⟨63,2,65,17⟩
def jT (m:Nat):Nat->T->T->(T->An)->(T->An)->An
 | 0,_,_,_,_=>.bad
 | n+1,x0,x1,k0,k1 =>
  cond (decide (x1.int<(x0.str.size:Int)))
  (cond (decide ((0:Int)<=x1.int/\x1.int<(x0.str.size:Int)))
  (fQ m (T.i (IntKind.i64.wrap ((x0.str.data.toList.getD (Int.toNat x1.int) 0).toNat:Int))) (T.i 97) (T.i 122)
  (fun y0=>cond ((!y0.bool)==true)
  (cond (decide ((0:Int)<=x1.int/\x1.int<(x0.str.size:Int)))
  (fQ m (T.i (IntKind.i64.wrap ((x0.str.data.toList.getD (Int.toNat x1.int) 0).toNat:Int))) (T.i 48) (T.i 57)
  (fun y1=>cond (!y1.bool)
  (k0 (T.b false))
  (jT m n x0 (bq x1) k0 k1)))
  (.bad))
  (jT m n x0 (bq x1) k0 k1)))
  (.bad))
  (k1 x0)
def CB:Nat->T->(T->An)->An
 | 0,_,_=>.bad
 | m+1,x0,k0 =>
  jT m m x0 (T.i 0)
  (fun y3=>k0 y3)
  (fun y4=>fQ m (T.i (y4.str.size:Int)) (T.i 1) (T.i 12)
  (fun y5=>k0 y5))
def TN:PS CX aD:=fF Lu (FN 213 [.one (AS)] 1 1 CB [.one (RB)]) Tryz.f213 ⟨213,1,27,4⟩ [L2 [0,1,0,1] ⟨[(0,.one (LS)),(3,.one (LI))],[]⟩ 2 1 1 jT .ret ⟨[(2,.one (LB))],[]⟩ (.exit 0) ⟨[(0,.one (LS))],[]⟩]
def EM:Nat->T->T->T->(T->An)->An
 | 0,_,_,_,_=>.bad
 | m+1,x0,x1,x2,k0 =>
  fQ m x0 (T.i 1) (T.i 3)
  (fun y0=>cond ((!y0.bool)==false)
  (cond ((x0.int==2)==true)
  (cond (!(x2.str.toList==(⟨#[]⟩:ByteArray).toList))
  (k0 (T.b false))
  (CB m x1
  (fun y6=>cond (y6.bool==true)
  (k0 (T.b (decide ((x2.str.size:Int)<=20))))
  (k0 (T.b false)))))
  (CB m x1
  (fun y8=>cond (y8.bool==true)
  (k0 (T.b (decide ((x2.str.size:Int)<=20))))
  (k0 (T.b false)))))
  (k0 (T.b false)))
def V4:PS CX aD:=fF TN (FN 201 [.agg [AI,AS,AS]] 3 1 EM [.one (RB)]) Tryz.f201 ⟨201,1,26,4⟩
def jU (m:Nat):Nat->T->T->(T->An)->(T->An)->An
 | 0,_,_,_,_=>.bad
 | n+1,x0,x1,k0,k1 =>
  nu x1 x0
  (aX x1 x0
  (EM m (aM x0 x1 0) (aM x0 x1 1) (aM x0 x1 2)
  (fun y0=>cond ((!y0.bool)==false)
  (cond ((decide (x1.int > 0))==true)
  (cond (decide ((0:Int)<=(IntKind.i64.wrap (x1.int-1))/\(IntKind.i64.wrap (x1.int-1))<(x0.rows.length:Int)))
  (aX x1 x0
  (cond (!(Op.bytesLess (((x0.rows.getD (Int.toNat (IntKind.i64.wrap (x1.int-1))) []).drop 1).getD 0 dflt).str.toList (qE x0 x1 1).str.toList))
  (k0 (T.b false))
  (jU m n x0 (bq x1) k0 k1)))
  (.bad))
  (jU m n x0 (bq x1) k0 k1))
  (k0 (T.b false)))))
  (k1 x0)
def uF:Nat->T->(T->An)->An
 | 0,_,_=>.bad
 | m+1,x0,k0 =>
  jU m m (wL x0) (T.i 0)
  (fun y2=>k0 y2)
  (fun y3=>fQ m (T.i (y3.rows.length:Int)) (T.i 1) (T.i 8)
  (fun y4=>k0 y4))
def TP:PS CX aD:=fF V4 (FN 188 [.one (.dz tO [])] 1 1 uF [.one (RB)]) Tryz.f188 ⟨188,1,37,4⟩ [L2 [0,1,0,1] ⟨[(0,.one (LD tO)),(3,.one (LI))],[([4000000],.gone)]⟩ 2 1 1 jU .ret ⟨[(2,.one (LB))],[]⟩ (.exit 0) ⟨[(0,.one (LD tO))],[([4000000],.gone)]⟩]
def jw:Nat->T->(T->An)->An
 | 0,_,_=>.bad
 | m+1,x0,k0 =>
  cond (decide ((0+x0.rows.length) * 3<=au))
  (k0 (wL x0))
  (.bad)
def JD:PS CX aD:=fF TP (FN 107 [.one (.dz tO [])] 1 1 jw [.one (.own (KR 0 0) tO m3 [])]) Tryz.f107 ⟨107,1,6,4⟩
def mQ (m:Nat):Nat->T->T->T->(T->An)->An
 | 0,_,_,_,_=>.bad
 | n+1,x0,x1,x2,k0 =>
  cond (decide (x2.int<(x0.str.size:Int)))
  (cond (decide ((0:Int)<=x2.int/\x2.int<(x0.str.size:Int)))
  (mQ m n x0 (jO .i64 (BitVec.ofInt IntKind.i64.bits (IntKind.i64.wrap ((jO .i64 (BitVec.ofInt IntKind.i64.bits x1.int ^^^ BitVec.ofInt IntKind.i64.bits (IntKind.i64.wrap ((x0.str.data.toList.getD (Int.toNat x2.int) 0).toNat:Int)))).int * 16777619)) &&& BitVec.ofInt IntKind.i64.bits 4294967295)) (bq x2) k0)
  (.bad))
  (k0 x1)
def JE:Nat->T->(T->An)->An
 | 0,_,_=>.bad
 | m+1,x0,k0 =>
  mQ m m x0 (T.i 2166136261) (T.i 0)
  (fun y0=>k0 y0)
def V5:PS CX aD:=fF JD (FN 219 [.one (AS)] 1 1 JE [.one (RI)]) Tryz.f219 ⟨219,1,20,4⟩ [L1 [0,1,0,1,1] ⟨[(0,.one (LS)),(3,.one (LI)),(4,.one (LI))],[]⟩ 3 1 mQ (.exit 0) ⟨[(3,.one (LI))],[]⟩]
def p9:Nat->T->T->(T->An)->An
 | 0,_,_,_=>.bad
 | m+1,x0,x1,k0 =>
  cond (decide (x1.int<1))
  (k0 (T.i 0))
  (JE m x0
  (fun y0=>cond (!decide (x1.int=0))
  (k0 (T.i (Int.tmod y0.int x1.int)))
  (.bad)))
def Oy:PS CX aD:=fF V5 (FN 211 [.one (AS),.one (AI)] 2 1 p9 [.one (RI)]) Tryz.f211 ⟨211,2,11,16⟩
def lQ (m:Nat):Nat->T->T->T->(T->An)->An->An
 | 0,_,_,_,_,_=>.bad
 | n+1,x0,x1,x2,k0,k1 =>
  nu x2 x0
  (aX x2 x0
  (cond ((aM x0 x2 0).int==x1.int)
  (k0 (T.b true))
  (lQ m n x0 x1 (bq x2) k0 k1)))
  (k1 )
def rA:Nat->T->T->(T->An)->An
 | 0,_,_,_=>.bad
 | m+1,x0,x1,k0 =>
  lQ m m (wL x0) x1 (T.i 0)
  (fun y0=>k0 y0)
  (k0 (T.b false))
def TQ:PS CX aD:=fF Oy (FN 202 [.one (.dz tI []),.one (AI)] 2 1 rA [.one (RB)]) Tryz.f202 ⟨202,2,18,16⟩ [L2 [0,1,0,1] ⟨[(0,.one (LD tI)),(1,.one (LI)),(5,.one (LI))],[([4000000],.gone)]⟩ 3 1 0 lQ .ret ⟨[(4,.one (LB))],[]⟩ (.exit 0) ⟨[],[]⟩]
def lS (m:Nat):Nat->T->T->T->(T->T->T->An)->An
 | 0,_,_,_,_=>.bad
 | n+1,x0,x1,x2,k0 =>
  jn (fun (j2:An) =>
  cond ((decide (x1.int > 0))==true)
  (cond (decide ((0:Int)<=(IntKind.i64.wrap (x1.int-1))/\(IntKind.i64.wrap (x1.int-1))<(x2.rows.length:Int)))
  (cond (decide ((Int.toNat (IntKind.i64.wrap (x1.int-1)))<x2.rows.length))
  (cond (decide (((x2.rows.getD (Int.toNat (IntKind.i64.wrap (x1.int-1))) []).getD 0 dflt).int > x0.int))
  (j2)
  (k0 x0 x1 (wL x2)))
  (.bad))
  (.bad))
  (k0 x0 x1 (wL x2)))
  (cond (decide ((0:Int)<=(IntKind.i64.wrap (x1.int-1))/\(IntKind.i64.wrap (x1.int-1))<(x2.rows.length:Int)))
  (cond (decide ((Int.toNat (IntKind.i64.wrap (x1.int-1)))<x2.rows.length))
  (aX x1 x2
  (cond (decide ((Int.toNat x1.int)<x2.rows.length))
  (lS m n x0 (T.i (IntKind.i64.wrap (x1.int-1))) (T.l (x2.rows.set (Int.toNat x1.int) ((x2.rows.getD (Int.toNat x1.int) []).set 0 ((x2.rows.getD (Int.toNat (IntKind.i64.wrap (x1.int-1))) []).getD 0 dflt)))) k0)
  (.bad)))
  (.bad))
  (.bad))
def rD:Nat->T->T->(T->An)->An
 | 0,_,_,_=>.bad
 | m+1,x0,x1,k0 =>
  rA m (wL x0) x1
  (fun y0=>cond y0.bool
  (k0 (wL x0))
  (cond (decide ((0+x0.rows.length) * 1<=au))
  (cond (decide ((x0.rows.length+1) * 1<=au))
  (lS m m x1 (T.i (IntKind.i64.wrap (((x0.rows++[[x1]]).length:Int)-1))) (T.l (x0.rows++[[x1]]))
  (fun y3 y4 y5=>aX y4 y5
  (cond (decide ((Int.toNat y4.int)<y5.rows.length))
  (k0 (T.l (y5.rows.set (Int.toNat y4.int) ((y5.rows.getD (Int.toNat y4.int) []).set 0 y3))))
  (.bad))))
  (.bad))
  (.bad)))
def TR:PS CX aD:=fF TQ (FN 208 [.one (.fz tI []),.one (AI)] 2 1 rD [.one (.fz tI [])]) Tryz.f208 ⟨208,2,46,16⟩ [L1 [0,0,1,1,1,1] ⟨[(1,.one (LI)),(5,.one (LA (KI 0) tI)),(6,.one (LI))],[((KI 0),.row tI [.F] [])]⟩ 3 3 lS (.exit 0) ⟨[(1,.one (LI)),(5,.one (LA (KI 0) tI)),(6,.one (LI))],[((KI 0),.row tI [.F] [])]⟩]
def iN (m:Nat):Nat->T->T->T->T->(T->An)->(T->An)->An
 | 0,_,_,_,_,_,_=>.bad
 | n+1,x0,x1,x2,x3,k0,k1 =>
  nu x3 x0
  (aX x3 x0
  (p9 m (qE x0 x3 1) x1
  (fun y2=>rD m (wL x2) y2
  (fun y3=>iN m n x0 x1 (wL y3) (bq x3) k0 k1))))
  (k0 x2)
def nH (m:Nat):Nat->T->T->T->T->(T->An)->(T->An)->An
 | 0,_,_,_,_,_,_=>.bad
 | n+1,x0,x1,x2,x3,k0,k1 =>
  nu x2 x0
  (aX x2 x0
  (p9 m (qE x0 x2 1) x1
  (fun y0=>rD m (wL x3) y0
  (fun y1=>iN m n x0 x1 (wL y1) (bq x2) k0 k1))))
  (k1 (wL x3))
def yx:Pack:=⟨[(5,.one (LZ tI))],[]⟩
def yA:Pack:=⟨[(5,.one (LA (KI 0) tI))],[((KI 0),.fz tI [])]⟩
def mD:Nat->T->T->(T->An)->An
 | 0,_,_,_=>.bad
 | m+1,x0,x1,k0 =>
  nH m m (wL x0) x1 (T.i 0) (T.l [])
  (fun y4=>k0 (wL y4))
  (fun y5=>k0 (wL y5))
def Lv:PS CX aD:=fF TR (FN 195 [.one (.dz tO []),.one (AI)] 2 1 mD [.one (.fz tI [])]) Tryz.f195 ⟨195,2,24,16⟩ [L2 [0,1,0,1,1] ⟨[(0,.one (LD tO)),(1,.one (LI)),(5,.one (LZ tI)),(6,.one (LI))],[([4000000],.gone)]⟩ 4 1 1 iN (.exit 0) yx (.exit 0) yA,L2 [0,1,0,1,1] ⟨[(0,.one (LD tO)),(1,.one (LI)),(5,.one (LA (KI 1) tI)),(6,.one (LI))],[([4000000],.gone),((KI 1),.fz tI [])]⟩ 4 1 1 nH (.exit 0) yx (.exit 0) yA]
def iO (m:Nat):Nat->T->T->T->T->T->(T->An)->An
 | 0,_,_,_,_,_,_=>.bad
 | n+1,x0,x1,x2,x3,x4,k0 =>
  nu x3 x0
  (aX x3 x0
  (p9 m (qE x0 x3 1) x2
  (fun y0=>cond (y0.int==x1.int)
  (aX x3 x0
  (cond (decide ((x4.rows.length+1) * 3<=au))
  (iO m n x0 x1 x2 (bq x3) (T.l (x4.rows++[[(aM x0 x3 0),(aM x0 x3 1),(aM x0 x3 2)]])) k0)
  (.bad)))
  (iO m n x0 x1 x2 (bq x3) (wL x4) k0))))
  (k0 (wL x4))
def zD:Nat->T->T->T->(T->An)->An
 | 0,_,_,_,_=>.bad
 | m+1,x0,x1,x2,k0 =>
  iO m m (wL x0) x1 x2 (T.i 0) (T.l [])
  (fun y3=>k0 (wL y3))
def Qk:PS CX aD:=fF Lv (FN 203 [.one (.dz tO []),.one (AI),.one (AI)] 3 1 zD [.one (.own (KR 0 0) tO m3 [])]) Tryz.f203 ⟨203,3,33,64⟩ [L1 [0,1,0,1,1] ⟨[(0,.one (LD tO)),(1,.one (LI)),(2,.one (LI)),(7,.one (LA (KI 1) tO)),(8,.one (LI))],[([4000000],.gone),((KI 1),.row tO m3 [])]⟩ 5 1 iO (.exit 0) ⟨[(7,.one (LA (KI 0) tO))],[((KI 0),.row tO m3 [])]⟩]
def iP (m:Nat):Nat->T->T->T->T->T->T->T->T->T->T->T->T->T->T->T->(T->An)->An
 | 0,_,_,_,_,_,_,_,_,_,_,_,_,_,_,_,_=>.bad
 | n+1,x0,x1,x2,x3,x4,x5,x6,x7,x8,x9,x10,bW,gH,mh,qF,k0 =>
  nu x3 x2
  ((fun (j5:T->An) =>
  aX x3 x2
  (rA m (wL mh) (aM x2 x3 0)
  (fun y1=>cond (!y1.bool)
  (aX x3 x2
  (aX x3 x2
  (zD m (wL bW) (aM x2 x3 0) x4
  (fun y2=>cond (decide ((qF.rows.length+1) * 5<=au))
  (j5 (T.l (qF.rows++[[(T.i 1),(aM x2 x3 0),x10,(wL y2),(T.b false)]])))
  (.bad)))))
  (j5 (wL qF)))))
  (fun y4=>iP m n (T.i (x0.int.toNat:Int)) (T.i (x1.int.toNat:Int)) x2 (bq x3) x4 x5 x6 x7 x8 x9 x10 bW gH mh (wL y4) k0))
  (k0 (wL qF))
def qG:Nat->T->T->T->T->T->T->T->T->T->T->(T->An)->An
 | 0,_,_,_,_,_,_,_,_,_,_,_=>.bad
 | m+1,x0,x1,x2,x3,x4,x5,x6,x7,x8,x9,k0 =>
  mD m (wL x7) x0
  (fun y0=>iP m m (T.i 0) (T.i 0) (wL y0) (T.i 0) x0 x1 x2 (wL x3) (wL x4) x5 x6 (wL x7) x8 (wL x9) (T.l [])
  (fun y6=>k0 (wL y6)))
def Lx:PS CX aD:=fF Qk (FN 189 [.agg [AI,AI,AI,.dz tJ [],.dz tC [],AI],.agg [AI,.dz tO [],AI,.dz tI []]] 10 1 qG [.one (.own (KR 0 0) tW m5 [])]) Tryz.f189 ⟨189,2,48,16⟩ [L1 [0,1,0,1,1,1] ⟨[(2,EP 0),(3,EP 1),(5,.one (LA (KI 2) tW)),(6,.one (LZ tI)),(7,.one (LI))],[((KI 0),.box [LI,LI,LI,LD tJ,LD tC,LI]),((KI 1),.box [LI,LD tO,LI,LD tI]),((KI 2),.row tW m5 []),([4000000],.gone)]⟩ 15 1 iP (.exit 0) ⟨[(5,.one (LA (KI 0) tW))],[((KI 0),.row tW m5 [])]⟩]
def uT:Nat->T->T->T->T->T->T->T->(T->T->T->T->T->T->T->T->An)->An
 | 0,_,_,_,_,_,_,_,_=>.bad
 | m+1,x0,x1,x2,x3,x4,x5,x6,k0 =>
  jn (fun (j4:An) =>
  uF m (wL x6)
  (fun y0=>cond ((!y0.bool)==false)
  (cond ((x2.int==999)==false)
  (cond (decide ((x4.rows.length:Int)>=1000))
  (k0 (T.l []) (T.i 0) x0 x1 x2 (wL x3) (wL x4) x5)
  (j4))
  (k0 (T.l []) (T.i 0) x0 x1 x2 (wL x3) (wL x4) x5))
  (k0 (T.l []) (T.i 0) x0 x1 x2 (wL x3) (wL x4) x5)))
  (jw m (wL x6)
  (fun y2=>cond (decide ((x3.rows.length+1) * 4<=au))
  (qG m x0 x1 (bq x2) (T.l (x3.rows++[[(T.i (IntKind.i64.wrap ((IntKind.i64.wrap (x1.int * 1000))+x2.int))),(wL y2),(T.i 1),(T.l [])]])) (wL x4) x5 (T.i (IntKind.i64.wrap ((IntKind.i64.wrap (x1.int * 1000))+x2.int))) (wL y2) (T.i 1) (T.l [])
  (fun y3=>k0 (wL y3) (T.i (IntKind.i64.wrap ((IntKind.i64.wrap (x1.int * 1000))+x2.int))) x0 x1 (bq x2) (T.l (x3.rows++[[(T.i (IntKind.i64.wrap ((IntKind.i64.wrap (x1.int * 1000))+x2.int))),(wL y2),(T.i 1),(T.l [])]])) (wL x4) x5))
  (.bad)))
def LG:PS CX aD:=fF Lx (F1 162 [.bx [AI,AI,AI,.own tJ m4 [],.own tC m2 [],AI],.one (.dz tO [])] 7 8 uT ⟨[.one (.own (KR 0 0) tW m5 []),.one (RI)],[[none,none,none,none,none,none],[none]],[some [RI,RI,RI,.own (KR 1000 3) tJ m4 [],.own (KR 1000 4) tC m2 [],RI],none]⟩) Tryz.f162 ⟨162,2,64,49⟩
def sP:Nat->T->T->T->T->T->(T->T->T->T->T->An)->An
 | 0,_,_,_,_,_,_=>.bad
 | m+1,x0,x1,x2,x3,x4,k0 =>
  jw m (wL x3)
  (fun y0=>k0 x0 x1 x2 (wL y0) x4)
def Oz:PS CX aD:=fF LG (FN 160 [.agg [AI,AI,AI,.dz tO [],AB]] 5 5 sP [.agg [RI,RI,RI,.own (KR 0 3) tO m3 [],RB]]) Tryz.f160 ⟨160,1,8,4⟩
def jH (m:Nat):Nat->T->T->T->T->T->T->T->T->T->T->T->T->T->(T->T->T->T->T->T->T->T->T->T->T->An)->(T->T->T->T->T->T->T->T->T->T->T->An)->An
 | 0,_,_,_,_,_,_,_,_,_,_,_,_,_,_,_=>.bad
 | n+1,x0,x1,x2,x3,x4,x5,x6,x7,x8,x9,x10,bW,gH,k0,k1 =>
  nu x2 x1
  ((fun (j12:T->An) =>
  cond (decide ((x10.rows.length:Int)<400))
  (aX x2 x1
  (sP m (aM x1 x2 0) (aM x1 x2 1) (aM x1 x2 2) (wL (aM x1 x2 3)) (aM x1 x2 4)
  (fun y5 y6 y7 y8 y9=>cond (decide ((x10.rows.length+1) * 5<=au))
  (j12 (T.l (x10.rows++[[y5,y6,y7,(wL y8),y9]])))
  (.bad))))
  (j12 (wL x10)))
  (fun nT=>jH m n (T.i (x0.int.toNat:Int)) x1 (bq x2) x3 x4 x5 x6 (wL x7) (wL x8) (wL x9) (wL nT) (wL bW) (wL gH) k0 k1))
  (k0 (T.i (x0.int.toNat:Int)) x3 x4 x5 x6 (wL x7) (wL x8) (wL x9) (wL x10) (wL bW) (wL gH))
def jI (m:Nat):Nat->T->T->T->T->T->T->T->T->T->T->T->T->T->(T->T->T->T->T->T->T->T->T->T->T->An)->(T->T->T->T->T->T->T->T->T->T->T->An)->An
 | 0,_,_,_,_,_,_,_,_,_,_,_,_,_,_,_=>.bad
 | n+1,x0,x1,x2,x3,x4,x5,x6,x7,x8,x9,x10,bW,gH,k0,k1 =>
  nu x2 x1
  (cond (decide ((x10.rows.length:Int)<400))
  (aX x2 x1
  (sP m (aM x1 x2 0) (aM x1 x2 1) (aM x1 x2 2) (wL (aM x1 x2 3)) (aM x1 x2 4)
  (fun y0 y1 y2 y3 y4=>cond (decide ((x10.rows.length+1) * 5<=au))
  (jH m n (T.i (x0.int.toNat:Int)) x1 (bq x2) x3 x4 x5 x6 (wL x7) (wL x8) (wL x9) (T.l (x10.rows++[[y0,y1,y2,(wL y3),y4]])) (wL bW) (wL gH) k0 k1)
  (.bad))))
  (jI m n (T.i (x0.int.toNat:Int)) x1 (bq x2) x3 x4 x5 x6 (wL x7) (wL x8) (wL x9) (wL x10) (wL bW) (wL gH) k0 k1))
  (k1 (T.i (x0.int.toNat:Int)) x3 x4 x5 x6 (wL x7) (wL x8) (wL x9) (wL x10) (wL bW) (wL gH))
def zF:Pack:=⟨[(0,.ptr [0,999999] 0 0 0)],[([0,999999],.box [LI,LI,LI,LA [0,3] tJ,LA [0,4] tC,LI,LA [0,6] tS,LA (KI 4) tW,LA [0,8] tW,LA [0,9] tB]),([0,3],.row tJ m4 []),([0,4],.row tC m2 []),([0,6],.row tS mS []),((KI 4),.row tW m5 []),([0,8],.row tW m5 []),([0,9],.row tB m2 [])]⟩
def zG:Pack:=⟨[(0,.ptr [0,999999] 0 0 0)],[([0,999999],.box [LI,LI,LI,LA [0,3] tJ,LA [0,4] tC,LI,LA [0,6] tS,LA [0,7] tW,LA [0,8] tW,LA [0,9] tB]),([0,3],.row tJ m4 []),([0,4],.row tC m2 []),([0,6],.row tS mS []),([0,7],.row tW m5 []),([0,8],.row tW m5 []),([0,9],.row tB m2 [])]⟩
def jo:Nat->T->T->T->T->T->T->T->T->T->T->T->(T->T->T->T->T->T->T->T->T->T->An)->An
 | 0,_,_,_,_,_,_,_,_,_,_,_,_=>.bad
 | m+1,x0,x1,x2,x3,x4,x5,x6,x7,x8,x9,x10,k0 =>
  jI m m (T.i 0) (wL x10) (T.i 0) x0 x1 x2 x5 (wL x3) (wL x4) (wL x6) (wL x7) (wL x8) (wL x9)
  (fun y13 o8 sw wH vS uS BF y20 y21 y22 y23=>k0 (wL uS) (wL BF) (wL y20) (wL y22) (wL y23) o8 sw wH vS (wL y21))
  (fun y24 y25 JC y27 y28 y29 Gg y31 y32 Lp y34=>k0 (wL y29) (wL Gg) (wL y31) (wL Lp) (wL y34) y25 JC y27 y28 (wL y32))
def OA:PS CX aD:=fF Oz (F1 114 [.bx [AI,AI,AI,.own tJ m4 [],.own tC m2 [],AI,.own tS mS [],.own tW m5 [],.own tW m5 [],.own tB m2 []],.one (.dz tW [])] 11 10 jo ⟨[],[[none,none,none,some (tJ,m4,[]),some (tC,m2,[]),none,some (tS,mS,[]),none,some (tW,m5,[]),some (tB,m2,[])],[none]],[some [RI,RI,RI,.par 0 3,.par 0 4,RI,.par 0 6,.own (KR 1000 7) tW m5 [],.par 0 8,.par 0 9],none]⟩) Tryz.f114 ⟨114,2,31,1⟩ [L2 [0,1] ⟨[(0,.ptr [0,999999] 0 0 0),(1,.one (LD tW)),(4,.one (LI))],[([0,999999],.box [LI,LI,LI,LA [0,3] tJ,LA [0,4] tC,LI,LA [0,6] tS,LA (KI 5) tW,LA [0,8] tW,LA [0,9] tB]),([4000000],.gone),([0,3],.row tJ m4 []),([0,4],.row tC m2 []),([0,6],.row tS mS []),((KI 5),.row tW m5 []),([0,8],.row tW m5 []),([0,9],.row tB m2 [])]⟩ 13 11 11 jH (.exit 0) zF (.exit 0) zG,L2 [0,1] ⟨[(0,.ptr [0,999999] 0 0 0),(1,.one (LD tW)),(4,.one (LI))],[([0,999999],.box [LI,LI,LI,LA [0,3] tJ,LA [0,4] tC,LI,LA [0,6] tS,LA [0,7] tW,LA [0,8] tW,LA [0,9] tB]),([4000000],.gone),([0,3],.row tJ m4 []),([0,4],.row tC m2 []),([0,6],.row tS mS []),([0,7],.row tW m5 []),([0,8],.row tW m5 []),([0,9],.row tB m2 [])]⟩ 13 11 11 jI (.exit 0) zF (.exit 0) zG]
def uU:Nat->T->T->T->T->T->T->T->T->T->T->T->(T->T->T->T->T->T->T->T->T->T->T->An)->An
 | 0,_,_,_,_,_,_,_,_,_,_,_,_=>.bad
 | m+1,x0,x1,x2,x3,x4,x5,x6,x7,x8,x9,x10,k0 =>
  cond ((x9.rows.length:Int)==1000)
  (k0 (T.b false) x0 x1 x2 (wL x3) (wL x4) x5 (wL x6) (wL x7) (wL x8) (wL x9))
  (uT m x0 x1 x2 (wL x3) (wL x4) x5 (wL x10)
  (fun y0 y1 y2 y3 y4 y5 y6 y7=>cond (y1.int==0)
  (k0 (T.b false) y2 y3 y4 (wL y5) (wL y6) y7 (wL x6) (wL x7) (wL x8) (wL x9))
  (jw m (wL x10)
  (fun y8=>cond (decide ((x9.rows.length+1) * 2<=au))
  (jo m y2 y3 y4 (wL y5) (wL y6) y7 (wL x6) (wL x7) (wL x8) (T.l (x9.rows++[[y1,(wL y8)]])) (wL y0)
  (fun y9 nO nT nY y13 o8 sw wH vS uS=>k0 (T.b true) o8 sw wH (wL y9) (wL nO) vS (wL nT) (wL uS) (wL nY) (wL y13)))
  (.bad)))))
def LH:PS CX aD:=fF OA (F1 110 [.bx [AI,AI,AI,.own tJ m4 [],.own tC m2 [],AI,.own tS mS [],.own tW m5 [],.own tW m5 [],.own tB m2 []],.one (.dz tO [])] 11 11 uU ⟨[.one (RB)],[[none,none,none,none,none,none,none,none,none,none],[none]],[some [RI,RI,RI,.own (KR 1000 3) tJ m4 [],.own (KR 1000 4) tC m2 [],RI,.own (KR 1000 6) tS mS [],.own (KR 1000 7) tW m5 [],.own (KR 1000 8) tW m5 [],.own (KR 1000 9) tB m2 []],none]⟩) Tryz.f110 ⟨110,2,39,17⟩
def mR (m:Nat):Nat->T->T->T->(T->An)->An->An
 | 0,_,_,_,_,_=>.bad
 | n+1,x0,x1,x2,k0,k1 =>
  nu x2 x0
  (aX x2 x0
  (cond ((qE x0 x2 1).int==x1.int)
  (k0 x2)
  (mR m n x0 x1 (bq x2) k0 k1)))
  (k1 )
def A8:Nat->T->T->(T->An)->An
 | 0,_,_,_=>.bad
 | m+1,x0,x1,k0 =>
  mR m m (wL x0) x1 (T.i 0)
  (fun y0=>k0 y0)
  (k0 (T.i (-1)))
def V6:PS CX aD:=fF LH (FN 217 [.one (.dz tR []),.one (AI)] 2 1 A8 [.one (RI)]) Tryz.f217 ⟨217,2,20,16⟩ [L2 [0,1,0,1] ⟨[(0,.one (LD tR)),(1,.one (LI)),(5,.one (LI))],[([4000000],.gone)]⟩ 3 1 0 mR .ret ⟨[(4,.one (LI))],[]⟩ (.exit 0) ⟨[],[]⟩]
def dZ (m:Nat):Nat->T->T->T->T->T->T->T->T->T->(T->An)->An
 | 0,_,_,_,_,_,_,_,_,_,_=>.bad
 | n+1,x0,x1,x2,x3,x4,x5,x6,x7,x8,k0 =>
  nu x3 x5
  (jn (fun (j4:T->An) =>
  aX x3 x5
  (cond (((qE x5 x3 1).int==x0.int)==true)
  (aX x3 x5
  (cond ((aM x5 x3 0).int==2)
  (j4 (T.i 3))
  (j4 x2)))
  (j4 x2)))
  (fun y2=>aX x3 x5
  (cond (((qE x5 x3 1).int==x0.int)==true)
  (aX x3 x5
  (cond ((aM x5 x3 0).int==3)
  (dZ m n x0 (T.i (x1.int.toNat:Int)) (T.i 4) (bq x3) x4 x5 x6 x7 x8 k0)
  (dZ m n x0 (T.i (x1.int.toNat:Int)) y2 (bq x3) x4 x5 x6 x7 x8 k0)))
  (dZ m n x0 (T.i (x1.int.toNat:Int)) y2 (bq x3) x4 x5 x6 x7 x8 k0))))
  (k0 x2)
def mU:Nat->T->T->T->T->T->T->(T->An)->An
 | 0,_,_,_,_,_,_,_=>.bad
 | m+1,x0,x1,x2,x3,x4,x5,k0 =>
  A8 m (wL x4) x5
  (fun y0=>cond (decide (y0.int>=0))
  (k0 (T.i 1))
  (dZ m m x5 (T.i 0) (T.i 2) (T.i 0) x0 (wL x1) x2 (wL x3) (wL x4)
  (fun y7=>k0 y7)))
def JF:PS CX aD:=fF V6 (FN 205 [.agg [AI,.dz tR [],AI,.dz tP [],.dz tR []],.one (AI)] 6 1 mU [.one (RI)]) Tryz.f205 ⟨205,2,54,16⟩ [L1 [0,1,0,1,1,1] ⟨[(1,.one (LI)),(2,EP 0),(5,.one (LI)),(6,.one (LI))],[((KI 0),.box [LI,LD tR,LI,LD tP,LD tR]),([4000000],.gone)]⟩ 9 1 dZ (.exit 0) ⟨[(5,.one (LI))],[]⟩]
def iQ (m:Nat):Nat->T->T->T->T->T->(T->An)->(T->T->T->T->An)->An
 | 0,_,_,_,_,_,_,_=>.bad
 | n+1,x0,x1,x2,x3,x4,k0,k1 =>
  nu x4 x1
  (aX x2 x0
  (aX x3 (qE x0 x2 2)
  (aX x4 x1
  (cond ((qE (qE x0 x2 2) x3 1).str.toList==(qE x1 x4 1).str.toList)
  (k0 (T.b true))
  (iQ m n x0 x1 x2 x3 (bq x4) k0 k1)))))
  (k1 x0 x1 x2 x3)
def iR (m:Nat):Nat->T->T->T->T->(T->An)->(T->T->T->An)->An
 | 0,_,_,_,_,_,_=>.bad
 | n+1,x0,x1,x2,x3,k0,k1 =>
  aX x2 x0
  (cond (decide (x3.int<((qE x0 x2 2).rows.length:Int)))
  (iQ m n x0 x1 x2 x3 (T.i 0)
  (fun y0=>k0 y0)
  (fun y1 y2 y3 y4=>iR m n y1 y2 y3 (bq y4) k0 k1))
  (k1 x0 x1 x2))
def iT (m:Nat):Nat->T->T->T->(T->An)->An->An
 | 0,_,_,_,_,_=>.bad
 | n+1,x0,x1,x2,k0,k1 =>
  nu x2 x0
  (iR m n x0 x1 x2 (T.i 0)
  (fun y5=>k0 y5)
  (fun y6 y7 y8=>iT m n y6 y7 (bq y8) k0 k1))
  (k1 )
def qH:Nat->T->T->(T->An)->An
 | 0,_,_,_=>.bad
 | m+1,x0,x1,k0 =>
  iT m m (wL x0) (wL x1) (T.i 0)
  (fun y9=>k0 y9)
  (k0 (T.b false))
def LJ:PS CX aD:=fF JF (FN 214 [.one (.dz tR []),.one (.dz tO [])] 2 1 qH [.one (RB)]) Tryz.f214 ⟨214,2,45,16⟩ [L2 [0,1,0,0,1,0,0,1,0,0,1,0,0,1,0,1] ⟨[(0,.one (LD tR)),(1,.one (LD tO)),(5,.one (LI)),(6,.one (LI)),(7,.one (LI))],[([4000000],.gone)]⟩ 5 1 4 iQ .ret ⟨[(4,.one (LB))],[]⟩ (.exit 4) ⟨[(0,.one (LD tR)),(1,.one (LD tO)),(5,.one (LI)),(6,.one (LI))],[([4000000],.gone)]⟩,L2 [0,1,0,0,1,0,0,1,0,1] ⟨[(0,.one (LD tR)),(1,.one (LD tO)),(5,.one (LI)),(6,.one (LI))],[([4000000],.gone)]⟩ 4 1 3 iR .ret ⟨[(4,.one (LB))],[]⟩ (.exit 2) ⟨[(0,.one (LD tR)),(1,.one (LD tO)),(5,.one (LI))],[([4000000],.gone)]⟩,L2 [0,1,0,1] ⟨[(0,.one (LD tR)),(1,.one (LD tO)),(5,.one (LI))],[([4000000],.gone)]⟩ 3 1 0 iT .ret ⟨[(4,.one (LB))],[]⟩ (.exit 0) ⟨[],[]⟩]
def kK (m:Nat):Nat->T->T->T->(T->T->An)->An->An
 | 0,_,_,_,_,_=>.bad
 | n+1,x0,x1,x2,k0,k1 =>
  nu x2 x0
  (aX x2 x0
  (cond ((aM x0 x2 0).str.toList==x1.str.toList)
  (aX x2 x0
  (k0 (qE x0 x2 1) (T.b true)))
  (kK m n x0 x1 (bq x2) k0 k1)))
  (k1 )
def zH:Nat->T->T->(T->T->An)->An
 | 0,_,_,_=>.bad
 | m+1,x0,x1,k0 =>
  kK m m (wL x0) x1 (T.i 0)
  (fun y0 y1=>k0 y0 y1)
  (k0 (T.s (⟨#[]⟩:ByteArray)) (T.b false))
def Ql:PS CX aD:=fF LJ (FN 221 [.one (.dz tP []),.one (AS)] 2 2 zH [.one (RS),.one (RB)]) Tryz.f221 ⟨221,2,25,48⟩ [L2 [0,1,0,1] ⟨[(0,.one (LD tP)),(1,.one (LS)),(6,.one (LI))],[([4000000],.gone)]⟩ 3 2 0 kK .ret ⟨[(4,.one (LS)),(5,.one (LB))],[]⟩ (.exit 0) ⟨[],[]⟩]
def jV (m:Nat):Nat->T->T->T->(T->An)->An->An
 | 0,_,_,_,_,_=>.bad
 | n+1,x0,x1,x2,k0,k1 =>
  nu x2 x1
  (aX x2 x1
  (cond ((aM x1 x2 0).int != 3)
  (jV m n x0 x1 (bq x2) k0 k1)
  (aX x2 x1
  (zH m (wL x0) (qE x1 x2 1)
  (fun y0 y1=>aX x2 x1
  (cond ((!(y1.bool==(!((qE x1 x2 2).str.toList==(⟨#[]⟩:ByteArray).toList))))==false)
  (aX x2 x1
  (cond (!(y0.str.toList==(qE x1 x2 2).str.toList))
  (k0 (T.b false))
  (jV m n x0 x1 (bq x2) k0 k1)))
  (k0 (T.b false))))))))
  (k1 )
def yB:Nat->T->T->(T->An)->An
 | 0,_,_,_=>.bad
 | m+1,x0,x1,k0 =>
  jV m m (wL x0) (wL x1) (T.i 0)
  (fun y3=>k0 y3)
  (k0 (T.b true))
def TS:PS CX aD:=fF Ql (FN 215 [.one (.dz tP []),.one (.dz tO [])] 2 1 yB [.one (RB)]) Tryz.f215 ⟨215,2,47,16⟩ [L2 [0,1,0,1] ⟨[(0,.one (LD tP)),(1,.one (LD tO)),(5,.one (LI))],[([4000000],.gone)]⟩ 3 1 0 jV .ret ⟨[(4,.one (LB))],[]⟩ (.exit 0) ⟨[],[]⟩]
def kL (m:Nat):Nat->T->T->T->T->T->T->T->T->(T->An)->An
 | 0,_,_,_,_,_,_,_,_,_=>.bad
 | n+1,x0,x1,x2,x3,x4,x5,x6,x7,k0 =>
  nu x2 x7
  (aX x2 x7
  (kL m n (T.i (x0.int.toNat:Int)) (T.i (IntKind.i64.wrap (x1.int+((qE x7 x2 2).rows.length:Int)))) (bq x2) x3 x4 x5 x6 x7 k0))
  (k0 x1)
def zI:Nat->T->T->T->T->T->T->(T->An)->An
 | 0,_,_,_,_,_,_,_=>.bad
 | m+1,x0,x1,x2,x3,x4,x5,k0 =>
  kL m m (T.i 0) (T.i (IntKind.i64.wrap ((x3.rows.length:Int)+(x5.rows.length:Int)))) (T.i 0) x0 (wL x1) x2 (wL x3) (wL x4)
  (fun y0=>k0 y0)
def Qn:PS CX aD:=fF TS (FN 216 [.agg [AI,.dz tR [],AI,.dz tP [],.dz tR []],.one (.dz tO [])] 6 1 zI [.one (RI)]) Tryz.f216 ⟨216,2,30,16⟩ [L1 [0,1,0,1,1] ⟨[(2,EP 0),(5,.one (LI)),(6,.one (LI))],[((KI 0),.box [LI,LD tR,LI,LD tP,LD tR]),([4000000],.gone)]⟩ 8 1 kL (.exit 0) ⟨[(5,.one (LI))],[]⟩]
def CG:Nat->T->T->T->(T->An)->An
 | 0,_,_,_,_=>.bad
 | m+1,x0,x1,x2,k0 =>
  fQ m x1 (T.i 1) (T.i 1000000)
  (fun y0=>cond (!y0.bool)
  (k0 (T.b false))
  (cond (x0.int==1)
  (uF m (wL x2)
  (fun y1=>k0 y1))
  (cond (x0.int==2)
  (k0 (T.b ((x2.rows.length:Int)==0)))
  (cond (x0.int==3)
  (k0 (T.b ((x2.rows.length:Int)==0)))
  (k0 (T.b false))))))
def TT:PS CX aD:=fF Qn (FN 218 [.agg [AI,AI,.dz tO []]] 3 1 CG [.one (RB)]) Tryz.f218 ⟨218,1,21,4⟩
def jA:Nat->T->T->T->(T->T->T->An)->An
 | 0,_,_,_,_=>.bad
 | m+1,x0,x1,x2,k0 =>
  jw m (wL x2)
  (fun y0=>k0 x0 x1 (wL y0))
def JG:PS CX aD:=fF TT (FN 187 [.agg [AI,AI,.dz tO []]] 3 3 jA [.agg [RI,RI,.own (KR 0 2) tO m3 []]]) Tryz.f187 ⟨187,1,8,4⟩
def kM (m:Nat):Nat->T->T->T->T->(T->T->T->T->An)->An
 | 0,_,_,_,_,_=>.bad
 | n+1,x0,x1,x2,x3,k0 =>
  cond ((decide (x3.int<(x0.rows.length:Int)))==true)
  (aX x3 x0
  (cond ((Op.bytesLess (aM x0 x3 0).str.toList x1.str.toList)||((aM x0 x3 0).str.toList==x1.str.toList))
  (kM m n x0 x1 x2 (bq x3) k0)
  (k0 x0 x1 x2 x3)))
  (k0 x0 x1 x2 x3)
def kN (m:Nat):Nat->T->T->T->T->T->(T->An)->(T->T->T->An)->An
 | 0,_,_,_,_,_,_,_=>.bad
 | n+1,x0,x1,x2,x3,x4,k0,k1 =>
  nu x3 x4
  (aX x3 x4
  (cond (decide ((Int.toNat x3.int)<x4.rows.length))
  (cond ((aM x4 x3 0).str.toList==x1.str.toList)
  (aX x3 x4
  (cond (decide ((Int.toNat x3.int)<x4.rows.length))
  (k0 (T.l (x4.rows.set (Int.toNat x3.int) ((x4.rows.getD (Int.toNat x3.int) []).set 1 x2))))
  (.bad)))
  (kN m n x0 x1 x2 (bq x3) (wL x4) k0 k1))
  (.bad)))
  (k1 x0 x1 x2)
def zJ:Nat->T->T->T->(T->An)->An
 | 0,_,_,_,_=>.bad
 | m+1,x0,x1,x2,k0 =>
  cond (decide ((0+x0.rows.length) * 2<=au))
  (kN m m (wL x0) x1 x2 (T.i 0) (wL x0)
  (fun y0=>k0 (wL y0))
  (fun y1 y2 y3=>kM m m y1 y2 y3 (T.i 0)
  (fun y5 y6 y7 y8=>cond (decide ((0:Int)<=y8.int/\y8.int<=(y5.rows.length:Int)))
  (cond (decide ((0:Int)<=0/\0<=y8.int))
  (cond (decide ((0+(y5.rows.take (Int.toNat y8.int)).length) * 2<=au))
  (cond (decide (((y5.rows.take (Int.toNat y8.int)).length+1) * 2<=au))
  (cond (decide ((0:Int)<=(y5.rows.length:Int)/\(y5.rows.length:Int)<=(y5.rows.length:Int)))
  (cond (decide ((0:Int)<=y8.int/\y8.int<=(y5.rows.length:Int)))
  (cond (decide ((((y5.rows.take (Int.toNat y8.int))++[[y6,y7]]).length+((y5.rows.take (Int.toNat (y5.rows.length:Int))).drop (Int.toNat y8.int)).length) * 2<=au))
  (k0 (T.l (((y5.rows.take (Int.toNat y8.int))++[[y6,y7]])++((y5.rows.take (Int.toNat (y5.rows.length:Int))).drop (Int.toNat y8.int)))))
  (.bad))
  (.bad))
  (.bad))
  (.bad))
  (.bad))
  (.bad))
  (.bad))))
  (.bad)
def Qo:PS CX aD:=fF JG (FN 67 [.one (.dz tP []),.one (AS),.one (AS)] 3 1 zJ [.one (.own (KR 0 0) tP m2 [])]) Tryz.f67 ⟨67,3,62,64⟩ [L1 [0,0,1,1,1,1] ⟨[(0,.one (LD tP)),(1,.one (LS)),(2,.one (LS)),(9,.one (LI))],[([4000000],.gone)]⟩ 4 4 kM (.exit 2) ⟨[(0,.one (LD tP)),(1,.one (LS)),(2,.one (LS)),(9,.one (LI))],[([4000000],.gone)]⟩,L2 [0,1,0,1,1] ⟨[(0,.one (LD tP)),(1,.one (LS)),(2,.one (LS)),(7,.one (LA (KI 1) tP)),(8,.one (LI))],[([4000000],.gone),((KI 1),.row tP m2 [])]⟩ 5 1 3 kN .ret ⟨[(6,.one (LA (KI 0) tP))],[((KI 0),.row tP m2 [])]⟩ (.exit 0) ⟨[(0,.one (LD tP)),(1,.one (LS)),(2,.one (LS))],[([4000000],.gone)]⟩]
def iU (m:Nat):Nat->T->T->T->T->(T->An)->An
 | 0,_,_,_,_,_=>.bad
 | n+1,x0,x1,x2,x3,k0 =>
  nu x2 x0
  (aX x2 x0
  (cond (!((aM x0 x2 0).str.toList==x1.str.toList))
  (aX x2 x0
  (cond (decide ((x3.rows.length+1) * 2<=au))
  (iU m n x0 x1 (bq x2) (T.l (x3.rows++[[(aM x0 x2 0),(aM x0 x2 1)]])) k0)
  (.bad)))
  (iU m n x0 x1 (bq x2) (wL x3) k0)))
  (k0 (wL x3))
def zK:Nat->T->T->(T->An)->An
 | 0,_,_,_=>.bad
 | m+1,x0,x1,k0 =>
  iU m m (wL x0) x1 (T.i 0) (T.l [])
  (fun y2=>k0 (wL y2))
def Qp:PS CX aD:=fF Qo (FN 103 [.one (.dz tP []),.one (AS)] 2 1 zK [.one (.own (KR 0 0) tP m2 [])]) Tryz.f103 ⟨103,2,29,16⟩ [L1 [0,1,0,1,1] ⟨[(0,.one (LD tP)),(1,.one (LS)),(5,.one (LA (KI 1) tP)),(6,.one (LI))],[([4000000],.gone),((KI 1),.row tP m2 [])]⟩ 4 1 iU (.exit 0) ⟨[(5,.one (LA (KI 0) tP))],[((KI 0),.row tP m2 [])]⟩]
def iE (m:Nat):Nat->T->T->T->(T->An)->An
 | 0,_,_,_,_=>.bad
 | n+1,x0,x1,x2,k0 =>
  nu x1 x0
  (aX x1 x0
  (cond ((aM x0 x1 0).int==1)
  (aX x1 x0
  (aX x1 x0
  (zJ m (wL x2) (qE x0 x1 1) (qE x0 x1 2)
  (fun y0=>iE m n x0 (bq x1) (wL y0) k0))))
  (cond ((aM x0 x1 0).int==2)
  (aX x1 x0
  (zK m (wL x2) (qE x0 x1 1)
  (fun y1=>iE m n x0 (bq x1) (wL y1) k0)))
  (iE m n x0 (bq x1) (wL x2) k0))))
  (k0 (wL x2))
def CJ:Nat->T->T->(T->An)->An
 | 0,_,_,_=>.bad
 | m+1,x0,x1,k0 =>
  cond (decide ((0+x0.rows.length) * 2<=au))
  (iE m m (wL x1) (T.i 0) (wL x0)
  (fun y5=>k0 (wL y5)))
  (.bad)
def TU:PS CX aD:=fF Qp (FN 60 [.one (.dz tP []),.one (.dz tO [])] 2 1 CJ [.one (.own (KR 0 0) tP m2 [])]) Tryz.f60 ⟨60,2,45,16⟩ [L1 [0,1,0,1,1] ⟨[(1,.one (LD tO)),(5,.one (LA (KI 1) tP)),(6,.one (LI))],[([4000000],.gone),((KI 1),.row tP m2 [])]⟩ 3 1 iE (.exit 0) ⟨[(5,.one (LA (KI 0) tP))],[((KI 0),.row tP m2 [])]⟩]
def yC:Nat->T->T->T->T->T->T->(T->T->T->T->An)->(T->T->T->T->T->An)->An
 | 0,_,_,_,_,_,_,_,_=>.bad
 | m+1,x0,x1,x2,x3,x4,x5,k0,k1 =>
  A8 m (wL x1) x4
  (fun y0=>CG m x3 x4 (wL x5)
  (fun y1=>cond (!y1.bool)
  (k0 (T.b false) (wL x0) (wL x1) (wL x2))
  (cond (x3.int==1)
  (jn (fun (j9:An) =>
  rA m (wL x2) x4
  (fun y2=>cond (y2.bool==false)
  (qH m (wL x1) (wL x5)
  (fun y3=>cond (y3.bool==false)
  (yB m (wL x0) (wL x5)
  (fun y4=>cond (!y4.bool)
  (k0 (T.b false) (wL x0) (wL x1) (wL x2))
  (j9)))
  (k0 (T.b false) (wL x0) (wL x1) (wL x2))))
  (k0 (T.b false) (wL x0) (wL x1) (wL x2))))
  (jA m x3 x4 (wL x5)
  (fun y6 y7 y8=>cond (decide ((x1.rows.length+1) * 3<=au))
  (cond (decide ((x2.rows.length+1) * 1<=au))
  (k0 (T.b true) (wL x0) (T.l (x1.rows++[[y6,y7,(wL y8)]])) (T.l (x2.rows++[[x4]])))
  (.bad))
  (.bad))))
  (cond (decide (y0.int<0))
  (cond ((x3.int==3)==true)
  (rA m (wL x2) x4
  (fun nO=>cond (decide ((x2.rows.length+1) * 1<=au))
  (k0 (T.b (!nO.bool)) (wL x0) (wL x1) (T.l (x2.rows++[[x4]])))
  (.bad)))
  (cond (decide ((x2.rows.length+1) * 1<=au))
  (k0 (T.b false) (wL x0) (wL x1) (T.l (x2.rows++[[x4]])))
  (.bad)))
  (cond (x3.int==2)
  (aX y0 x1
  (cond (decide ((Int.toNat y0.int)<x1.rows.length))
  (CJ m (wL x0) (wL (aM x1 y0 2))
  (fun nY=>cond (decide ((0:Int)<=y0.int/\y0.int<=(x1.rows.length:Int)))
  (cond (decide ((0:Int)<=0/\0<=y0.int))
  (cond (decide ((0+(x1.rows.take (Int.toNat y0.int)).length) * 3<=au))
  (cond (decide ((0:Int)<=(x1.rows.length:Int)/\(x1.rows.length:Int)<=(x1.rows.length:Int)))
  (cond (decide ((0:Int)<=(IntKind.i64.wrap (y0.int+1))/\(IntKind.i64.wrap (y0.int+1))<=(x1.rows.length:Int)))
  (cond (decide (((x1.rows.take (Int.toNat y0.int)).length+((x1.rows.take (Int.toNat (x1.rows.length:Int))).drop (Int.toNat (IntKind.i64.wrap (y0.int+1)))).length) * 3<=au))
  (k1 (T.b (decide ((nY.rows.length:Int)<=60))) (wL x0) (wL nY) (T.l ((x1.rows.take (Int.toNat y0.int))++((x1.rows.take (Int.toNat (x1.rows.length:Int))).drop (Int.toNat (IntKind.i64.wrap (y0.int+1)))))) (wL x2))
  (.bad))
  (.bad))
  (.bad))
  (.bad))
  (.bad))
  (.bad)))
  (.bad)))
  (cond (decide ((0:Int)<=y0.int/\y0.int<=(x1.rows.length:Int)))
  (cond (decide ((0:Int)<=0/\0<=y0.int))
  (cond (decide ((0+(x1.rows.take (Int.toNat y0.int)).length) * 3<=au))
  (cond (decide ((0:Int)<=(x1.rows.length:Int)/\(x1.rows.length:Int)<=(x1.rows.length:Int)))
  (cond (decide ((0:Int)<=(IntKind.i64.wrap (y0.int+1))/\(IntKind.i64.wrap (y0.int+1))<=(x1.rows.length:Int)))
  (cond (decide (((x1.rows.take (Int.toNat y0.int)).length+((x1.rows.take (Int.toNat (x1.rows.length:Int))).drop (Int.toNat (IntKind.i64.wrap (y0.int+1)))).length) * 3<=au))
  (k0 (T.b (decide ((x0.rows.length:Int)<=60))) (wL x0) (T.l ((x1.rows.take (Int.toNat y0.int))++((x1.rows.take (Int.toNat (x1.rows.length:Int))).drop (Int.toNat (IntKind.i64.wrap (y0.int+1)))))) (wL x2))
  (.bad))
  (.bad))
  (.bad))
  (.bad))
  (.bad))
  (.bad)))))))
def TV:PS CX aD:=fF TU (F2 210 [.bx [.own tP m2 [],.own tR m3 [],.own tI [.F] []],.agg [AI,AI,.dz tO []]] 6 4 5 yC ⟨[.one (RB)],[[none,none,none],[none,none,none]],[some [.own (KR 1000 0) tP m2 [],.own (KR 1000 1) tR m3 [],.own (KR 1000 2) tI [.F] []],none]⟩ ⟨[.one (RB)],[[some (tP,m2,[]),none,none],[none,none,none]],[some [.own (KR 1000 0) tP m2 [],.own (KR 1000 1) tR m3 [],.own (KR 1000 2) tI [.F] []],none]⟩) Tryz.f210 ⟨210,2,139,17⟩
def ku:Nat->T->T->T->T->T->T->T->T->(T->T->T->T->T->An)->(T->T->T->T->T->T->An)->An
 | 0,_,_,_,_,_,_,_,_,_,_=>.bad
 | m+1,x0,x1,x2,x3,x4,x5,x6,x7,k0,k1 =>
  yC m (wL x3) (wL x4) (T.l []) x5 x6 (wL x7)
  (fun y0 y1 y2 y3=>jA m x5 x6 (wL x7)
  (fun y9 nO nT=>cond (decide ((x1.rows.length+1) * 3<=au))
  (k0 x0 (T.l (x1.rows++[[y9,nO,(wL nT)]])) x2 (wL y1) (wL y2))
  (.bad)))
  (fun y4 y5 y6 y7 y8=>jA m x5 x6 (wL x7)
  (fun nY y13 o8=>cond (decide ((x1.rows.length+1) * 3<=au))
  (k1 (wL y5) x0 (T.l (x1.rows++[[nY,y13,(wL o8)]])) x2 (wL y6) (wL y7))
  (.bad)))
def OB:PS CX aD:=fF TV (F2 206 [.bx [AI,.own tR m3 [],AI,.own tP m2 [],.own tR m3 []],.agg [AI,AI,.dz tO []]] 8 5 6 ku ⟨[],[[none,none,none,none,none],[none,none,none]],[some [RI,.own (KR 1000 1) tR m3 [],RI,.own (KR 1000 3) tP m2 [],.own (KR 1000 4) tR m3 []],none]⟩ ⟨[],[[none,none,none,some (tP,m2,[]),none],[none,none,none]],[some [RI,.own (KR 1000 1) tR m3 [],RI,.own (KR 1000 3) tP m2 [],.own (KR 1000 4) tR m3 []],none]⟩) Tryz.f206 ⟨206,2,43,1⟩
def zL:Nat->T->T->T->T->T->T->T->(T->T->T->T->T->T->An)->(T->T->T->T->T->T->T->An)->An
 | 0,_,_,_,_,_,_,_,_,_=>.bad
 | m+1,x0,x1,x2,x3,x4,x5,x6,k0,k1 =>
  jn (fun (j26:An) =>
  fQ m x5 (T.i 1) (T.i 1000000)
  (fun y0=>cond ((!y0.bool)==false)
  (uF m (wL x6)
  (fun y1=>cond (!y1.bool)
  (k0 (T.i 5) x0 (wL x1) x2 (wL x3) (wL x4))
  (j26)))
  (k0 (T.i 5) x0 (wL x1) x2 (wL x3) (wL x4))))
  (mU m x0 (wL x1) x2 (wL x3) (wL x4) x5
  (fun y3=>cond (y3.int != 2)
  (k0 y3 x0 (wL x1) x2 (wL x3) (wL x4))
  (jn (fun (j25:An) =>
  qH m (wL x4) (wL x6)
  (fun y4=>cond (y4.bool==false)
  (yB m (wL x3) (wL x6)
  (fun y5=>cond ((!y5.bool)==false)
  (zI m x0 (wL x1) x2 (wL x3) (wL x4) (wL x6)
  (fun y6=>cond ((decide (y6.int > 60))==false)
  (cond (decide ((IntKind.i64.wrap ((IntKind.i64.wrap ((x1.rows.length:Int)+(x4.rows.length:Int)))+2)) > 300))
  (k0 (T.i 2) x0 (wL x1) x2 (wL x3) (wL x4))
  (j25))
  (k0 (T.i 2) x0 (wL x1) x2 (wL x3) (wL x4))))
  (k0 (T.i 2) x0 (wL x1) x2 (wL x3) (wL x4))))
  (k0 (T.i 2) x0 (wL x1) x2 (wL x3) (wL x4))))
  (jw m (wL x6)
  (fun y8=>ku m x0 (wL x1) x2 (wL x3) (wL x4) (T.i 1) x5 (wL y8)
  (fun y9 nO nT nY y13=>k0 (T.i 1) y9 (wL nO) nT (wL nY) (wL y13))
  (fun o8 sw wH vS uS BF=>k1 (T.i 1) (wL o8) sw (wL wH) vS (wL uS) (wL BF)))))))
def Qq:PS CX aD:=fF OB (F2 204 [.bx [AI,.own tR m3 [],AI,.own tP m2 [],.own tR m3 []],.one (AI),.one (.dz tO [])] 7 6 7 zL ⟨[.one (RI)],[[none,none,none,none,none],[none],[none]],[some [RI,.own (KR 1000 1) tR m3 [],RI,.own (KR 1000 3) tP m2 [],.own (KR 1000 4) tR m3 []],none,none]⟩ ⟨[.one (RI)],[[none,none,none,some (tP,m2,[]),none],[none],[none]],[some [RI,.own (KR 1000 1) tR m3 [],RI,.own (KR 1000 3) tP m2 [],.own (KR 1000 4) tR m3 []],none,none]⟩) Tryz.f204 ⟨204,3,68,65⟩
def wU:Nat->T->T->T->T->T->T->T->T->T->T->T->T->T->T->T->(T->T->T->T->T->T->T->T->T->T->An)->An
 | 0,_,_,_,_,_,_,_,_,_,_,_,_,_,_,_,_=>.bad
 | m+1,x0,x1,x2,x3,x4,x5,x6,x7,x8,x9,x10,bW,gH,mh,qF,k0 =>
  jn (fun (j17:T->T->An) =>
  aX bW x6
  (cond (decide ((Int.toNat bW.int)<x6.rows.length))
  (zL m ((x6.rows.getD (Int.toNat bW.int) []).headD dflt) (T.l ((x6.rows.getD (Int.toNat bW.int) []).tail.headD dflt).rows) ((x6.rows.getD (Int.toNat bW.int) []).tail.tail.headD dflt) (T.l ((x6.rows.getD (Int.toNat bW.int) []).tail.tail.tail.headD dflt).rows) (T.l ((x6.rows.getD (Int.toNat bW.int) []).tail.tail.tail.tail.headD dflt).rows) gH (wL mh)
  (fun y0 y1 y2 y3 y4 y5=>j17 y0 (T.l (x6.rows.set (Int.toNat bW.int) [y1,(wL y2),y3,(wL y4),(wL y5)])))
  (fun y6 y7 y8 y9 nO nT nY=>j17 y6 (T.l (x6.rows.set (Int.toNat bW.int) [y8,(wL y9),nO,(wL nT),(wL nY)]))))
  (.bad)))
  (fun y13 o8=>jn (fun (j16:T->An) =>
  cond ((y13.int != 5)==true)
  (j16 (T.b (decide ((x8.rows.length:Int)<400))))
  (j16 (T.b false)))
  (fun sw=>cond sw.bool
  (cond ((y13.int==1)==false)
  (cond (decide ((x8.rows.length+1) * 5<=au))
  (k0 x0 x1 x2 (wL x3) (wL x4) x5 (wL o8) (wL x7) (T.l (x8.rows++[[(T.i 2),bW,gH,(T.l []),(T.b (y13.int==3))]])) (wL x9))
  (.bad))
  (cond (decide ((x8.rows.length+1) * 5<=au))
  (k0 x0 x1 x2 (wL x3) (wL x4) x5 (wL o8) (wL x7) (T.l (x8.rows++[[(T.i 2),bW,gH,(T.l []),(T.b true)]])) (wL x9))
  (.bad)))
  (k0 x0 x1 x2 (wL x3) (wL x4) x5 (wL o8) (wL x7) (wL x8) (wL x9))))
def OC:PS CX aD:=fF Qq (F1 190 [.bx [AI,AI,AI,.own tJ m4 [],.own tC m2 [],AI,.own tS mS [],.own tW m5 [],.own tW m5 [],.own tB m2 []],.agg [AI,AI,AI,.dz tO [],AB]] 15 10 wU ⟨[],[[none,none,none,none,none,none,none,none,none,none],[none,none,none,none,none]],[some [RI,RI,RI,.own (KR 1000 3) tJ m4 [],.own (KR 1000 4) tC m2 [],RI,.own (KR 1000 6) tS mS [],.own (KR 1000 7) tW m5 [],.own (KR 1000 8) tW m5 [],.own (KR 1000 9) tB m2 []],none]⟩) Tryz.f190 ⟨190,2,47,1⟩
def uV:Nat->T->T->T->T->T->T->T->(T->T->T->T->T->T->An)->(T->T->T->T->T->T->T->An)->An
 | 0,_,_,_,_,_,_,_,_,_=>.bad
 | m+1,x0,x1,x2,x3,x4,x5,x6,k0,k1 =>
  fQ m x5 (T.i 1) (T.i 1000000)
  (fun y0=>cond (!y0.bool)
  (k0 (T.b false) x0 (wL x1) x2 (wL x3) (wL x4))
  (jn (fun (j37:T->An) =>
  cond x6.bool
  (j37 (T.i 2))
  (j37 (T.i 3)))
  (fun y1=>mU m x0 (wL x1) x2 (wL x3) (wL x4) x5
  (fun y2=>cond (y2.int==1)
  (ku m x0 (wL x1) x2 (wL x3) (wL x4) y1 x5 (T.l [])
  (fun y3 y4 y5 y6 y7=>k0 (T.b true) y3 (wL y4) y5 (wL y6) (wL y7))
  (fun y8 y9 nO nT nY y13=>k1 (T.b true) (wL y8) y9 (wL nO) nT (wL nY) (wL y13)))
  (cond (y2.int==3)
  (k0 x6 x0 (wL x1) x2 (wL x3) (wL x4))
  (cond (y2.int==4)
  (k0 (T.b (!x6.bool)) x0 (wL x1) x2 (wL x3) (wL x4))
  (jn (fun (j36:An) =>
  cond (x6.bool==false)
  (cond (decide ((IntKind.i64.wrap ((x1.rows.length:Int)+(x4.rows.length:Int)))>=300))
  (k0 (T.b false) x0 (wL x1) x2 (wL x3) (wL x4))
  (j36))
  (k0 (T.b false) x0 (wL x1) x2 (wL x3) (wL x4)))
  (ku m x0 (wL x1) x2 (wL x3) (wL x4) y1 x5 (T.l [])
  (fun y20 y21 y22 y23 y24=>k0 (T.b true) y20 (wL y21) y22 (wL y23) (wL y24))
  (fun y25 JC y27 y28 y29 Gg=>k1 (T.b true) (wL y25) JC (wL y27) y28 (wL y29) (wL Gg))))))))))
def LK:PS CX aD:=fF OC (F2 191 [.bx [AI,.own tR m3 [],AI,.own tP m2 [],.own tR m3 []],.one (AI),.one (AB)] 7 6 7 uV ⟨[.one (RB)],[[none,none,none,none,none],[none],[none]],[some [RI,.own (KR 1000 1) tR m3 [],RI,.own (KR 1000 3) tP m2 [],.own (KR 1000 4) tR m3 []],none,none]⟩ ⟨[.one (RB)],[[none,none,none,some (tP,m2,[]),none],[none],[none]],[some [RI,.own (KR 1000 1) tR m3 [],RI,.own (KR 1000 3) tP m2 [],.own (KR 1000 4) tR m3 []],none,none]⟩) Tryz.f191 ⟨191,3,50,65⟩
def iV (m:Nat):Nat->T->T->T->T->T->T->T->T->T->(T->An)->An->An
 | 0,_,_,_,_,_,_,_,_,_,_,_=>.bad
 | n+1,x0,x1,x2,x3,x4,x5,x6,x7,x8,k0,k1 =>
  nu x2 x6
  (aX x2 x6
  (cond ((aM x6 x2 0).int==x0.int)
  (k0 x2)
  (iV m n x0 (T.i (x1.int.toNat:Int)) (bq x2) x3 x4 x5 x6 x7 x8 k0 k1)))
  (k1 )
def uW:Nat->T->T->T->T->T->T->T->(T->An)->An
 | 0,_,_,_,_,_,_,_,_=>.bad
 | m+1,x0,x1,x2,x3,x4,x5,x6,k0 =>
  iV m m x6 (T.i 0) (T.i 0) x0 x1 x2 (wL x3) (wL x4) x5
  (fun y0=>k0 y0)
  (k0 (T.i (-1)))
def LM:PS CX aD:=fF LK (FN 207 [.agg [AI,AI,AI,.dz tJ [],.dz tC [],AI],.one (AI)] 7 1 uW [.one (RI)]) Tryz.f207 ⟨207,2,22,16⟩ [L2 [0,1,0,1] ⟨[(1,.one (LI)),(2,EP 0),(5,.one (LI))],[((KI 0),.box [LI,LI,LI,LD tJ,LD tC,LI]),([4000000],.gone)]⟩ 9 1 0 iV .ret ⟨[(4,.one (LI))],[]⟩ (.exit 0) ⟨[],[]⟩]
def wV:Nat->T->T->T->T->T->T->T->T->T->(T->T->T->T->T->T->An)->An
 | 0,_,_,_,_,_,_,_,_,_,_=>.bad
 | m+1,x0,x1,x2,x3,x4,x5,x6,x7,x8,k0 =>
  uW m x0 x1 x2 (wL x3) (wL x4) x5 x7
  (fun y0=>jn (fun (j5:An) =>
  cond ((decide (y0.int<0))==false)
  (aX y0 x3
  (cond (decide ((Int.toNat y0.int)<x3.rows.length))
  (cond (((aM x3 y0 2).int != 1)==false)
  (cond (decide ((x4.rows.length:Int)>=1000))
  (k0 x0 x1 x2 (wL x3) (wL x4) x5)
  (j5))
  (k0 x0 x1 x2 (wL x3) (wL x4) x5))
  (.bad)))
  (k0 x0 x1 x2 (wL x3) (wL x4) x5))
  (aX y0 x3
  (cond (decide ((Int.toNat y0.int)<x3.rows.length))
  (mD m (wL (aM x3 y0 1)) x0
  (fun y2=>rA m (wL y2) x6
  (fun y3=>cond (!y3.bool)
  (k0 x0 x1 x2 (wL x3) (wL x4) x5)
  (cond (!x8.bool)
  (cond (decide ((Int.toNat y0.int)<x3.rows.length))
  (cond (decide ((x4.rows.length+1) * 2<=au))
  (k0 x0 x1 x2 (T.l (x3.rows.set (Int.toNat y0.int) ((x3.rows.getD (Int.toNat y0.int) []).set 2 (T.i 3)))) (T.l (x4.rows++[[x7,(T.b false)]])) x5)
  (.bad))
  (.bad))
  (cond (decide ((Int.toNat y0.int)<x3.rows.length))
  (rD m (wL (aM x3 y0 3)) x6
  (fun y4=>cond (decide ((Int.toNat y0.int)<x3.rows.length))
  (cond (decide ((Int.toNat y0.int)<(x3.rows.set (Int.toNat y0.int) ((x3.rows.getD (Int.toNat y0.int) []).set 3 (wL y4))).length))
  (cond (((((x3.rows.set (Int.toNat y0.int) ((x3.rows.getD (Int.toNat y0.int) []).set 3 (wL y4))).getD (Int.toNat y0.int) []).getD 3 dflt).rows.length:Int)==(y2.rows.length:Int))
  (cond (decide ((Int.toNat y0.int)<(x3.rows.set (Int.toNat y0.int) ((x3.rows.getD (Int.toNat y0.int) []).set 3 (wL y4))).length))
  (cond (decide ((x4.rows.length+1) * 2<=au))
  (k0 x0 x1 x2 (T.l ((x3.rows.set (Int.toNat y0.int) ((x3.rows.getD (Int.toNat y0.int) []).set 3 (wL y4))).set (Int.toNat y0.int) (((x3.rows.set (Int.toNat y0.int) ((x3.rows.getD (Int.toNat y0.int) []).set 3 (wL y4))).getD (Int.toNat y0.int) []).set 2 (T.i 2)))) (T.l (x4.rows++[[x7,(T.b true)]])) x5)
  (.bad))
  (.bad))
  (k0 x0 x1 x2 (T.l (x3.rows.set (Int.toNat y0.int) ((x3.rows.getD (Int.toNat y0.int) []).set 3 (wL y4)))) (wL x4) x5))
  (.bad))
  (.bad)))
  (.bad))))))
  (.bad))))
def OD:PS CX aD:=fF LM (F1 192 [.bx [AI,AI,AI,.own tJ m4 [],.own tC m2 [],AI],.one (AI),.one (AI),.one (AB)] 9 6 wV ⟨[],[[none,none,none,none,none,none],[none],[none],[none]],[some [RI,RI,RI,.own (KR 1000 3) tJ m4 [],.own (KR 1000 4) tC m2 [],RI],none,none,none]⟩) Tryz.f192 ⟨192,4,103,1⟩
def gV (m:Nat):Nat->T->T->T->T->T->T->T->T->T->(T->An)->An->An
 | 0,_,_,_,_,_,_,_,_,_,_,_=>.bad
 | n+1,x0,x1,x2,x3,x4,x5,x6,x7,x8,k0,k1 =>
  nu x2 x7
  (aX x2 x7
  (cond ((aM x7 x2 0).int==x0.int)
  (k0 x2)
  (gV m n x0 (T.i (x1.int.toNat:Int)) (bq x2) x3 x4 x5 x6 x7 x8 k0 k1)))
  (k1 )
def o9:Nat->T->T->T->T->T->T->T->(T->An)->An
 | 0,_,_,_,_,_,_,_,_=>.bad
 | m+1,x0,x1,x2,x3,x4,x5,x6,k0 =>
  gV m m x6 (T.i 0) (T.i 0) x0 x1 x2 (wL x3) (wL x4) x5
  (fun y0=>k0 y0)
  (k0 (T.i (-1)))
def JH:PS CX aD:=fF OD (FN 209 [.agg [AI,AI,AI,.dz tJ [],.dz tC [],AI],.one (AI)] 7 1 o9 [.one (RI)]) Tryz.f209 ⟨209,2,22,16⟩ [L2 [0,1,0,1] ⟨[(1,.one (LI)),(2,EP 0),(5,.one (LI))],[((KI 0),.box [LI,LI,LI,LD tJ,LD tC,LI]),([4000000],.gone)]⟩ 9 1 0 gV .ret ⟨[(4,.one (LI))],[]⟩ (.exit 0) ⟨[],[]⟩]
def pq:Nat->T->T->T->T->T->T->T->(T->T->An)->An
 | 0,_,_,_,_,_,_,_,_=>.bad
 | m+1,x0,x1,x2,x3,x4,x5,x6,k0 =>
  o9 m x0 x1 x2 (wL x3) (wL x4) x5 x6
  (fun y0=>cond (decide (x6.int<1000))
  (k0 (T.b false) (T.b false))
  (cond (decide (y0.int>=0))
  (aX y0 x4
  (cond ((qE x4 y0 1).bool==true)
  (k0 (T.b (decide (y0.int<x5.int))) (T.b (decide (y0.int<x5.int))))
  (k0 (T.b false) (T.b (decide (y0.int<x5.int))))))
  (k0 (T.b false) (T.b (decide (x6.int<(IntKind.i64.wrap (x1.int * 1000))))))))
def JJ:PS CX aD:=fF JH (FN 193 [.agg [AI,AI,AI,.dz tJ [],.dz tC [],AI],.one (AI)] 7 2 pq [.one (RB),.one (RB)]) Tryz.f193 ⟨193,2,37,48⟩
def wW:Nat->T->T->T->T->T->T->T->T->T->T->T->T->T->T->T->(T->T->T->T->T->T->T->T->T->T->An)->An
 | 0,_,_,_,_,_,_,_,_,_,_,_,_,_,_,_,_=>.bad
 | m+1,x0,x1,x2,x3,x4,x5,x6,x7,x8,x9,x10,bW,gH,mh,qF,k0 =>
  cond (x10.int==1)
  (wU m x0 x1 x2 (wL x3) (wL x4) x5 (wL x6) (wL x7) (wL x8) (wL x9) x10 bW gH (wL mh) qF
  (fun y0 y1 y2 y3 y4 y5 y6 y7 y8 y9=>k0 y0 y1 y2 (wL y3) (wL y4) y5 (wL y6) (wL y7) (wL y8) (wL y9)))
  (cond (x10.int==3)
  (aX bW x6
  (cond (decide ((Int.toNat bW.int)<x6.rows.length))
  (uV m ((x6.rows.getD (Int.toNat bW.int) []).headD dflt) (T.l ((x6.rows.getD (Int.toNat bW.int) []).tail.headD dflt).rows) ((x6.rows.getD (Int.toNat bW.int) []).tail.tail.headD dflt) (T.l ((x6.rows.getD (Int.toNat bW.int) []).tail.tail.tail.headD dflt).rows) (T.l ((x6.rows.getD (Int.toNat bW.int) []).tail.tail.tail.tail.headD dflt).rows) gH qF
  (fun nO nT nY y13 o8 sw=>k0 x0 x1 x2 (wL x3) (wL x4) x5 (T.l (x6.rows.set (Int.toNat bW.int) [nT,(wL nY),y13,(wL o8),(wL sw)])) (wL x7) (wL x8) (wL x9))
  (fun wH vS uS BF y20 y21 y22=>k0 x0 x1 x2 (wL x3) (wL x4) x5 (T.l (x6.rows.set (Int.toNat bW.int) [uS,(wL BF),y20,(wL y21),(wL y22)])) (wL x7) (wL x8) (wL x9)))
  (.bad)))
  (cond (x10.int==2)
  (wV m x0 x1 x2 (wL x3) (wL x4) x5 bW gH qF
  (fun y23 y24 y25 JC y27 y28=>k0 y23 y24 y25 (wL JC) (wL y27) y28 (wL x6) (wL x7) (wL x8) (wL x9)))
  (cond (x10.int==4)
  (pq m x0 x1 x2 (wL x3) (wL x4) x5 gH
  (fun y29 Gg=>cond Gg.bool
  (jo m x0 x1 x2 (wL x3) (wL x4) x5 (wL x6) (wL x7) (wL x8) (wL x9) (T.l [[(T.i 3),bW,gH,(T.l []),y29]])
  (fun y31 y32 Lp y34 Mx KJ KL y38 y39 Fa=>k0 KJ KL y38 (wL y31) (wL y32) y39 (wL Lp) (wL Fa) (wL y34) (wL Mx)))
  (k0 x0 x1 x2 (wL x3) (wL x4) x5 (wL x6) (wL x7) (wL x8) (wL x9))))
  (k0 x0 x1 x2 (wL x3) (wL x4) x5 (wL x6) (wL x7) (wL x8) (wL x9)))))
def OE:PS CX aD:=fF JJ (F1 163 [.bx [AI,AI,AI,.own tJ m4 [],.own tC m2 [],AI,.own tS mS [],.own tW m5 [],.own tW m5 [],.own tB m2 []],.agg [AI,AI,AI,.dz tO [],AB]] 15 10 wW ⟨[],[[none,none,none,none,none,none,none,none,none,none],[none,none,none,none,none]],[some [RI,RI,RI,.own (KR 1000 3) tJ m4 [],.own (KR 1000 4) tC m2 [],RI,.own (KR 1000 6) tS mS [],.own (KR 1000 7) tW m5 [],.own (KR 1000 8) tW m5 [],.own (KR 1000 9) tB m2 []],none]⟩) Tryz.f163 ⟨163,2,61,1⟩
def zM:Nat->T->T->T->T->T->T->T->T->T->T->T->T->T->T->(T->T->T->T->T->T->T->T->T->T->T->An)->An
 | 0,_,_,_,_,_,_,_,_,_,_,_,_,_,_,_=>.bad
 | m+1,x0,x1,x2,x3,x4,x5,x6,x7,x8,x9,x10,bW,gH,mh,k0 =>
  fQ m bW (T.i 0) (T.i (IntKind.i64.wrap ((x7.rows.length:Int)-1)))
  (fun y0=>cond (!y0.bool)
  (k0 (T.b false) x0 x1 x2 (wL x3) (wL x4) x5 (wL x6) (wL x7) (wL x8) (wL x9))
  (aX bW x7
  (cond (decide ((Int.toNat bW.int)<x7.rows.length))
  (cond (x10.int==4)
  (jo m x0 x1 x2 (wL x3) (wL x4) x5 (wL x6) (wL x7) (wL x8) (wL x9) (T.l [[(aM x7 bW 0),(aM x7 bW 1),(aM x7 bW 2),(aM x7 bW 3),(aM x7 bW 4)]])
  (fun y1 y2 y3 y4 y5 y6 y7 y8 y9 nO=>k0 (T.b true) y6 y7 y8 (wL y1) (wL y2) y9 (wL y3) (wL nO) (wL y4) (wL y5)))
  (cond (decide ((0:Int)<=bW.int/\bW.int<=(x7.rows.length:Int)))
  (cond (decide ((0:Int)<=0/\0<=bW.int))
  (cond (decide ((0+(x7.rows.take (Int.toNat bW.int)).length) * 5<=au))
  (cond (decide ((0:Int)<=(x7.rows.length:Int)/\(x7.rows.length:Int)<=(x7.rows.length:Int)))
  (cond (decide ((0:Int)<=(IntKind.i64.wrap (bW.int+1))/\(IntKind.i64.wrap (bW.int+1))<=(x7.rows.length:Int)))
  (cond (decide (((x7.rows.take (Int.toNat bW.int)).length+((x7.rows.take (Int.toNat (x7.rows.length:Int))).drop (Int.toNat (IntKind.i64.wrap (bW.int+1)))).length) * 5<=au))
  (cond (x10.int==2)
  (wW m x0 x1 x2 (wL x3) (wL x4) x5 (wL x6) (T.l ((x7.rows.take (Int.toNat bW.int))++((x7.rows.take (Int.toNat (x7.rows.length:Int))).drop (Int.toNat (IntKind.i64.wrap (bW.int+1)))))) (wL x8) (wL x9) (aM x7 bW 0) (aM x7 bW 1) (aM x7 bW 2) (wL (aM x7 bW 3)) (aM x7 bW 4)
  (fun nT nY y13 o8 sw wH vS uS BF y20=>k0 (T.b true) nT nY y13 (wL o8) (wL sw) wH (wL vS) (wL uS) (wL BF) (wL y20)))
  (k0 (T.b true) x0 x1 x2 (wL x3) (wL x4) x5 (wL x6) (T.l ((x7.rows.take (Int.toNat bW.int))++((x7.rows.take (Int.toNat (x7.rows.length:Int))).drop (Int.toNat (IntKind.i64.wrap (bW.int+1)))))) (wL x8) (wL x9)))
  (.bad))
  (.bad))
  (.bad))
  (.bad))
  (.bad))
  (.bad)))
  (.bad))))
def Qr:PS CX aD:=fF OE (F1 111 [.bx [AI,AI,AI,.own tJ m4 [],.own tC m2 [],AI,.own tS mS [],.own tW m5 [],.own tW m5 [],.own tB m2 []],.agg [AI,AI,AI,.dz tO []]] 14 11 zM ⟨[.one (RB)],[[none,none,none,none,none,none,none,none,none,none],[none,none,none,none]],[some [RI,RI,RI,.own (KR 1000 3) tJ m4 [],.own (KR 1000 4) tC m2 [],RI,.own (KR 1000 6) tS mS [],.own (KR 1000 7) tW m5 [],.own (KR 1000 8) tW m5 [],.own (KR 1000 9) tB m2 []],none]⟩) Tryz.f111 ⟨111,2,58,17⟩
def jJ (m:Nat):Nat->T->T->T->T->T->T->T->T->T->T->T->T->T->T->T->T->T->T->T->(T->T->T->T->T->T->T->T->T->T->T->T->An)->An
 | 0,_,_,_,_,_,_,_,_,_,_,_,_,_,_,_,_,_,_,_,_=>.bad
 | n+1,x0,x1,x2,x3,x4,x5,x6,x7,x8,x9,x10,bW,gH,mh,qF,wF,wG,xE,x18,k0 =>
  nu x6 bW
  (jn (fun (j4:T->T->An) =>
  aX x6 bW
  (cond (decide ((Int.toNat x6.int)<bW.rows.length))
  (cond ((aM bW x6 1).int==x4.int)
  (aX x6 bW
  (cond (decide ((Int.toNat x6.int)<bW.rows.length))
  (cond (decide ((xE.rows.length+1) * 5<=au))
  (j4 (T.l (xE.rows++[[(aM bW x6 0),(aM bW x6 1),(aM bW x6 2),(aM bW x6 3),(aM bW x6 4)]])) (wL x18))
  (.bad))
  (.bad)))
  (aX x6 bW
  (cond (decide ((Int.toNat x6.int)<bW.rows.length))
  (cond (decide ((x18.rows.length+1) * 5<=au))
  (j4 (wL xE) (T.l (x18.rows++[[(aM bW x6 0),(aM bW x6 1),(aM bW x6 2),(aM bW x6 3),(aM bW x6 4)]])))
  (.bad))
  (.bad))))
  (.bad)))
  (fun y2 y3=>jJ m n x0 x1 x2 x3 x4 (T.i (x5.int.toNat:Int)) (bq x6) (wL x7) (wL x8) (wL x9) (wL x10) (wL bW) (wL gH) mh qF wF wG (wL y2) (wL y3) k0))
  (k0 x0 x1 x2 x3 (wL x7) (wL x8) (wL x9) (wL x10) (wL bW) (wL gH) (wL xE) (wL x18))
def wX:Nat->T->T->T->T->T->T->T->T->T->T->T->(T->T->T->T->T->T->T->T->An)->An
 | 0,_,_,_,_,_,_,_,_,_,_,_,_=>.bad
 | m+1,x0,x1,x2,x3,x4,x5,x6,x7,x8,x9,x10,k0 =>
  jJ m m x0 x1 x2 x5 x10 (T.i 0) (T.i 0) (wL x3) (wL x4) (wL x6) (wL x7) (wL x8) (wL x9) x0 x1 x2 x5 (T.l []) (T.l [])
  (fun y5 y6 y7 y8 y9 nO nT nY y13 o8 sw wH=>k0 (wL sw) (wL wH) (wL y9) (wL nO) (wL nT) (wL nY) (wL y13) (wL o8))
def OG:PS CX aD:=fF Qr (F1 164 [.agg [AI,AI,AI,.own tJ m4 [],.own tC m2 [],AI,.own tS mS [],.own tW m5 [],.own tW m5 [],.own tB m2 []],.one (AI)] 11 8 wX ⟨[.one (.own (KR 0 0) tW m5 []),.one (.own (KR 1 0) tW m5 [])],[[none,none,none,some (tJ,m4,[]),some (tC,m2,[]),none,some (tS,mS,[]),some (tW,m5,[]),some (tW,m5,[]),some (tB,m2,[])],[none]],[none,none]⟩) Tryz.f164 ⟨164,2,44,49⟩ [L1 [0,1,0,1,1,1] ⟨[(0,.agg [LI,LI,LI,LA [0,3] tJ,LA [0,4] tC,LI,LA [0,6] tS,LA [0,7] tW,LA [0,8] tW,LA [0,9] tB]),(1,.one (LI)),(2,EP 6),(6,.one (LA (KI 7) tW)),(7,.one (LA (KI 8) tW)),(8,.one (LI))],[([0,3],.row tJ m4 []),([0,4],.row tC m2 []),([0,6],.row tS mS []),([0,7],.row tW m5 []),([0,8],.row tW m5 []),([0,9],.row tB m2 []),((KI 6),.box [LI,LI,LI,LA [0,3] tJ,LA [0,4] tC,LI,LA [0,6] tS,LA [0,7] tW,LA [0,8] tW,LA [0,9] tB]),((KI 7),.row tW m5 []),((KI 8),.row tW m5 [])]⟩ 19 12 jJ (.exit 0) ⟨[(0,.agg [LI,LI,LI,LA [0,3] tJ,LA [0,4] tC,LI,LA [0,6] tS,LA [0,7] tW,LA [0,8] tW,LA [0,9] tB]),(6,.one (LA (KI 6) tW)),(7,.one (LA (KI 7) tW))],[([0,3],.row tJ m4 []),([0,4],.row tC m2 []),([0,6],.row tS mS []),([0,7],.row tW m5 []),([0,8],.row tW m5 []),([0,9],.row tB m2 []),((KI 6),.row tW m5 []),((KI 7),.row tW m5 [])]⟩]
def eY (m:Nat):Nat->T->T->T->T->T->T->(T->T->T->An)->(T->T->T->T->An)->An
 | 0,_,_,_,_,_,_,_,_=>.bad
 | n+1,x0,x1,x2,x3,x4,x5,k0,k1 =>
  nu x2 x0
  ((fun (j19:T->T->T->An) =>
  aX x2 x0
  (yC m (wL x3) (wL x4) (wL x5) (aM x0 x2 0) (aM x0 x2 1) (wL (aM x0 x2 2))
  (fun y0 y1 y2 y3=>cond (!y0.bool)
  (k0 (T.b false) (T.l []) (T.l []))
  (j19 (wL y1) (wL y2) (wL y3)))
  (fun y4 y5 y6 y7 y8=>cond (!y4.bool)
  (k0 (T.b false) (T.l []) (T.l []))
  (j19 (wL y6) (wL y7) (wL y8)))))
  (fun wH vS uS=>eY m n x0 (T.i (x1.int.toNat:Int)) (bq x2) (wL wH) (wL vS) (wL uS) k0 k1))
  (k1 (T.i (x1.int.toNat:Int)) (wL x3) (wL x4) (wL x5))
def lT:Nat->T->(T->T->T->An)->An
 | 0,_,_=>.bad
 | m+1,x0,k0 =>
  eY m m (wL x0) (T.i 0) (T.i 0) (T.l []) (T.l []) (T.l [])
  (fun y20 y21 y22=>k0 (wL y21) (wL y22) y20)
  (fun y23 y24 y25 JC=>k0 (wL y24) (wL y25) (T.b true))
def Iw:PS CX aD:=fF OG (FN 194 [.one (.dz tR [])] 1 3 lT [.one (.own (KR 0 0) tP m2 []),.one (.own (KR 1 0) tR m3 []),.one (RB)]) Tryz.f194 ⟨194,1,34,28⟩ [L2 [0,1,0,1,1] ⟨[(0,.one (LD tR)),(5,EP 1),(6,.one (LI))],[([4000000],.gone),((KI 1),.box [LA (KI 2) tP,LA (KI 3) tR,LA (KI 4) tI]),((KI 2),.row tP m2 []),((KI 3),.row tR m3 []),((KI 4),.row tI [.F] [])]⟩ 6 3 4 eY .ret ⟨[(2,.one (LA (KI 0) tP)),(3,.one (LA (KI 1) tR)),(4,.one (LB))],[((KI 0),.row tP m2 []),((KI 1),.row tR m3 [])]⟩ (.exit 0) ⟨[(5,EP 0)],[((KI 0),.box [LA (KI 1) tP,LA (KI 2) tR,LA (KI 3) tI]),((KI 1),.row tP m2 []),((KI 2),.row tR m3 []),((KI 3),.row tI [.F] [])]⟩]
def wY:Nat->T->T->T->T->T->T->(T->T->T->T->T->T->T->An)->An
 | 0,_,_,_,_,_,_,_=>.bad
 | m+1,x0,x1,x2,x3,x4,x5,k0 =>
  jn (fun (j6:T->An) =>
  cond (decide (x5.int<0))
  (j6 (T.i 0))
  (j6 x5))
  (fun y0=>jn (fun (j5:T->An) =>
  cond (decide (y0.int > (IntKind.i64.wrap ((x1.rows.length:Int)-x2.int))))
  (j5 (T.i (IntKind.i64.wrap ((x1.rows.length:Int)-x2.int))))
  (j5 y0))
  (fun y1=>cond (decide ((0:Int)<=(IntKind.i64.wrap (x2.int+y1.int))/\(IntKind.i64.wrap (x2.int+y1.int))<=(x1.rows.length:Int)))
  (cond (decide ((0:Int)<=0/\0<=(IntKind.i64.wrap (x2.int+y1.int))))
  (lT m (T.l (x1.rows.take (Int.toNat (IntKind.i64.wrap (x2.int+y1.int)))))
  (fun y2 y3 y4=>k0 (wL x3) (wL x4) x0 (T.l (x1.rows.take (Int.toNat (IntKind.i64.wrap (x2.int+y1.int))))) (T.i ((x1.rows.take (Int.toNat (IntKind.i64.wrap (x2.int+y1.int)))).length:Int)) (wL y2) (wL y3)))
  (.bad))
  (.bad)))
def OH:PS CX aD:=fF Iw (F1 165 [.bx [AI,.own tR m3 [],AI,.own tP m2 [],.own tR m3 []],.one (AI)] 6 7 wY ⟨[],[[none,none,none,some (tP,m2,[]),some (tR,m3,[])],[none]],[some [RI,.own (KR 1000 1) tR m3 [],RI,.own (KR 1000 3) tP m2 [],.own (KR 1000 4) tR m3 []],none]⟩) Tryz.f165 ⟨165,2,65,1⟩
def iW (m:Nat):Nat->T->T->T->T->T->T->T->T->T->T->T->T->T->T->T->T->T->T->(T->T->T->T->T->T->T->T->T->T->T->An)->(T->T->T->T->T->T->T->T->T->T->T->An)->An
 | 0,_,_,_,_,_,_,_,_,_,_,_,_,_,_,_,_,_,_,_,_=>.bad
 | n+1,x0,x1,x2,x3,x4,x5,x6,x7,x8,x9,x10,bW,gH,mh,qF,wF,wG,xE,k0,k1 =>
  cond (decide (x2.int.toNat<gH.rows.length))
  (cond (decide (x3.int<(((gH.rows.getD x2.int.toNat []).getD 4 dflt).rows.length:Int)))
  (cond (decide (x2.int.toNat<gH.rows.length))
  (aX x3 ((gH.rows.getD x2.int.toNat []).getD 4 dflt)
  (jo m x4 x5 x6 (wL mh) (wL qF) x7 (wL gH) (wL wF) (wL wG) (wL xE) (T.l [[(T.i 4),x9,(((((gH.rows.getD x2.int.toNat []).getD 4 dflt).rows.getD (Int.toNat x3.int) []).drop 1).getD 0 dflt),(T.l []),(T.b false)]])
  (fun Mx KJ KL y38 y39 Fa MB PX Qs UF=>iW m n (T.i (x0.int.toNat:Int)) (T.i (x1.int.toNat:Int)) (T.i (x2.int.toNat:Int)) (bq x3) Fa MB PX Qs x8 x9 x10 bW (wL KL) (wL Mx) (wL KJ) (wL UF) (wL y38) (wL y39) k0 k1)))
  (.bad))
  (k0 (T.i (x0.int.toNat:Int)) x4 x5 x6 x7 (wL mh) (wL qF) (wL gH) (wL wF) (wL wG) (wL xE)))
  (.bad)
def nI (m:Nat):Nat->T->T->T->T->T->T->T->T->T->T->T->T->T->T->T->T->T->T->(T->T->T->T->T->T->T->T->T->T->T->An)->(T->T->T->T->T->T->T->T->T->T->T->An)->An
 | 0,_,_,_,_,_,_,_,_,_,_,_,_,_,_,_,_,_,_,_,_=>.bad
 | n+1,x0,x1,x2,x3,x4,x5,x6,x7,x8,x9,x10,bW,gH,mh,qF,wF,wG,xE,k0,k1 =>
  cond (decide (x2.int.toNat<gH.rows.length))
  (cond (decide (x3.int<(((gH.rows.getD x2.int.toNat []).getD 4 dflt).rows.length:Int)))
  (cond (decide (x2.int.toNat<gH.rows.length))
  (aX x3 ((gH.rows.getD x2.int.toNat []).getD 4 dflt)
  (jo m x4 x5 x6 (wL mh) (wL qF) x7 (wL gH) (wL wF) (wL wG) (wL xE) (T.l [[(T.i 4),x9,(((((gH.rows.getD x2.int.toNat []).getD 4 dflt).rows.getD (Int.toNat x3.int) []).drop 1).getD 0 dflt),(T.l []),(T.b false)]])
  (fun y25 JC y27 y28 y29 Gg y31 y32 Lp y34=>iW m n (T.i (x0.int.toNat:Int)) (T.i (x1.int.toNat:Int)) (T.i (x2.int.toNat:Int)) (bq x3) Gg y31 y32 Lp x8 x9 x10 bW (wL y27) (wL y25) (wL JC) (wL y34) (wL y28) (wL y29) k0 k1)))
  (.bad))
  (k1 (T.i (x0.int.toNat:Int)) x4 x5 x6 x7 (wL mh) (wL qF) (wL gH) (wL wF) (wL wG) (wL xE)))
  (.bad)
def yD:Pack:=⟨[(0,.ptr [0,999999] 0 0 0)],[([0,999999],.box [LI,LI,LI,LA [0,3] tJ,LA [0,4] tC,LI,LA [0,6] tS,LA (KI 4) tW,LA [0,8] tW,LA [0,9] tB]),([0,3],.row tJ m4 []),([0,4],.row tC m2 []),([0,6],.row tS mS []),((KI 4),.row tW m5 []),([0,8],.row tW m5 []),([0,9],.row tB m2 [])]⟩
def yE:Pack:=⟨[(0,.ptr [0,999999] 0 0 0)],[([0,999999],.box [LI,LI,LI,LA [0,3] tJ,LA [0,4] tC,LI,LA [0,6] tS,LA [0,7] tW,LA [0,8] tW,LA [0,9] tB]),([0,3],.row tJ m4 []),([0,4],.row tC m2 []),([0,6],.row tS mS []),([0,7],.row tW m5 []),([0,8],.row tW m5 []),([0,9],.row tB m2 [])]⟩
def uX:Nat->T->T->T->T->T->T->T->T->T->T->T->T->T->T->(T->T->T->T->T->T->T->T->T->T->T->An)->(T->T->T->T->T->T->T->T->T->T->An)->An
 | 0,_,_,_,_,_,_,_,_,_,_,_,_,_,_,_,_=>.bad
 | m+1,x0,x1,x2,x3,x4,x5,x6,x7,x8,x9,x10,bW,gH,mh,k0,k1 =>
  aX bW x6
  (wX m x0 x1 x2 (wL x3) (wL x4) x5 (wL x6) (wL x7) (wL x8) (wL x9) bW
  (fun y0 y1 y2 y3 y4 y5 y6 y7=>cond (x10.int==5)
  (cond (decide ((Int.toNat bW.int)<y4.rows.length))
  (cond (decide ((Int.toNat bW.int)<y4.rows.length))
  (jo m x0 x1 x2 (wL y2) (wL y3) x5 (T.l (y4.rows.set (Int.toNat bW.int) ((y4.rows.getD (Int.toNat bW.int) []).set 2 (T.i ((aM y4 bW 1).rows.length:Int))))) (wL y5) (wL y1) (wL y7) (wL y0)
  (fun y8 y9 nO nT nY y13 o8 sw wH vS=>k0 (wL y6) y13 o8 sw (wL y8) (wL y9) wH (wL nO) (wL vS) (wL nT) (wL nY)))
  (.bad))
  (.bad))
  (cond (x10.int==9)
  (cond (decide ((Int.toNat bW.int)<y4.rows.length))
  (wY m ((y4.rows.getD (Int.toNat bW.int) []).headD dflt) (T.l ((y4.rows.getD (Int.toNat bW.int) []).tail.headD dflt).rows) ((y4.rows.getD (Int.toNat bW.int) []).tail.tail.headD dflt) (T.l ((y4.rows.getD (Int.toNat bW.int) []).tail.tail.tail.headD dflt).rows) (T.l ((y4.rows.getD (Int.toNat bW.int) []).tail.tail.tail.tail.headD dflt).rows) gH
  (fun uS BF y20 y21 y22 y23 y24=>k0 (wL y6) x0 x1 x2 (wL y2) (wL y3) x5 (T.l (y4.rows.set (Int.toNat bW.int) [y20,(wL y21),y22,(wL y23),(wL y24)])) (wL y5) (wL y1) (wL y7)))
  (.bad))
  (cond (x10.int==8)
  (nI m m (T.i 0) (T.i 0) (T.i ((Int.toNat bW.int):Int)) (T.i 0) x0 x1 x2 x5 x10 bW gH (wL mh) (wL y4) (wL y2) (wL y3) (wL y5) (wL y6) (wL y7)
  (fun TW y46 y47 y48 y49 y50 y51 y52 y53 y54 y55=>k1 y46 y47 y48 (wL y50) (wL y51) y49 (wL y52) (wL y53) (wL y54) (wL y55))
  (fun y56 y57 y58 y59 y60 y61 y62 y63 y64 y65 y66=>k1 y57 y58 y59 (wL y61) (wL y62) y60 (wL y63) (wL y64) (wL y65) (wL y66)))
  (k1 x0 x1 x2 (wL y2) (wL y3) x5 (wL y4) (wL y5) (wL y6) (wL y7))))))
def LP:PS CX aD:=fF OH (F2 113 [.bx [AI,AI,AI,.own tJ m4 [],.own tC m2 [],AI,.own tS mS [],.own tW m5 [],.own tW m5 [],.own tB m2 []],.agg [AI,AI,AI,.dz tO []]] 14 11 10 uX ⟨[],[[none,none,none,none,none,none,none,none,some (tW,m5,[]),none],[none,none,none,none]],[some [RI,RI,RI,.own (KR 1000 3) tJ m4 [],.own (KR 1000 4) tC m2 [],RI,.own (KR 1000 6) tS mS [],.own (KR 1000 7) tW m5 [],.own (KR 1000 8) tW m5 [],.own (KR 1000 9) tB m2 []],none]⟩ ⟨[],[[none,none,none,none,none,none,none,none,none,none],[none,none,none,none]],[some [RI,RI,RI,.own (KR 1000 3) tJ m4 [],.own (KR 1000 4) tC m2 [],RI,.own (KR 1000 6) tS mS [],.own (KR 1000 7) tW m5 [],.own (KR 1000 8) tW m5 [],.own (KR 1000 9) tB m2 []],none]⟩) Tryz.f113 ⟨113,2,78,1⟩ [L2 [0,1,0,1,1,1,1,1,0,1,1,1,1] ⟨[(0,.ptr [0,999999] 0 0 0),(3,EP 1),(4,.ptr [0,6] 0 0 0),(7,.one (LI))],[([0,999999],.box [LI,LI,LI,LA [0,3] tJ,LA [0,4] tC,LI,LA [0,6] tS,LA (KI 5) tW,LA [0,8] tW,LA [0,9] tB]),((KI 1),.box [LI,LI,LI,LD tO]),([0,6],.row tS mS []),([0,3],.row tJ m4 []),([0,4],.row tC m2 []),((KI 5),.row tW m5 []),([0,8],.row tW m5 []),([0,9],.row tB m2 []),([4000000],.gone)]⟩ 18 11 11 iW (.exit 1) yD (.exit 1) yE,L2 [0,1,0,1,1,1,1,1,0,1,1,1,1] ⟨[(0,.ptr [0,999999] 0 0 0),(3,EP 1),(4,.ptr [0,6] 0 0 0),(7,.one (LI))],[([0,999999],.box [LI,LI,LI,LA [0,3] tJ,LA [0,4] tC,LI,LA [0,6] tS,LA [0,7] tW,LA [0,8] tW,LA [0,9] tB]),((KI 1),.box [LI,LI,LI,LD tO]),([0,6],.row tS mS []),([0,3],.row tJ m4 []),([0,4],.row tC m2 []),([0,7],.row tW m5 []),([0,8],.row tW m5 []),([0,9],.row tB m2 []),([4000000],.gone)]⟩ 18 11 11 nI (.exit 1) yD (.exit 1) yE]
def gB (m:Nat):Nat->T->T->T->T->T->T->T->T->T->T->(T->An)->An
 | 0,_,_,_,_,_,_,_,_,_,_,_=>.bad
 | n+1,x0,x1,x2,x3,x4,x5,x6,x7,x8,x9,k0 =>
  jn (fun (j5:An) =>
  cond ((decide (x4.int<(x3.rows.length:Int)))==true)
  (cond x2.bool
  (j5)
  (k0 (wL x9)))
  (k0 (wL x9)))
  (aX x4 x3
  (cond (decide ((x9.rows.length+1) * 5<=au))
  (gB m n (T.i (x0.int.toNat:Int)) x1 x2 x3 (bq x4) x5 x6 x7 x8 (T.l (x9.rows++[[(T.i 3),(aM x3 x4 0),x5,(T.l []),x1]])) k0)
  (.bad)))
def uY:Nat->T->T->T->T->T->T->T->T->T->T->(T->An)->An
 | 0,_,_,_,_,_,_,_,_,_,_,_=>.bad
 | m+1,x0,x1,x2,x3,x4,x5,x6,x7,x8,x9,k0 =>
  pq m x0 x1 x2 (wL x3) (wL x4) x5 x6
  (fun y0 y1=>cond (x8.int==1)
  (qG m x0 x1 x2 (wL x3) (wL x4) x5 x6 (wL x7) x8 (wL x9)
  (fun y2=>k0 (wL y2)))
  (mD m (wL x7) x0
  (fun y3=>gB m m (T.i 0) y0 y1 (wL y3) (T.i 0) x6 (wL x7) x8 (wL x9) (T.l [])
  (fun y6=>k0 (wL y6)))))
def LQ:PS CX aD:=fF LP (FN 166 [.agg [AI,AI,AI,.dz tJ [],.dz tC [],AI],.agg [AI,.dz tO [],AI,.dz tI []]] 10 1 uY [.one (.own (KR 0 0) tW m5 [])]) Tryz.f166 ⟨166,2,50,16⟩ [L1 [0,1,0,1,1,1,1,1] ⟨[(3,EP 0),(5,.one (LA (KI 1) tW)),(6,.one (LB)),(7,.one (LB)),(8,.one (LZ tI)),(9,.one (LI))],[((KI 0),.box [LI,LD tO,LI,LD tI]),((KI 1),.row tW m5 []),([4000000],.gone)]⟩ 10 1 gB (.exit 0) ⟨[(5,.one (LA (KI 0) tW))],[((KI 0),.row tW m5 [])]⟩]
def gI (m:Nat):Nat->T->T->T->T->T->T->T->T->T->(T->An)->An
 | 0,_,_,_,_,_,_,_,_,_,_=>.bad
 | n+1,x0,x1,x2,x3,x4,x5,x6,x7,x8,k0 =>
  nu x1 x5
  (aX x1 x5
  (uY m x2 x3 x4 (wL x5) (wL x6) x7 (aM x5 x1 0) (wL (aM x5 x1 1)) (aM x5 x1 2) (wL (aM x5 x1 3))
  (fun y0=>cond (decide ((x8.rows.length+y0.rows.length) * 5<=au))
  (gI m n (T.i (x0.int.toNat:Int)) (bq x1) x2 x3 x4 x5 x6 x7 (T.l (x8.rows++y0.rows)) k0)
  (.bad))))
  (k0 (wL x8))
def qN:Nat->T->T->T->T->T->T->(T->An)->An
 | 0,_,_,_,_,_,_,_=>.bad
 | m+1,x0,x1,x2,x3,x4,x5,k0 =>
  gI m m (T.i 0) (T.i 0) x0 x1 x2 (wL x3) (wL x4) x5 (T.l [])
  (fun y1=>k0 (wL y1))
def Iy:PS CX aD:=fF LQ (FN 115 [.agg [AI,AI,AI,.dz tJ [],.dz tC [],AI]] 6 1 qN [.one (.own (KR 0 0) tW m5 [])]) Tryz.f115 ⟨115,1,23,4⟩ [L1 [0,1,0,1,1] ⟨[(1,EP 0),(3,.one (LA (KI 1) tW)),(4,.one (LI))],[((KI 0),.box [LI,LI,LI,LD tJ,LD tC,LI]),((KI 1),.row tW m5 []),([4000000],.gone)]⟩ 9 1 gI (.exit 0) ⟨[(3,.one (LA (KI 0) tW))],[((KI 0),.row tW m5 [])]⟩]
def qI:Nat->T->T->T->T->T->T->T->(T->T->T->T->T->T->T->An)->(T->T->T->T->T->T->T->T->An)->An
 | 0,_,_,_,_,_,_,_,_,_=>.bad
 | m+1,x0,x1,x2,x3,x4,x5,x6,k0,k1 =>
  cond (x1.int==900)
  (k0 (T.b false) x0 x1 x2 (wL x3) (wL x4) x5)
  (jn (fun (j3:T->An) =>
  cond (decide (x6.int<0))
  (j3 (T.i 0))
  (j3 x6))
  (fun y0=>jn (fun (j2:T->An) =>
  cond (decide (y0.int > (IntKind.i64.wrap ((x4.rows.length:Int)-x5.int))))
  (j2 (T.i (IntKind.i64.wrap ((x4.rows.length:Int)-x5.int))))
  (j2 y0))
  (fun y1=>cond (decide ((0:Int)<=(IntKind.i64.wrap (x5.int+y1.int))/\(IntKind.i64.wrap (x5.int+y1.int))<=(x4.rows.length:Int)))
  (cond (decide ((0:Int)<=0/\0<=(IntKind.i64.wrap (x5.int+y1.int))))
  (k1 (T.b true) (wL x3) x0 (bq x1) (T.i 0) (T.l []) (T.l (x4.rows.take (Int.toNat (IntKind.i64.wrap (x5.int+y1.int))))) (T.i ((x4.rows.take (Int.toNat (IntKind.i64.wrap (x5.int+y1.int)))).length:Int)))
  (.bad))
  (.bad))))
def LU:PS CX aD:=fF Iy (F2 116 [.bx [AI,AI,AI,.own tJ m4 [],.own tC m2 [],AI],.one (AI)] 7 7 8 qI ⟨[.one (RB)],[[none,none,none,none,none,none],[none]],[some [RI,RI,RI,.own (KR 1000 3) tJ m4 [],.own (KR 1000 4) tC m2 [],RI],none]⟩ ⟨[.one (RB)],[[none,none,none,some (tJ,m4,[]),none,none],[none]],[some [RI,RI,RI,.own (KR 1000 3) tJ m4 [],.own (KR 1000 4) tC m2 [],RI],none]⟩) Tryz.f116 ⟨116,2,71,17⟩
def CK:Nat->T->T->T->T->T->T->T->T->T->T->T->T->T->T->(T->T->T->T->T->T->T->T->T->T->T->An)->(T->T->T->T->T->T->T->T->T->T->T->T->An)->(T->T->T->T->T->T->T->T->T->T->T->T->An)->An
 | 0,_,_,_,_,_,_,_,_,_,_,_,_,_,_,_,_,_=>.bad
 | m+1,x0,x1,x2,x3,x4,x5,x6,x7,x8,x9,x10,bW,gH,mh,k0,k1,k2 =>
  cond (x10.int==1)
  (uU m x0 x1 x2 (wL x3) (wL x4) x5 (wL x6) (wL x7) (wL x8) (wL x9) (wL mh)
  (fun y0 y1 y2 y3 y4 y5 y6 y7 y8 y9 nO=>k0 y0 y1 y2 y3 (wL y4) (wL y5) y6 (wL y7) (wL y8) (wL y9) (wL nO)))
  (jn (fun (j90:T->An) =>
  cond (x10.int==2)
  (j90 (T.b true))
  (cond (x10.int==3)
  (j90 (T.b true))
  (j90 (T.b (x10.int==4)))))
  (fun nT=>cond nT.bool
  (zM m x0 x1 x2 (wL x3) (wL x4) x5 (wL x6) (wL x7) (wL x8) (wL x9) x10 bW gH (wL mh)
  (fun nY y13 o8 sw wH vS uS BF y20 y21 y22=>k0 nY y13 o8 sw (wL wH) (wL vS) uS (wL BF) (wL y20) (wL y21) (wL y22)))
  (jn (fun (j89:T->An) =>
  cond (x10.int==5)
  (j89 (T.b true))
  (cond (x10.int==8)
  (j89 (T.b true))
  (j89 (T.b (x10.int==9)))))
  (fun y23=>cond y23.bool
  (fQ m bW (T.i 0) (T.i (IntKind.i64.wrap ((x6.rows.length:Int)-1)))
  (fun y24=>cond (!y24.bool)
  (k0 (T.b false) x0 x1 x2 (wL x3) (wL x4) x5 (wL x6) (wL x7) (wL x8) (wL x9))
  (uX m x0 x1 x2 (wL x3) (wL x4) x5 (wL x6) (wL x7) (wL x8) (wL x9) x10 bW gH (wL mh)
  (fun y25 JC y27 y28 y29 Gg y31 y32 Lp y34 Mx=>k1 (T.b true) (wL y25) JC y27 y28 (wL y29) (wL Gg) y31 (wL y32) (wL Lp) (wL y34) (wL Mx))
  (fun KJ KL y38 y39 Fa MB PX Qs UF TW=>k0 (T.b true) KJ KL y38 (wL y39) (wL Fa) MB (wL PX) (wL Qs) (wL UF) (wL TW)))))
  (cond (x10.int==6)
  (k0 (T.b true) x0 x1 x2 (wL x3) (wL x4) (T.i (x4.rows.length:Int)) (wL x6) (wL x7) (wL x8) (wL x9))
  (cond (x10.int==7)
  (qN m x0 x1 x2 (wL x3) (wL x4) x5
  (fun y56=>jo m x0 x1 x2 (wL x3) (wL x4) x5 (wL x6) (wL x7) (wL x8) (wL x9) (wL y56)
  (fun y57 y58 y59 y60 y61 y62 y63 y64 y65 y66=>k0 (T.b true) y62 y63 y64 (wL y57) (wL y58) y65 (wL y59) (wL y66) (wL y60) (wL y61))))
  (cond (x10.int==10)
  (qI m x0 x1 x2 (wL x3) (wL x4) x5 gH
  (fun y67 y68 y69 y70 y71 y72 y73=>k0 y67 y68 y69 y70 (wL y71) (wL y72) y73 (wL x6) (wL x7) (wL x8) (wL x9))
  (fun y74 y75 y76 y77 y78 y79 y80 y81=>k2 y74 (wL y75) y76 y77 y78 (wL y79) (wL y80) y81 (wL x6) (wL x7) (wL x8) (wL x9)))
  (k0 (T.b false) x0 x1 x2 (wL x3) (wL x4) x5 (wL x6) (wL x7) (wL x8) (wL x9)))))))))
def TY:PS CX aD:=fF LU (⟨64,[.bx [AI,AI,AI,.own tJ m4 [],.own tC m2 [],AI,.own tS mS [],.own tW m5 [],.own tW m5 [],.own tB m2 []],.agg [AI,AI,AI,.dz tO []]],fun m vs k=>ap 14 (CK m) vs (lm 11 fun z=>k (Yl ⟨[.one (RB)],[[none,none,none,none,none,none,none,none,none,none],[none,none,none,none]],[some [RI,RI,RI,.own (KR 1000 3) tJ m4 [],.own (KR 1000 4) tC m2 [],RI,.own (KR 1000 6) tS mS [],.own (KR 1000 7) tW m5 [],.own (KR 1000 8) tW m5 [],.own (KR 1000 9) tB m2 []],none]⟩ z)) (lm 12 fun z=>k (Yl ⟨[.one (RB)],[[none,none,none,none,none,none,none,none,some (tW,m5,[]),none],[none,none,none,none]],[some [RI,RI,RI,.own (KR 1000 3) tJ m4 [],.own (KR 1000 4) tC m2 [],RI,.own (KR 1000 6) tS mS [],.own (KR 1000 7) tW m5 [],.own (KR 1000 8) tW m5 [],.own (KR 1000 9) tB m2 []],none]⟩ z)) (lm 12 fun z=>k (Yl ⟨[.one (RB)],[[none,none,none,some (tJ,m4,[]),none,none,none,none,none,none],[none,none,none,none]],[some [RI,RI,RI,.own (KR 1000 3) tJ m4 [],.own (KR 1000 4) tC m2 [],RI,.own (KR 1000 6) tS mS [],.own (KR 1000 7) tW m5 [],.own (KR 1000 8) tW m5 [],.own (KR 1000 9) tB m2 []],none]⟩ z))⟩) Tryz.f64 ⟨64,2,66,17⟩
def gP (m:Nat):Nat->T->T->T->T->T->T->T->T->T->T->T->T->T->T->T->T->T->T->T->T->T->T->T->T->T->T->T->(T->T->T->T->T->T->T->T->T->T->T->T->T->T->T->T->T->T->T->T->T->T->T->T->T->T->An)->An
 | 0,_,_,_,_,_,_,_,_,_,_,_,_,_,_,_,_,_,_,_,_,_,_,_,_,_,_,_,_=>.bad
 | n+1,x0,x1,x2,x3,x4,x5,x6,x7,x8,x9,x10,bW,gH,mh,qF,wF,wG,xE,x18,Dm,x20,x21,GH,x23,x24,x25,x26,k0 =>
  cond (decide (x3.int > 0))
  (jn (fun (j86:T->T->T->T->T->T->T->T->T->T->T->T->T->An) =>
  nZ m (wL x4) x5 x6 bW gH mh (wL x21) (wL GH) qF (wL x23) (wL x24) (wL x25) (wL x26)
  (fun uS BF y20 y21 y22 y23 y24=>CK m bW gH mh (wL x21) (wL GH) qF (wL x23) (wL x24) (wL x25) (wL x26) uS BF y20 (wL y21)
  (fun y25 JC y27 y28 y29 Gg y31 y32 Lp y34 Mx=>j86 (wL y22) y23 y24 JC y27 y28 y31 (wL y29) (wL Gg) (wL y32) (wL Lp) (wL y34) (wL Mx))
  (fun KJ KL y38 y39 Fa MB PX Qs UF TW y46 y47=>j86 (wL y22) y23 y24 y38 y39 Fa Qs (wL MB) (wL PX) (wL UF) (wL TW) (wL y46) (wL y47))
  (fun y48 y49 y50 y51 y52 y53 y54 y55 y56 y57 y58 y59=>j86 (wL y22) y23 y24 y50 y51 y52 y55 (wL y53) (wL y54) (wL y56) (wL y57) (wL y58) (wL y59))))
  (fun y73 y74 y75 y76 y77 y78 y79 y80 y81 y82 y83 y84 y85=>gP m n (T.i (x0.int.toNat:Int)) (T.i (x1.int.toNat:Int)) (T.i (x2.int.toNat:Int)) (T.i (IntKind.i64.wrap (x3.int-1))) y73 y74 y75 x7 x8 x9 x10 y76 y77 y78 y79 (wL wF) (wL wG) (wL xE) (wL x18) (wL Dm) (wL x20) (wL y80) (wL y81) (wL y82) (wL y83) (wL y84) (wL y85) k0))
  (k0 (T.i (x0.int.toNat:Int)) (T.i (x1.int.toNat:Int)) (T.i (x2.int.toNat:Int)) x4 x5 x6 x7 x8 x9 x10 bW gH mh qF (wL wF) (wL wG) (wL xE) (wL x18) (wL Dm) (wL x20) (wL x21) (wL GH) (wL x23) (wL x24) (wL x25) (wL x26))
def CO:Nat->T->T->T->T->(T->T->T->T->T->T->T->T->T->T->T->T->T->An)->An
 | 0,_,_,_,_,_=>.bad
 | m+1,x0,x1,x2,x3,k0 =>
  uE m (wL x0) x1 x2 (T.l [[(T.i 3)],[(T.i 2)],[(T.i 3)],[(T.i 1)]])
  (fun y0 y1 y2 y3=>uR m y0
  (fun y4 y5 y6 y7 y8 y9 nO nT nY y13=>bY m (wL y1) y2 y3 x3
  (fun o8 sw wH vS=>gP m m (T.i 0) (T.i 0) (T.i 0) o8 (wL sw) wH vS (T.i 0) (T.i 0) (T.i 0) (T.i 0) y4 y5 y6 y9 (T.l []) (T.l []) (T.l []) (T.l []) (T.l []) (T.l []) (wL y7) (wL y8) (wL nO) (wL nT) (wL nY) (wL y13)
  (fun y87 y88 y89 y90 y91 y92 y93 y94 y95 y96 y97 y98 y99 akt y101 y102 amP y104 amQ amR aku akv akw akx aky y112=>k0 y97 y98 y99 (wL aku) (wL akv) akt (wL akw) (wL akx) (wL aky) (wL y112) (wL y90) y91 y92))))
def OI:PS CX aD:=fF TY (F1 56 [.bx [.fz tU [],AI,AI],.one (AI)] 4 13 CO ⟨[.agg [RI,RI,RI,.own (KR 0 3) tJ m4 [],.own (KR 0 4) tC m2 [],RI,.own (KR 0 6) tS mS [],.own (KR 0 7) tW m5 [],.own (KR 0 8) tW m5 [],.own (KR 0 9) tB m2 []]],[[none,none,none],[none]],[some [.fz tU [],RI,RI],none]⟩) Tryz.f56 ⟨56,2,23,17⟩ [L1 [0,1,0,1,1] ⟨[(0,.ptr [0,999999] 0 0 0),(4,EP 1),(5,EP 2),(6,.one (LI))],[([0,999999],.box [LZ tU,LI,LI]),((KI 1),.box [LI,LI,LI,LA (KI 3) tJ,LA (KI 4) tC,LI,LA (KI 5) tS,LA (KI 6) tW,LA (KI 7) tW,LA (KI 8) tB]),((KI 2),.box [LI,LI,LI,LA (KI 9) tJ,LA (KI 10) tC,LI,LA (KI 11) tS,LA (KI 12) tW,LA (KI 13) tW,LA (KI 14) tB]),((KI 3),.row tJ m4 []),((KI 4),.row tC m2 []),((KI 5),.row tS mS []),((KI 6),.row tW m5 []),((KI 7),.row tW m5 []),((KI 8),.row tB m2 []),((KI 9),.row tJ m4 []),((KI 10),.row tC m2 []),((KI 11),.row tS mS []),((KI 12),.row tW m5 []),((KI 13),.row tW m5 []),((KI 14),.row tB m2 [])]⟩ 27 26 gP (.exit 0) ⟨[(0,.ptr [0,999999] 0 0 0),(4,EP 1),(5,EP 2)],[([0,999999],.box [LZ tU,LI,LI]),((KI 1),.box [LI,LI,LI,LA (KI 3) tJ,LA (KI 4) tC,LI,LA (KI 5) tS,LA (KI 6) tW,LA (KI 7) tW,LA (KI 8) tB]),((KI 2),.box [LI,LI,LI,LA (KI 9) tJ,LA (KI 10) tC,LI,LA (KI 11) tS,LA (KI 12) tW,LA (KI 13) tW,LA (KI 14) tB]),((KI 3),.row tJ m4 []),((KI 4),.row tC m2 []),((KI 5),.row tS mS []),((KI 6),.row tW m5 []),((KI 7),.row tW m5 []),((KI 8),.row tB m2 []),((KI 9),.row tJ m4 []),((KI 10),.row tC m2 []),((KI 11),.row tS mS []),((KI 12),.row tW m5 []),((KI 13),.row tW m5 []),((KI 14),.row tB m2 [])]⟩]
def sQ:Nat->T->(T->T->T->T->T->T->T->T->T->T->An)->An
 | 0,_,_=>.bad
 | m+1,x0,k0 =>
  Cy m (wL x0)
  (fun y0 y1 y2=>vL m (wL x0) (T.i 90)
  (fun y3=>CO m (wL y0) y1 y2 (T.i (IntKind.i64.wrap (20+y3.int)))
  (fun y4 y5 y6 y7 y8 y9 nO nT nY y13 o8 sw wH=>k0 y4 y5 y6 (wL y7) (wL y8) y9 (wL nO) (wL nT) (wL nY) (wL y13))))
def JK:PS CX aD:=fF OI (FN 21 [.one (.fz tU [])] 1 10 sQ [.agg [RI,RI,RI,.own (KR 0 3) tJ m4 [],.own (KR 0 4) tC m2 [],RI,.own (KR 0 6) tS mS [],.own (KR 0 7) tW m5 [],.own (KR 0 8) tW m5 [],.own (KR 0 9) tB m2 []]]) Tryz.f21 ⟨21,1,11,4⟩
def gW (m:Nat):Nat->T->T->T->T->T->T->T->T->T->T->T->T->T->T->T->T->T->T->T->T->T->T->T->T->(T->T->T->T->T->T->T->T->T->T->T->T->T->T->T->T->T->T->T->T->T->An)->(T->T->T->T->T->T->T->T->T->T->T->T->T->T->T->T->T->T->T->T->An)->An
 | 0,_,_,_,_,_,_,_,_,_,_,_,_,_,_,_,_,_,_,_,_,_,_,_,_,_,_=>.bad
 | n+1,x0,x1,x2,x3,x4,x5,x6,x7,x8,x9,x10,bW,gH,mh,qF,wF,wG,xE,x18,Dm,x20,x21,GH,x23,k0,k1 =>
  cond (decide (x5.int<x4.int))
  (aX x5 x3
  (aQ m (wL (aM x3 x5 1))
  (fun y2=>gG m (wL (aM x3 x5 3))
  (fun y3=>cond (decide ((x23.rows.length+1) * 4<=au))
  (gW m n (T.i (x0.int.toNat:Int)) (T.i (x1.int.toNat:Int)) (T.i (x2.int.toNat:Int)) x3 x4 (bq x5) x6 x7 x8 x9 x10 bW gH mh qF wF wG xE x18 Dm x20 (wL x21) (wL GH) (T.l (x23.rows++[[(aM x3 x5 0),(wL y2),(aM x3 x5 2),(wL y3)]])) k0 k1)
  (.bad)))))
  (k0 (T.i (x0.int.toNat:Int)) (T.i (x1.int.toNat:Int)) (T.i (x2.int.toNat:Int)) x6 x7 x8 x9 x10 bW gH mh qF wF wG xE x18 Dm x20 (wL x21) (wL GH) (wL x23))
def qw (m:Nat):Nat->T->T->T->T->T->T->T->T->T->T->T->T->T->T->T->T->T->T->T->T->T->T->T->(T->T->T->T->T->T->T->T->T->T->T->T->T->T->T->T->T->T->T->T->T->An)->(T->T->T->T->T->T->T->T->T->T->T->T->T->T->T->T->T->T->T->T->An)->An
 | 0,_,_,_,_,_,_,_,_,_,_,_,_,_,_,_,_,_,_,_,_,_,_,_,_,_=>.bad
 | n+1,x0,x1,x2,x3,x4,x5,x6,x7,x8,x9,x10,bW,gH,mh,qF,wF,wG,xE,x18,Dm,x20,x21,GH,k0,k1 =>
  cond (decide (x5.int<x4.int))
  (aX x5 x3
  (aQ m (wL (aM x3 x5 1))
  (fun y0=>gG m (wL (aM x3 x5 3))
  (fun y1=>gW m n (T.i (x0.int.toNat:Int)) (T.i (x1.int.toNat:Int)) (T.i (x2.int.toNat:Int)) x3 x4 (bq x5) x6 x7 x8 x9 x10 bW gH mh qF wF wG xE x18 Dm x20 (wL x21) (wL GH) (T.l [[(aM x3 x5 0),(wL y0),(aM x3 x5 2),(wL y1)]]) k0 k1))))
  (k1 (T.i (x0.int.toNat:Int)) (T.i (x1.int.toNat:Int)) (T.i (x2.int.toNat:Int)) x6 x7 x8 x9 x10 bW gH mh qF wF wG xE x18 Dm x20 (wL x21) (wL GH))
def wI:Pack:=⟨[(1,EP 0),(2,EP 1),(3,EP 2)],[((KI 0),.box [LI,LI,LI,LD tJ,LD tC,LI]),((KI 1),.box [LI,LI,LI,LA (KI 4) tJ,LA (KI 5) tC,LI]),((KI 2),.box [LI,LI,LI,LA (KI 6) tJ,LD tC,LI]),([4000000],.gone),((KI 4),.row tJ [.F,.O m3,.F,.O [.F]] []),((KI 5),.row tC m2 []),((KI 6),.row tJ [.F,.O m3,.F,.O [.F]] [])]⟩
def wJ:Pack:=⟨[(1,EP 0),(2,EP 1),(3,EP 2)],[((KI 0),.box [LI,LI,LI,LD tJ,LD tC,LI]),((KI 1),.box [LI,LI,LI,LA (KI 4) tJ,LA (KI 5) tC,LI]),((KI 2),.box [LI,LI,LI,LN tJ,LD tC,LI]),([4000000],.gone),((KI 4),.row tJ [.F,.O m3,.F,.O [.F]] []),((KI 5),.row tC m2 [])]⟩
def sS:Nat->T->T->T->T->T->T->(T->T->T->T->T->T->An)->An
 | 0,_,_,_,_,_,_,_=>.bad
 | m+1,x0,x1,x2,x3,x4,x5,k0 =>
  qw m m (T.i 0) (T.i 0) (T.i 0) (wL x3) (T.i (x3.rows.length:Int)) (T.i 0) x0 x1 x2 (wL x3) (wL x4) x5 (T.i 0) (T.i 0) (T.i 0) (T.i 0) x0 x1 x2 (wL x4) x5 (T.l []) (T.l [])
  (fun y4 y5 y6 y7 y8 y9 nO nT nY y13 o8 sw wH vS uS BF y20 y21 y22 y23 y24=>bT m (wL nT)
  (fun TW=>k0 vS uS BF (wL y24) (wL TW) y21))
  (fun y25 JC y27 y28 y29 Gg y31 y32 Lp y34 Mx KJ KL y38 y39 Fa MB PX Qs UF=>bT m (wL y32)
  (fun y46=>k0 y38 y39 Fa (T.l []) (wL y46) PX))
def JL:PS CX aD:=fF JK (FN 73 [.agg [AI,AI,AI,.dz tJ [],.dz tC [],AI]] 6 6 sS [.agg [RI,RI,RI,.own (KR 0 3) tJ [.F,.O m3,.F,.O [.F]] [],.own (KR 0 4) tC m2 [],RI]]) Tryz.f73 ⟨73,1,35,4⟩ [L2 [0,1,0,1,1,1] ⟨[(1,EP 0),(2,EP 1),(3,EP 2),(9,.one (LD tJ)),(10,.one (LI)),(11,.one (LI))],[((KI 0),.box [LI,LI,LI,LD tJ,LD tC,LI]),((KI 1),.box [LI,LI,LI,LA (KI 4) tJ,LA (KI 5) tC,LI]),((KI 2),.box [LI,LI,LI,LA (KI 6) tJ,LD tC,LI]),([4000000],.gone),((KI 4),.row tJ [.F,.O m3,.F,.O [.F]] []),((KI 5),.row tC m2 []),((KI 6),.row tJ [.F,.O m3,.F,.O [.F]] [])]⟩ 24 21 20 gW (.exit 0) wI (.exit 0) wJ,L2 [0,1,0,1,1,1] ⟨[(1,EP 0),(2,EP 1),(3,EP 2),(9,.one (LD tJ)),(10,.one (LI)),(11,.one (LI))],[((KI 0),.box [LI,LI,LI,LD tJ,LD tC,LI]),((KI 1),.box [LI,LI,LI,LA (KI 4) tJ,LA (KI 5) tC,LI]),((KI 2),.box [LI,LI,LI,LN tJ,LD tC,LI]),([4000000],.gone),((KI 4),.row tJ [.F,.O m3,.F,.O [.F]] []),((KI 5),.row tC m2 [])]⟩ 23 21 20 qw (.exit 0) wI (.exit 0) wJ]
def gX (m:Nat):Nat->T->T->T->T->(T->An)->An
 | 0,_,_,_,_,_=>.bad
 | n+1,x0,x1,x2,x3,k0 =>
  cond (decide (x2.int<x1.int))
  (aX x2 x0
  (aQ m (wL (aM x0 x2 3))
  (fun y0=>cond (decide ((x3.rows.length+1) * 5<=au))
  (gX m n x0 x1 (bq x2) (T.l (x3.rows++[[(aM x0 x2 0),(aM x0 x2 1),(aM x0 x2 2),(wL y0),(aM x0 x2 4)]])) k0)
  (.bad))))
  (k0 (wL x3))
def pz:Nat->T->(T->An)->An
 | 0,_,_=>.bad
 | m+1,x0,k0 =>
  gX m m (wL x0) (T.i (x0.rows.length:Int)) (T.i 0) (T.l [])
  (fun y1=>k0 (wL y1))
def JM:PS CX aD:=fF JL (FN 74 [.one (.dz tW [])] 1 1 pz [.one (.own (KR 0 0) tW [.F,.F,.F,.O m3,.F] [])]) Tryz.f74 ⟨74,1,22,4⟩ [L1 [0,1,0,1,1] ⟨[(3,.one (LA (KI 0) tW)),(6,.one (LD tW)),(7,.one (LI)),(8,.one (LI))],[((KI 0),.row tW [.F,.F,.F,.O m3,.F] []),([4000000],.gone)]⟩ 4 1 gX (.exit 0) ⟨[(3,.one (LA (KI 0) tW))],[((KI 0),.row tW [.F,.F,.F,.O m3,.F] [])]⟩]
def iX (m:Nat):Nat->T->T->T->T->(T->An)->An
 | 0,_,_,_,_,_=>.bad
 | n+1,x0,x1,x2,x3,k0 =>
  cond (decide (x2.int<x1.int))
  (aX x2 x0
  (aQ m (wL (aM x0 x2 2))
  (fun y0=>cond (decide ((x3.rows.length+1) * 3<=au))
  (iX m n x0 x1 (bq x2) (T.l (x3.rows++[[(aM x0 x2 0),(aM x0 x2 1),(wL y0)]])) k0)
  (.bad))))
  (k0 (wL x3))
def qJ:Nat->T->(T->An)->An
 | 0,_,_=>.bad
 | m+1,x0,k0 =>
  iX m m (wL x0) (T.i (x0.rows.length:Int)) (T.i 0) (T.l [])
  (fun y1=>k0 (wL y1))
def LV:PS CX aD:=fF JM (FN 120 [.one (.dz tR [])] 1 1 qJ [.one (.own (KR 0 0) tR [.F,.F,.O m3] [])]) Tryz.f120 ⟨120,1,22,4⟩ [L1 [0,1,0,1,1] ⟨[(3,.one (LA (KI 0) tR)),(6,.one (LD tR)),(7,.one (LI)),(8,.one (LI))],[((KI 0),.row tR [.F,.F,.O m3] []),([4000000],.gone)]⟩ 4 1 iX (.exit 0) ⟨[(3,.one (LA (KI 0) tR))],[((KI 0),.row tR [.F,.F,.O m3] [])]⟩]
def sU:Nat->T->T->T->T->T->(T->T->T->T->T->An)->An
 | 0,_,_,_,_,_,_=>.bad
 | m+1,x0,x1,x2,x3,x4,k0 =>
  qJ m (wL x1)
  (fun y0=>bH m (wL x3)
  (fun y1=>qJ m (wL x4)
  (fun y2=>k0 x0 (wL y0) x2 (wL y1) (wL y2))))
def JN:PS CX aD:=fF LV (FN 75 [.agg [AI,.dz tR [],AI,.dz tP [],.dz tR []]] 5 5 sU [.agg [RI,.own (KR 0 1) tR [.F,.F,.O m3] [],RI,.own (KR 0 3) tP m2 [],.own (KR 0 4) tR [.F,.F,.O m3] []]]) Tryz.f75 ⟨75,1,17,4⟩
def gY (m:Nat):Nat->T->T->T->T->T->T->T->T->T->T->T->T->T->T->T->T->T->T->T->T->T->T->T->T->T->(T->T->T->T->T->T->T->T->T->T->T->T->T->T->T->T->T->T->T->T->T->T->An)->An
 | 0,_,_,_,_,_,_,_,_,_,_,_,_,_,_,_,_,_,_,_,_,_,_,_,_,_,_=>.bad
 | n+1,x0,x1,x2,x3,x4,x5,x6,x7,x8,x9,x10,bW,gH,mh,qF,wF,wG,xE,x18,Dm,x20,x21,GH,x23,x24,k0 =>
  cond (decide (x4.int<x3.int))
  (aX x4 x2
  (aQ m (wL (aM x2 x4 1))
  (fun y46=>cond (decide ((x24.rows.length+1) * 2<=au))
  (gY m n (T.i (x0.int.toNat:Int)) (T.i (x1.int.toNat:Int)) x2 x3 (bq x4) x5 x6 x7 x8 x9 x10 bW gH (wL mh) (wL qF) (wL wF) (wL wG) (wL xE) (wL x18) (wL Dm) (wL x20) (wL x21) (wL GH) (wL x23) (T.l (x24.rows++[[(aM x2 x4 0),(wL y46)]])) k0)
  (.bad))))
  (k0 (T.i (x0.int.toNat:Int)) (T.i (x1.int.toNat:Int)) x5 x6 x7 x8 x9 x10 bW gH (wL mh) (wL qF) (wL wF) (wL wG) (wL xE) (wL x18) (wL Dm) (wL x20) (wL x21) (wL GH) (wL x23) (wL x24))
def gZ (m:Nat):Nat->T->T->T->T->T->T->T->T->T->T->T->T->T->T->T->T->T->T->T->T->T->T->T->T->T->T->T->T->T->T->T->T->T->T->T->T->(T->T->T->T->T->T->T->T->T->T->T->T->T->T->T->T->T->T->T->T->T->T->T->T->T->T->T->T->T->T->T->T->T->An)->An
 | 0,_,_,_,_,_,_,_,_,_,_,_,_,_,_,_,_,_,_,_,_,_,_,_,_,_,_,_,_,_,_,_,_,_,_,_,_,_=>.bad
 | n+1,x0,x1,x2,x3,x4,x5,x6,x7,x8,x9,x10,bW,gH,mh,qF,wF,wG,xE,x18,Dm,x20,x21,GH,x23,x24,x25,x26,x27,x28,x29,x30,x31,x32,x33,x34,x35,k0 =>
  cond (decide (x5.int<x4.int))
  (aX x5 x3
  (sU m (aM x3 x5 0) (wL (aM x3 x5 1)) (aM x3 x5 2) (wL (aM x3 x5 3)) (wL (aM x3 x5 4))
  (fun y8 y9 nO nT nY=>cond (decide ((x32.rows.length+1) * 5<=au))
  (gZ m n (T.i (x0.int.toNat:Int)) (T.i (x1.int.toNat:Int)) (T.i (x2.int.toNat:Int)) x3 x4 (bq x5) x6 x7 x8 x9 x10 bW gH mh qF wF wG xE x18 Dm x20 x21 GH x23 (wL x24) (wL x25) (wL x26) (wL x27) (wL x28) (wL x29) (wL x30) (wL x31) (T.l (x32.rows++[[y8,(wL y9),nO,(wL nT),(wL nY)]])) (wL x33) (wL x34) (wL x35) k0)
  (.bad))))
  (k0 (T.i (x0.int.toNat:Int)) (T.i (x1.int.toNat:Int)) (T.i (x2.int.toNat:Int)) x6 x7 x8 x9 x10 bW gH mh qF wF wG xE x18 Dm x20 x21 GH x23 (wL x24) (wL x25) (wL x26) (wL x27) (wL x28) (wL x29) (wL x30) (wL x31) (wL x32) (wL x33) (wL x34) (wL x35))
def mV:Nat->T->T->T->T->T->T->T->T->T->T->(T->T->T->T->T->T->T->T->T->T->An)->An
 | 0,_,_,_,_,_,_,_,_,_,_,_=>.bad
 | m+1,x0,x1,x2,x3,x4,x5,x6,x7,x8,x9,k0 =>
  sS m x0 x1 x2 (wL x3) (wL x4) x5
  (fun y0 y1 y2 y3 y4 y5=>pz m (wL x7)
  (fun y6=>pz m (wL x8)
  (fun y7=>gZ m m (T.i 0) (T.i 0) (T.i 0) (wL x6) (T.i (x6.rows.length:Int)) (T.i 0) x0 x1 x2 (wL x3) (wL x4) x5 (wL x6) (wL x7) (wL x8) (wL x9) (T.i 0) (T.i 0) (T.i 0) (T.i 0) y0 y1 y2 y5 (T.l []) (T.l []) (T.l []) (T.l []) (T.l []) (T.l []) (wL y3) (wL y4) (T.l []) (wL y6) (wL y7) (T.l [])
  (fun y13 o8 sw wH vS uS BF y20 y21 y22 y23 y24 y25 JC y27 y28 y29 Gg y31 y32 Lp y34 Mx KJ KL y38 y39 Fa MB PX Qs UF TW=>gY m m (T.i (o8.int.toNat:Int)) (T.i (sw.int.toNat:Int)) y25 (T.i (y25.rows.length:Int)) (T.i 0) JC y27 y28 y29 Gg y31 y32 Lp (wL y34) (wL Mx) (wL KJ) (wL KL) (wL y38) (wL y39) (wL Fa) (wL MB) (wL PX) (wL Qs) (wL UF) (wL TW)
  (fun y47 y48 y49 y50 y51 y52 y53 y54 y55 y56 y57 y58 y59 y60 y61 y62 y63 y64 y65 y66 y67 y68=>k0 y53 y54 y55 (wL y63) (wL y64) y56 (wL y65) (wL y66) (wL y67) (wL y68))))))
def JO:PS CX aD:=fF JN (FN 36 [.agg [AI,AI,AI,.dz tJ [],.dz tC [],AI,.dz tS [],.dz tW [],.dz tW [],.dz tB []]] 10 10 mV [.agg [RI,RI,RI,.own (KR 0 3) tJ [.F,.O m3,.F,.O [.F]] [],.own (KR 0 4) tC m2 [],RI,.own (KR 0 6) tS [.F,.O [.F,.F,.O m3],.F,.O m2,.O [.F,.F,.O m3]] [],.own (KR 0 7) tW [.F,.F,.F,.O m3,.F] [],.own (KR 0 8) tW [.F,.F,.F,.O m3,.F] [],.own (KR 0 9) tB [.F,.O m3] []]]) Tryz.f36 ⟨36,1,53,4⟩ [L1 [0,1,0,1,1,1] ⟨[(2,EP 0),(3,EP 1),(34,.one (LD tB)),(35,.one (LI)),(36,.one (LI))],[((KI 0),.box [LI,LI,LI,LA (KI 3) tJ,LA (KI 4) tC,LI,LA (KI 5) tS,LA (KI 6) tW,LA (KI 7) tW,LA (KI 8) tB]),((KI 1),.box [LI,LI,LI,LA (KI 9) tJ,LA (KI 10) tC,LI,LA (KI 11) tS,LA (KI 12) tW,LA (KI 13) tW,LA (KI 14) tB]),([4000000],.gone),((KI 3),.row tJ [.F,.O m3,.F,.O [.F]] []),((KI 4),.row tC m2 []),((KI 5),.row tS [.F,.O [.F,.F,.O m3],.F,.O m2,.O [.F,.F,.O m3]] []),((KI 6),.row tW [.F,.F,.F,.O m3,.F] []),((KI 7),.row tW [.F,.F,.F,.O m3,.F] []),((KI 8),.row tB [.F,.O m3] []),((KI 9),.row tJ [.F,.O m3,.F,.O [.F]] []),((KI 10),.row tC m2 []),((KI 11),.row tS [.F,.O [.F,.F,.O m3],.F,.O m2,.O [.F,.F,.O m3]] []),((KI 12),.row tW [.F,.F,.F,.O m3,.F] []),((KI 13),.row tW [.F,.F,.F,.O m3,.F] []),((KI 14),.row tB [.F,.O m3] [])]⟩ 25 22 gY (.exit 2) ⟨[(2,EP 0),(3,EP 1)],[((KI 0),.box [LI,LI,LI,LA (KI 2) tJ,LA (KI 3) tC,LI,LA (KI 4) tS,LA (KI 5) tW,LA (KI 6) tW,LA (KI 7) tB]),((KI 1),.box [LI,LI,LI,LA (KI 8) tJ,LA (KI 9) tC,LI,LA (KI 10) tS,LA (KI 11) tW,LA (KI 12) tW,LA (KI 13) tB]),((KI 2),.row tJ [.F,.O m3,.F,.O [.F]] []),((KI 3),.row tC m2 []),((KI 4),.row tS [.F,.O [.F,.F,.O m3],.F,.O m2,.O [.F,.F,.O m3]] []),((KI 5),.row tW [.F,.F,.F,.O m3,.F] []),((KI 6),.row tW [.F,.F,.F,.O m3,.F] []),((KI 7),.row tB [.F,.O m3] []),((KI 8),.row tJ [.F,.O m3,.F,.O [.F]] []),((KI 9),.row tC m2 []),((KI 10),.row tS [.F,.O [.F,.F,.O m3],.F,.O m2,.O [.F,.F,.O m3]] []),((KI 11),.row tW [.F,.F,.F,.O m3,.F] []),((KI 12),.row tW [.F,.F,.F,.O m3,.F] []),((KI 13),.row tB [.F,.O m3] [])]⟩,L1 [0,1,0,1,1] ⟨[(1,EP 0),(2,EP 1),(3,EP 2),(19,.one (LD tS)),(20,.one (LI)),(21,.one (LI))],[((KI 0),.box [LI,LI,LI,LD tJ,LD tC,LI,LD tS,LD tW,LD tW,LD tB]),((KI 1),.box [LI,LI,LI,LA (KI 4) tJ,LA (KI 5) tC,LI,LA (KI 6) tS,LA (KI 7) tW,LA (KI 8) tW,LA (KI 9) tB]),((KI 2),.box [LI,LI,LI,LA (KI 10) tJ,LA (KI 11) tC,LI,LA (KI 12) tS,LA (KI 13) tW,LA (KI 14) tW,LA (KI 15) tB]),([4000000],.gone),((KI 4),.row tJ [.F,.O m3,.F,.O [.F]] []),((KI 5),.row tC m2 []),((KI 6),.row tS [.F,.O [.F,.F,.O m3],.F,.O m2,.O [.F,.F,.O m3]] []),((KI 7),.row tW [.F,.F,.F,.O m3,.F] []),((KI 8),.row tW [.F,.F,.F,.O m3,.F] []),((KI 9),.row tB [.F,.O m3] []),((KI 10),.row tJ [.F,.O m3,.F,.O [.F]] []),((KI 11),.row tC m2 []),((KI 12),.row tS [.F,.O [.F,.F,.O m3],.F,.O m2,.O [.F,.F,.O m3]] []),((KI 13),.row tW [.F,.F,.F,.O m3,.F] []),((KI 14),.row tW [.F,.F,.F,.O m3,.F] []),((KI 15),.row tB [.F,.O m3] [])]⟩ 36 33 gZ (.exit 0) ⟨[(1,EP 0),(2,EP 1),(3,EP 2)],[((KI 0),.box [LI,LI,LI,LD tJ,LD tC,LI,LD tS,LD tW,LD tW,LD tB]),((KI 1),.box [LI,LI,LI,LA (KI 4) tJ,LA (KI 5) tC,LI,LA (KI 6) tS,LA (KI 7) tW,LA (KI 8) tW,LA (KI 9) tB]),((KI 2),.box [LI,LI,LI,LA (KI 10) tJ,LA (KI 11) tC,LI,LA (KI 12) tS,LA (KI 13) tW,LA (KI 14) tW,LA (KI 15) tB]),([4000000],.gone),((KI 4),.row tJ [.F,.O m3,.F,.O [.F]] []),((KI 5),.row tC m2 []),((KI 6),.row tS [.F,.O [.F,.F,.O m3],.F,.O m2,.O [.F,.F,.O m3]] []),((KI 7),.row tW [.F,.F,.F,.O m3,.F] []),((KI 8),.row tW [.F,.F,.F,.O m3,.F] []),((KI 9),.row tB [.F,.O m3] []),((KI 10),.row tJ [.F,.O m3,.F,.O [.F]] []),((KI 11),.row tC m2 []),((KI 12),.row tS [.F,.O [.F,.F,.O m3],.F,.O m2,.O [.F,.F,.O m3]] []),((KI 13),.row tW [.F,.F,.F,.O m3,.F] []),((KI 14),.row tW [.F,.F,.F,.O m3,.F] []),((KI 15),.row tB [.F,.O m3] [])]⟩]
def dK:Nat->T->T->T->(T->An)->An
 | 0,_,_,_,_=>.bad
 | m+1,x0,x1,x2,k0 =>
  cond ((decide (x0.int>=x1.int))==true)
  (k0 (T.b (decide (x0.int<=x2.int))))
  (k0 (T.b false))
def OJ:PS CX aD:=fF JO (FN 33 [.one (AI),.one (AI),.one (AI)] 3 1 dK [.one (RB)]) Tryz.f33 ⟨33,3,15,64⟩
def jK:Nat->T->(T->An)->An
 | 0,_,_=>.bad
 | m+1,x0,k0 =>
  k0 (T.i (IntKind.i64.wrap ((IntKind.i64.wrap ((((bJ x0).drop 1).getD 0 dflt).int * 1000))+(((bJ x0).drop 2).getD 0 dflt).int)))
def Fe:PS CX aD:=fF OJ (FN 121 [.BH [.sc (.int .i64),.sc (.int .i64),.sc (.int .i64),.sl tJ,.sl tC,.sc (.int .i64)] []] 1 1 jK [.one (RI)]) Tryz.f121 ⟨121,1,13,4⟩
def oh:Nat->T->T->T->(T->An)->An
 | 0,_,_,_,_=>.bad
 | m+1,x0,x1,x2,k0 =>
  k0 (T.b (x0.int==((bJ x2).getD 0 dflt).int))
def A9:PS CX aD:=fF Fe (FN 168 [.agg [AI,AB],.BH tI []] 3 1 oh [.one (RB)]) Tryz.f168 ⟨168,2,8,8⟩
def aR (m:Nat):Nat->T->T->T->T->(T->An)->An->An
 | 0,_,_,_,_,_,_=>.bad
 | n+1,x0,x1,x2,x3,k0,k1 =>
  cond (decide (x3.int<x2.int))
  (aX x3 x0
  (oh m (aM x0 x3 0) (aM x0 x3 1) (T.l [(bJ x1)])
  (fun y0=>cond y0.bool
  (k0 x3)
  (aR m n x0 (T.l [(bJ x1)]) x2 (bq x3) k0 k1))))
  (k1 )
def dQ:Nat->T->T->(T->An)->An
 | 0,_,_,_=>.bad
 | m+1,x0,x1,k0 =>
  aR m m (wL x0) (T.l [(bJ x1)]) (T.i (x0.rows.length:Int)) (T.i 0)
  (fun y1=>k0 y1)
  (k0 (T.i (-1)))
def mJ:PS CX aD:=fF A9 (FN 167 [.one (.dz tC []),.fn 168 [.BH tI []]] 2 1 dQ [.one (RI)]) Tryz.f167 ⟨167,2,19,16⟩ [L2 [0,1,0,1] ⟨[(0,.one (LD tC)),(1,.fn 168 [.rp [([4000000],0)] tI []]),(7,.one (LI)),(8,.one (LI))],[([4000000],.gone)]⟩ 4 1 0 aR .ret ⟨[(4,.one (LI))],[]⟩ (.exit 0) ⟨[],[]⟩]
def ig:Nat->T->T->(T->An)->An
 | 0,_,_,_=>.bad
 | m+1,x0,x1,k0 =>
  dQ m (T.l (((bJ x0).drop 4).getD 0 dflt).rows) (T.l [[x1]])
  (fun y0=>k0 y0)
def Du:PS CX aD:=fF mJ (FN 122 [.BH [.sc (.int .i64),.sc (.int .i64),.sc (.int .i64),.sl tJ,.sl tC,.sc (.int .i64)] [],.one (AI)] 2 1 ig [.one (RI)]) Tryz.f122 ⟨122,2,11,16⟩
def sV:Nat->T->(T->An)->An
 | 0,_,_=>.bad
 | m+1,x0,k0 =>
  cond ((decide (x0.int>=97))==true)
  (cond ((decide (x0.int<=122))==false)
  (cond ((decide (x0.int>=48))==true)
  (k0 (T.b (decide (x0.int<=57))))
  (k0 (T.b false)))
  (k0 (T.b true)))
  (cond ((decide (x0.int>=48))==true)
  (k0 (T.b (decide (x0.int<=57))))
  (k0 (T.b false)))
def JQ:PS CX aD:=fF Du (FN 220 [.one (.sc (.int .u8) (.l []))] 1 1 sV [.one (RB)]) Tryz.f220 ⟨220,1,17,4⟩
def kP (m:Nat):Nat->T->T->(T->An)->An->An
 | 0,_,_,_,_=>.bad
 | n+1,x0,x1,k0,k1 =>
  cond (decide (x1.int<(x0.str.size:Int)))
  (cond (decide ((0:Int)<=x1.int/\x1.int<(x0.str.size:Int)))
  (sV m (T.i ((x0.str.data.toList.getD (Int.toNat x1.int) 0).toNat:Int))
  (fun y0=>cond (!y0.bool)
  (k0 (T.b false))
  (kP m n x0 (bq x1) k0 k1)))
  (.bad))
  (k1 )
def Ec:Nat->T->(T->An)->An
 | 0,_,_=>.bad
 | m+1,x0,k0 =>
  kP m m x0 (T.i 0)
  (fun y1=>k0 y1)
  (k0 (T.b true))
def Qt:PS CX aD:=fF JQ (FN 212 [.one (AS)] 1 1 Ec [.one (RB)]) Tryz.f212 ⟨212,1,15,4⟩ [L2 [0,1,0,1] ⟨[(0,.one (LS)),(3,.one (LI))],[]⟩ 2 1 0 kP .ret ⟨[(2,.one (LB))],[]⟩ (.exit 0) ⟨[],[]⟩]
def yF:Nat->T->(T->An)->An
 | 0,_,_=>.bad
 | m+1,x0,k0 =>
  dK m (T.i (x0.str.size:Int)) (T.i 1) (T.i 12)
  (fun y0=>cond (y0.bool==true)
  (Ec m x0
  (fun y1=>k0 (T.b y1.bool)))
  (k0 (T.b false)))
def T9:PS CX aD:=fF Qt (FN 197 [.one (AS)] 1 1 yF [.one (RB)]) Tryz.f197 ⟨197,1,10,4⟩
def EN:Nat->T->T->T->(T->An)->An
 | 0,_,_,_,_=>.bad
 | m+1,x0,x1,x2,k0 =>
  jn (fun (j5:T->An) =>
  cond (x0.int==1)
  (j5 (T.b true))
  (j5 (T.b (x0.int==3))))
  (fun y0=>cond y0.bool
  (yF m x1
  (fun y1=>cond (y1.bool==true)
  (k0 (T.b (decide ((x2.str.size:Int)<=20))))
  (k0 (T.b false))))
  (cond (x0.int==2)
  (yF m x1
  (fun y3=>cond (y3.bool==true)
  (k0 (T.b (x2.str.toList==(⟨#[]⟩:ByteArray).toList)))
  (k0 (T.b false))))
  (k0 (T.b false))))
def V7:PS CX aD:=fF T9 (FN 172 [.agg [AI,AS,AS]] 3 1 EN [.one (RB)]) Tryz.f172 ⟨172,1,27,4⟩
def jW (m:Nat):Nat->T->T->T->T->(T->An)->(T->An)->An
 | 0,_,_,_,_,_,_=>.bad
 | n+1,x0,x1,x2,x3,k0,k1 =>
  cond (decide (x3.int<x2.int))
  (aX x3 x1
  (EN m (aM x1 x3 0) (aM x1 x3 1) (aM x1 x3 2)
  (fun y0=>cond ((!y0.bool)==false)
  (cond ((decide (x3.int > 0))==true)
  (cond (decide ((0:Int)<=(IntKind.i64.wrap (x3.int-1))/\(IntKind.i64.wrap (x3.int-1))<(x0.rows.length:Int)))
  (cond ((Op.bytesLess (aM x1 x3 1).str.toList (((x0.rows.getD (Int.toNat (IntKind.i64.wrap (x3.int-1))) []).drop 1).getD 0 dflt).str.toList)||((aM x1 x3 1).str.toList==(((x0.rows.getD (Int.toNat (IntKind.i64.wrap (x3.int-1))) []).drop 1).getD 0 dflt).str.toList))
  (k0 (T.b false))
  (jW m n x0 x1 x2 (bq x3) k0 k1))
  (.bad))
  (jW m n x0 x1 x2 (bq x3) k0 k1))
  (k0 (T.b false)))))
  (k1 x0)
def pE:Nat->T->(T->An)->An
 | 0,_,_=>.bad
 | m+1,x0,k0 =>
  jW m m (wL x0) (wL x0) (T.i (x0.rows.length:Int)) (T.i 0)
  (fun y2=>k0 y2)
  (fun y3=>dK m (T.i (y3.rows.length:Int)) (T.i 1) (T.i 8)
  (fun y4=>k0 y4))
def Ua:PS CX aD:=fF V7 (FN 129 [.one (.dz tO [])] 1 1 pE [.one (RB)]) Tryz.f129 ⟨129,1,34,4⟩ [L2 [0,1,0,1] ⟨[(0,.one (LD tO)),(5,.one (LD tO)),(6,.one (LI)),(7,.one (LI))],[([4000000],.gone)]⟩ 4 1 1 jW .ret ⟨[(2,.one (LB))],[]⟩ (.exit 0) ⟨[(0,.one (LD tO))],[([4000000],.gone)]⟩]
def mW (m:Nat):Nat->T->T->T->(T->An)->An
 | 0,_,_,_,_=>.bad
 | n+1,x0,x1,x2,k0 =>
  cond (decide (x2.int<(x0.str.size:Int)))
  (cond (decide ((0:Int)<=x2.int/\x2.int<(x0.str.size:Int)))
  (mW m n x0 (T.i (IntKind.u32.wrap ((jO .u32 (BitVec.ofInt IntKind.u32.bits x1.int ^^^ BitVec.ofInt IntKind.u32.bits (IntKind.u32.wrap ((x0.str.data.toList.getD (Int.toNat x2.int) 0).toNat:Int)))).int * 16777619))) (bq x2) k0)
  (.bad))
  (k0 x1)
def JR:Nat->T->(T->An)->An
 | 0,_,_=>.bad
 | m+1,x0,k0 =>
  mW m m x0 (T.i 2166136261) (T.i 0)
  (fun y0=>k0 (T.i (IntKind.i64.wrap y0.int)))
def V8:PS CX aD:=fF Ua (FN 87 [.one (AS)] 1 1 JR [.one (RI)]) Tryz.f87 ⟨87,1,21,4⟩ [L1 [0,1,0,1,1] ⟨[(0,.one (LS)),(3,.one (⟨.sc,.sc (.int .u32),.l []⟩)),(4,.one (LI))],[]⟩ 3 1 mW (.exit 0) ⟨[(3,.one (⟨.sc,.sc (.int .u32),.l []⟩))],[]⟩]
def sW:Nat->T->T->(T->An)->An
 | 0,_,_,_=>.bad
 | m+1,x0,x1,k0 =>
  cond (decide (x1.int<1))
  (k0 (T.i 0))
  (JR m x0
  (fun y0=>cond (!decide (x1.int=0))
  (k0 (T.i (Int.tmod y0.int x1.int)))
  (.bad)))
def OL:PS CX aD:=fF V8 (FN 39 [.one (AS),.one (AI)] 2 1 sW [.one (RI)]) Tryz.f39 ⟨39,2,11,16⟩
def nJ:Nat->T->(T->An)->An
 | 0,_,_=>.bad
 | m+1,x0,k0 =>
  cond (decide ((0:Int)<=(x0.rows.length:Int)/\(x0.rows.length:Int)<=(x0.rows.length:Int)/\(x0.rows.length:Int)<=(x0.rows.length:Int)))
  (cond (decide ((0:Int)<=0/\0<=(x0.rows.length:Int)))
  (k0 (T.l (x0.rows.take (Int.toNat (x0.rows.length:Int)))))
  (.bad))
  (.bad)
def Ap:PS CX aD:=fF OL (FN 41 [.one (.fz tI [])] 1 1 nJ [.one (.fz tI [])]) Tryz.f41 ⟨41,1,9,4⟩
def iY (m:Nat):Nat->T->T->T->T->T->(T->An)->An
 | 0,_,_,_,_,_,_=>.bad
 | n+1,x0,x1,x2,x3,x4,k0 =>
  cond (decide (x3.int<x2.int))
  (aX x3 x1
  (sW m (aM x1 x3 1) x0
  (fun y0=>cond (decide ((x4.rows.length+1) * 1<=au))
  (iY m n x0 x1 x2 (bq x3) (T.l (x4.rows++[[y0]])) k0)
  (.bad))))
  (k0 (wL x4))
def mE:Nat->T->T->(T->An)->An
 | 0,_,_,_=>.bad
 | m+1,x0,x1,k0 =>
  iY m m x1 (wL x0) (T.i (x0.rows.length:Int)) (T.i 0) (T.l [])
  (fun y1=>rZ m (wL y1)
  (fun y2=>slices_Compact m (wL y2)
  (fun y3=>nJ m (wL y3)
  (fun y4=>k0 (wL y4)))))
def LW:PS CX aD:=fF Ap (FN 12 [.one (.dz tO []),.one (AI)] 2 1 mE [.one (.fz tI [])]) Tryz.f12 ⟨12,2,27,16⟩ [L1 [0,1,0,1,1] ⟨[(1,.one (LI)),(5,.one (LA (KI 0) tI)),(8,.one (LD tO)),(9,.one (LI)),(10,.one (LI))],[((KI 0),.row tI [.F] []),([4000000],.gone)]⟩ 5 1 iY (.exit 0) ⟨[(5,.one (LA (KI 0) tI))],[((KI 0),.row tI [.F] [])]⟩]
def dA (m:Nat):Nat->T->T->T->T->(T->An)->An->An
 | 0,_,_,_,_,_,_=>.bad
 | n+1,x0,x1,x2,x3,k0,k1 =>
  cond (decide (x3.int<x2.int))
  (aX x3 x0
  (cond (x1.int==(aM x0 x3 0).int)
  (k0 x3)
  (dA m n x0 x1 x2 (bq x3) k0 k1)))
  (k1 )
def mX:Nat->T->T->(T->An)->An
 | 0,_,_,_=>.bad
 | m+1,x0,x1,k0 =>
  dA m m (wL x0) x1 (T.i (x0.rows.length:Int)) (T.i 0)
  (fun y0=>k0 y0)
  (k0 (T.i (-1)))
def yX:PS CX aD:=fF LW (FN 173 [.one (.dz tI []),.one (AI)] 2 1 mX [.one (RI)]) Tryz.f173 ⟨173,2,19,16⟩ [L2 [0,1,0,1] ⟨[(0,.one (LD tI)),(1,.one (LI)),(7,.one (LI)),(8,.one (LI))],[([4000000],.gone)]⟩ 4 1 0 dA .ret ⟨[(4,.one (LI))],[]⟩ (.exit 0) ⟨[],[]⟩]
def dL:Nat->T->T->(T->An)->An
 | 0,_,_,_=>.bad
 | m+1,x0,x1,k0 =>
  mX m (wL x0) x1
  (fun y0=>k0 (T.b (decide (y0.int>=0))))
def wo:PS CX aD:=fF yX (FN 136 [.one (.dz tI []),.one (AI)] 2 1 dL [.one (RB)]) Tryz.f136 ⟨136,2,9,16⟩
def fT (m:Nat):Nat->T->T->T->T->T->T->T->T->T->T->(T->An)->(T->T->T->T->T->T->An)->An
 | 0,_,_,_,_,_,_,_,_,_,_,_,_=>.bad
 | n+1,x0,x1,x2,x3,x4,x5,x6,x7,x8,x9,k0,k1 =>
  cond (decide (x5.int<x4.int))
  ((fun (j10:T->An) =>
  aX x5 x3
  (dL m (wL x2) (aM x3 x5 0)
  (fun y6=>cond ((!y6.bool)==false)
  (cond ((decide (x5.int > 0))==true)
  (cond (decide ((0:Int)<=(IntKind.i64.wrap (x5.int-1))/\(IntKind.i64.wrap (x5.int-1))<(x9.rows.length:Int)))
  (cond (decide ((aM x3 x5 0).int<=((x9.rows.getD (Int.toNat (IntKind.i64.wrap (x5.int-1))) []).getD 0 dflt).int))
  (k0 (T.b false))
  (j10 (T.l [(bJ x0)])))
  (.bad))
  (j10 (T.l [(bJ x0)])))
  (k0 (T.b false)))))
  (fun y9=>fT m n (T.l [(bJ y9)]) (T.i (x1.int.toNat:Int)) x2 x3 x4 (bq x5) x6 x7 x8 x9 k0 k1))
  (k1 (T.l [(bJ x0)]) (T.i (x1.int.toNat:Int)) x6 x7 x8 x9)
def qb:Nat->T->T->T->T->T->(T->An)->An
 | 0,_,_,_,_,_,_=>.bad
 | m+1,x0,x1,x2,x3,x4,k0 =>
  jn (fun (j21:T->An) =>
  jK m (T.l [((bJ x0).take 6)])
  (fun y0=>dK m x1 (T.i (IntKind.i64.wrap ((((bJ x0).drop 1).getD 0 dflt).int * 1000))) (T.i (IntKind.i64.wrap (y0.int-1)))
  (fun y1=>cond ((!y1.bool)==false)
  (pE m (wL x2)
  (fun y2=>cond (!y2.bool)
  (k0 (T.b false))
  (j21 (T.l [(bJ x0)]))))
  (k0 (T.b false)))))
  (fun y4=>mE m (wL x2) ((bJ y4).getD 0 dflt)
  (fun y5=>fT m m (T.l [(bJ y4)]) (T.i 0) (wL y5) (wL x4) (T.i (x4.rows.length:Int)) (T.i 0) x1 (wL x2) x3 (wL x4)
  (fun nT=>k0 nT)
  (fun nY y13 o8 sw wH vS=>ig m (T.l [((bJ nY).take 6)]) o8
  (fun uS=>cond (wH.int==1)
  (k0 (T.b (decide (uS.int<0))))
  (cond (wH.int==2)
  (cond ((decide (uS.int>=0))==true)
  (aX uS (((bJ nY).drop 4).getD 0 dflt)
  (k0 (T.b ((((((bJ nY).drop 4).getD 0 dflt).rows.getD (Int.toNat uS.int) []).drop 1).getD 0 dflt).bool)))
  (k0 (T.b false)))
  (cond (wH.int==3)
  (cond ((decide (uS.int>=0))==true)
  (aX uS (((bJ nY).drop 4).getD 0 dflt)
  (k0 (T.b (!((((((bJ nY).drop 4).getD 0 dflt).rows.getD (Int.toNat uS.int) []).drop 1).getD 0 dflt).bool))))
  (k0 (T.b false)))
  (k0 (T.b false))))))))
def Gi:PS CX aD:=fF wo (FN 123 [.BH [.sc (.int .i64),.sc (.int .i64),.sc (.int .i64),.sl tJ,.sl tC,.sc (.int .i64)] [],.agg [AI,.dz tO [],AI,.dz tI []]] 5 1 qb [.one (RB)]) Tryz.f123 ⟨123,2,100,16⟩ [L2 [0,1,0,1,1,1] ⟨[(0,.rp [([4000000],0)] [.sc (.int .i64),.sc (.int .i64),.sc (.int .i64),.sl tJ,.sl tC,.sc (.int .i64)] []),(3,EP 1),(5,.one (LZ tI)),(35,.one (LD tI)),(36,.one (LI)),(37,.one (LI))],[([4000000],.gone),((KI 1),.box [LI,LD tO,LI,LD tI])]⟩ 10 1 6 fT .ret ⟨[(4,.one (LB))],[]⟩ (.exit 0) ⟨[(0,.rp [([4000000],0)] [.sc (.int .i64),.sc (.int .i64),.sc (.int .i64),.sl tJ,.sl tC,.sc (.int .i64)] []),(3,EP 1)],[([4000000],.gone),((KI 1),.box [LI,LD tO,LI,LD tI])]⟩]
def gQ (m:Nat):Nat->T->T->T->T->T->T->T->T->T->T->(T->An)->An->An
 | 0,_,_,_,_,_,_,_,_,_,_,_,_=>.bad
 | n+1,x0,x1,x2,x3,x4,x5,x6,x7,x8,x9,k0,k1 =>
  cond (decide (x3.int<x2.int))
  (aX x3 x1
  (qb m (T.l [[x4,x5,x6,(wL x7),(wL x8),x9]]) (aM x1 x3 0) (wL (aM x1 x3 1)) (aM x1 x3 2) (wL (aM x1 x3 3))
  (fun vS=>cond ((!vS.bool)==false)
  (cond ((decide (x3.int > 0))==true)
  (cond (decide ((0:Int)<=(IntKind.i64.wrap (x3.int-1))/\(IntKind.i64.wrap (x3.int-1))<(x7.rows.length:Int)))
  (cond (decide ((aM x1 x3 0).int<=((x7.rows.getD (Int.toNat (IntKind.i64.wrap (x3.int-1))) []).getD 0 dflt).int))
  (k0 (T.b false))
  (gQ m n (T.i (x0.int.toNat:Int)) x1 x2 (bq x3) x4 x5 x6 x7 x8 x9 k0 k1))
  (.bad))
  (gQ m n (T.i (x0.int.toNat:Int)) x1 x2 (bq x3) x4 x5 x6 x7 x8 x9 k0 k1))
  (k0 (T.b false)))))
  (k1 )
def jL (m:Nat):Nat->T->T->T->T->T->T->T->T->T->T->(T->An)->(T->T->T->T->T->T->T->An)->An
 | 0,_,_,_,_,_,_,_,_,_,_,_,_=>.bad
 | n+1,x0,x1,x2,x3,x4,x5,x6,x7,x8,x9,k0,k1 =>
  cond (decide (x3.int<x2.int))
  (aX x3 x1
  (jK m (T.l [[x4,x5,x6,(wL x7),(wL x8),x9]])
  (fun y5=>dK m (aM x1 x3 0) (T.i 1000) (T.i (IntKind.i64.wrap (y5.int-1)))
  (fun y6=>cond ((!y6.bool)==false)
  (ig m (T.l [[x4,x5,x6,(wL x7),(wL x8),x9]]) (aM x1 x3 0)
  (fun y7=>cond (y7.int != x3.int)
  (k0 (T.b false))
  (jL m n (T.i (x0.int.toNat:Int)) x1 x2 (bq x3) x4 x5 x6 x7 x8 x9 k0 k1)))
  (k0 (T.b false))))))
  (k1 (T.i (x0.int.toNat:Int)) x4 x5 x6 x7 x8 x9)
def wZ:Nat->T->T->T->T->T->T->(T->An)->An
 | 0,_,_,_,_,_,_,_=>.bad
 | m+1,x0,x1,x2,x3,x4,x5,k0 =>
  jn (fun (j20:An) =>
  dK m x0 (T.i 1) (T.i 8)
  (fun y0=>cond ((!y0.bool)==false)
  (dK m x1 (T.i 1) (T.i 900)
  (fun y1=>cond ((!y1.bool)==false)
  (dK m x2 (T.i 0) (T.i 999)
  (fun y2=>cond ((!y2.bool)==false)
  (cond ((decide ((x4.rows.length:Int) > 1000))==false)
  (dK m x5 (T.i 0) (T.i (x4.rows.length:Int))
  (fun y3=>cond (!y3.bool)
  (k0 (T.b false))
  (j20)))
  (k0 (T.b false)))
  (k0 (T.b false))))
  (k0 (T.b false))))
  (k0 (T.b false))))
  (jL m m (T.i 0) (wL x4) (T.i (x4.rows.length:Int)) (T.i 0) x0 x1 x2 (wL x3) (wL x4) x5
  (fun y9=>k0 y9)
  (fun nO nT nY y13 o8 sw wH=>gQ m m (T.i (nO.int.toNat:Int)) o8 (T.i (o8.rows.length:Int)) (T.i 0) nT nY y13 o8 sw wH
  (fun BF=>k0 BF)
  (k0 (T.b true))))
def OM:PS CX aD:=fF Gi (FN 77 [.agg [AI,AI,AI,.dz tJ [],.dz tC [],AI]] 6 1 wZ [.one (RB)]) Tryz.f77 ⟨77,1,88,4⟩ [L2 [0,1,0,1,1,1] ⟨[(1,EP 0),(61,.one (LD tJ)),(62,.one (LI)),(63,.one (LI))],[((KI 0),.box [LI,LI,LI,LD tJ,LD tC,LI]),([4000000],.gone)]⟩ 10 1 0 gQ .ret ⟨[(2,.one (LB))],[]⟩ (.exit 2) ⟨[],[]⟩,L2 [0,1,0,1,1] ⟨[(1,EP 0),(39,.one (LD tC)),(40,.one (LI)),(41,.one (LI))],[((KI 0),.box [LI,LI,LI,LD tJ,LD tC,LI]),([4000000],.gone)]⟩ 10 1 7 jL .ret ⟨[(2,.one (LB))],[]⟩ (.exit 0) ⟨[(1,EP 0)],[((KI 0),.box [LI,LI,LI,LD tJ,LD tC,LI]),([4000000],.gone)]⟩]
def uG:Nat->T->(T->An)->An
 | 0,_,_=>.bad
 | m+1,x0,k0 =>
  dK m x0 (T.i 0) (T.i 7)
  (fun y0=>k0 y0)
def V9:PS CX aD:=fF OM (FN 72 [.one (AI)] 1 1 uG [.one (RB)]) Tryz.f72 ⟨72,1,5,4⟩
def kQ:Nat->T->(T->An)->An
 | 0,_,_=>.bad
 | m+1,x0,k0 =>
  dK m x0 (T.i 1) (T.i 1000000)
  (fun y0=>k0 y0)
def Wd:PS CX aD:=fF V9 (FN 171 [.one (AI)] 1 1 kQ [.one (RB)]) Tryz.f171 ⟨171,1,5,4⟩
def CP:Nat->T->T->T->(T->An)->An
 | 0,_,_,_,_=>.bad
 | m+1,x0,x1,x2,k0 =>
  cond (x0.int==1)
  (kQ m x1
  (fun y0=>cond (y0.bool==true)
  (pE m (wL x2)
  (fun y1=>k0 (T.b y1.bool)))
  (k0 (T.b false))))
  (cond (x0.int==2)
  (kQ m x1
  (fun y6=>cond (y6.bool==true)
  (k0 (T.b ((x2.rows.length:Int)==0)))
  (k0 (T.b false))))
  (cond (x0.int==3)
  (kQ m x1
  (fun y8=>cond (y8.bool==true)
  (k0 (T.b ((x2.rows.length:Int)==0)))
  (k0 (T.b false))))
  (k0 (T.b false))))
def Ub:PS CX aD:=fF Wd (FN 169 [.agg [AI,AI,.dz tO []]] 3 1 CP [.one (RB)]) Tryz.f169 ⟨169,1,27,4⟩
def lU (m:Nat):Nat->T->T->T->(T->An)->An->An
 | 0,_,_,_,_,_=>.bad
 | n+1,x0,x1,x2,k0,k1 =>
  cond (decide (x2.int>=0))
  (aX x2 x0
  (cond ((qE x0 x2 1).int==x1.int)
  (k0 x2)
  (lU m n x0 x1 (T.i (IntKind.i64.wrap (x2.int-1))) k0 k1)))
  (k1 )
def nK:Nat->T->T->(T->An)->An
 | 0,_,_,_=>.bad
 | m+1,x0,x1,k0 =>
  lU m m (wL x0) x1 (T.i (IntKind.i64.wrap ((x0.rows.length:Int)-1)))
  (fun y0=>k0 y0)
  (k0 (T.i (-1)))
def Uc:PS CX aD:=fF Ub (FN 182 [.one (.dz tR []),.one (AI)] 2 1 nK [.one (RI)]) Tryz.f182 ⟨182,2,21,16⟩ [L2 [0,1,0,1] ⟨[(0,.one (LD tR)),(1,.one (LI)),(5,.one (LI))],[([4000000],.gone)]⟩ 3 1 0 lU .ret ⟨[(4,.one (LI))],[]⟩ (.exit 0) ⟨[],[]⟩]
def iq (m:Nat):Nat->T->T->T->T->T->T->T->T->T->T->T->T->T->T->(T->An)->(T->T->T->T->T->T->T->An)->An
 | 0,_,_,_,_,_,_,_,_,_,_,_,_,_,_,_,_=>.bad
 | n+1,x0,x1,x2,x3,x4,x5,x6,x7,x8,x9,x10,bW,gH,mh,k0,k1 =>
  cond (decide (x10.int<x9.int))
  (aX x10 x8
  (cond ((aM x8 x10 1).str.toList==gH.str.toList)
  (k0 (T.b true))
  (iq m n x0 (T.i (x1.int.toNat:Int)) x2 x3 x4 x5 x6 x7 x8 x9 (bq x10) bW gH mh k0 k1)))
  (k1 x0 x2 x3 x4 x5 x6 x7)
def iw (m:Nat):Nat->T->T->T->T->T->T->T->(T->An)->(T->T->T->T->An)->An
 | 0,_,_,_,_,_,_,_,_,_=>.bad
 | n+1,x0,x1,x2,x3,x4,x5,x6,k0,k1 =>
  cond (decide (x6.int<x5.int))
  (aX x6 x4
  (iq m n x0 (T.i 0) x1 x2 x3 x4 x5 x6 x0 (T.i (x0.rows.length:Int)) (T.i 0) (aM x4 x6 0) (aM x4 x6 1) (aM x4 x6 2)
  (fun y0=>k0 y0)
  (fun y1 y2 y3 y4 y5 y6 y7=>iw m n y1 y2 y3 y4 y5 y6 (bq y7) k0 k1)))
  (k1 x0 x1 x2 x3)
def iy (m:Nat):Nat->T->T->T->T->(T->An)->An->An
 | 0,_,_,_,_,_,_=>.bad
 | n+1,x0,x1,x2,x3,k0,k1 =>
  cond (decide (x3.int<x2.int))
  (aX x3 x1
  (iw m n x0 x1 x2 x3 (aM x1 x3 2) (T.i ((aM x1 x3 2).rows.length:Int)) (T.i 0)
  (fun y8=>k0 y8)
  (fun y9 nO nT nY=>iy m n y9 nO nT (bq nY) k0 k1)))
  (k1 )
def pF:Nat->T->T->(T->An)->An
 | 0,_,_,_=>.bad
 | m+1,x0,x1,k0 =>
  iy m m (wL x1) (wL x0) (T.i (x0.rows.length:Int)) (T.i 0)
  (fun y13=>k0 y13)
  (k0 (T.b false))
def JU:PS CX aD:=fF Uc (FN 196 [.one (.dz tR []),.one (.dz tO [])] 2 1 pF [.one (RB)]) Tryz.f196 ⟨196,2,38,16⟩ [L2 [0,1,1,0,0,1,1,0,0,1,1,0,0,1,1,0,0,1,0,1] ⟨[(1,.one (LD tO)),(8,EP 1),(11,.one (LD tR)),(12,.one (LI)),(13,.one (LI)),(18,.one (LD tO)),(19,.one (LI)),(20,.one (LI)),(24,.one (LD tO)),(25,.one (LI)),(26,.one (LI))],[([4000000],.gone),((KI 1),.box [LI,LS,LS])]⟩ 14 1 7 iq .ret ⟨[(4,.one (LB))],[]⟩ (.exit 4) ⟨[(1,.one (LD tO)),(11,.one (LD tR)),(12,.one (LI)),(13,.one (LI)),(18,.one (LD tO)),(19,.one (LI)),(20,.one (LI))],[([4000000],.gone)]⟩,L2 [0,1,1,0,0,1,1,0,0,1,0,1] ⟨[(1,.one (LD tO)),(11,.one (LD tR)),(12,.one (LI)),(13,.one (LI)),(18,.one (LD tO)),(19,.one (LI)),(20,.one (LI))],[([4000000],.gone)]⟩ 7 1 4 iw .ret ⟨[(4,.one (LB))],[]⟩ (.exit 2) ⟨[(1,.one (LD tO)),(11,.one (LD tR)),(12,.one (LI)),(13,.one (LI))],[([4000000],.gone)]⟩,L2 [0,1,0,1] ⟨[(1,.one (LD tO)),(11,.one (LD tR)),(12,.one (LI)),(13,.one (LI))],[([4000000],.gone)]⟩ 4 1 0 iy .ret ⟨[(4,.one (LB))],[]⟩ (.exit 0) ⟨[],[]⟩]
def Aq:Nat->T->T->T->(T->An)->An
 | 0,_,_,_,_=>.bad
 | m+1,x0,x1,x2,k0 =>
  k0 (T.b (x0.str.toList==((bJ x2).getD 0 dflt).str.toList))
def LX:PS CX aD:=fF JU (FN 150 [.agg [AS,AS],.BH tT []] 3 1 Aq [.one (RB)]) Tryz.f150 ⟨150,2,8,8⟩
def aZ (m:Nat):Nat->T->T->T->T->(T->An)->An->An
 | 0,_,_,_,_,_,_=>.bad
 | n+1,x0,x1,x2,x3,k0,k1 =>
  cond (decide (x3.int<x2.int))
  (aX x3 x0
  (Aq m (aM x0 x3 0) (aM x0 x3 1) (T.l [(bJ x1)])
  (fun y0=>cond y0.bool
  (k0 x3)
  (aZ m n x0 (T.l [(bJ x1)]) x2 (bq x3) k0 k1))))
  (k1 )
def eB:Nat->T->T->(T->An)->An
 | 0,_,_,_=>.bad
 | m+1,x0,x1,k0 =>
  aZ m m (wL x0) (T.l [(bJ x1)]) (T.i (x0.rows.length:Int)) (T.i 0)
  (fun y1=>k0 y1)
  (k0 (T.i (-1)))
def nU:PS CX aD:=fF LX (FN 149 [.one (.dz tP []),.fn 150 [.BH tT []]] 2 1 eB [.one (RI)]) Tryz.f149 ⟨149,2,19,16⟩ [L2 [0,1,0,1] ⟨[(0,.one (LD tP)),(1,.fn 150 [.rp [([4000000],0)] tT []]),(7,.one (LI)),(8,.one (LI))],[([4000000],.gone)]⟩ 4 1 0 aZ .ret ⟨[(4,.one (LI))],[]⟩ (.exit 0) ⟨[],[]⟩]
def vN:Nat->T->T->(T->An)->An
 | 0,_,_,_=>.bad
 | m+1,x0,x1,k0 =>
  eB m (wL x0) (T.l [[x1]])
  (fun y0=>k0 y0)
def Qu:PS CX aD:=fF nU (FN 91 [.one (.dz tP []),.one (AS)] 2 1 vN [.one (RI)]) Tryz.f91 ⟨91,2,8,16⟩
def zN:Nat->T->T->(T->T->An)->An
 | 0,_,_,_=>.bad
 | m+1,x0,x1,k0 =>
  vN m (wL x0) x1
  (fun y0=>cond (decide (y0.int<0))
  (k0 (T.s (⟨#[]⟩:ByteArray)) (T.b false))
  (aX y0 x0
  (k0 (qE x0 y0 1) (T.b true))))
def Qv:PS CX aD:=fF Qu (FN 46 [.one (.dz tP []),.one (AS)] 2 2 zN [.one (RS),.one (RB)]) Tryz.f46 ⟨46,2,17,48⟩
def jX (m:Nat):Nat->T->T->T->T->(T->An)->An->An
 | 0,_,_,_,_,_,_=>.bad
 | n+1,x0,x1,x2,x3,k0,k1 =>
  cond (decide (x3.int<x2.int))
  (aX x3 x1
  (cond ((aM x1 x3 0).int != 3)
  (jX m n x0 x1 x2 (bq x3) k0 k1)
  (zN m (wL x0) (aM x1 x3 1)
  (fun y0 y1=>cond ((!(y1.bool==(!((aM x1 x3 2).str.toList==(⟨#[]⟩:ByteArray).toList))))==false)
  (cond (!(y0.str.toList==(aM x1 x3 2).str.toList))
  (k0 (T.b false))
  (jX m n x0 x1 x2 (bq x3) k0 k1))
  (k0 (T.b false))))))
  (k1 )
def yG:Nat->T->T->(T->An)->An
 | 0,_,_,_=>.bad
 | m+1,x0,x1,k0 =>
  jX m m (wL x0) (wL x1) (T.i (x1.rows.length:Int)) (T.i 0)
  (fun y3=>k0 y3)
  (k0 (T.b true))
def Ud:PS CX aD:=fF Qv (FN 16 [.one (.dz tP []),.one (.dz tO [])] 2 1 yG [.one (RB)]) Tryz.f16 ⟨16,2,37,16⟩ [L2 [0,1,0,1] ⟨[(0,.one (LD tP)),(9,.one (LD tO)),(10,.one (LI)),(11,.one (LI))],[([4000000],.gone)]⟩ 4 1 0 jX .ret ⟨[(4,.one (LB))],[]⟩ (.exit 0) ⟨[],[]⟩]
def kR (m:Nat):Nat->T->T->T->T->(T->T->T->T->An)->An
 | 0,_,_,_,_,_=>.bad
 | n+1,x0,x1,x2,x3,k0 =>
  cond ((decide (x2.int<(x3.rows.length:Int)))==true)
  (aX x2 x3
  (cond (decide ((Int.toNat x2.int)<x3.rows.length))
  (cond ((Op.bytesLess (aM x3 x2 0).str.toList x0.str.toList)||((aM x3 x2 0).str.toList==x0.str.toList))
  (kR m n x0 x1 (bq x2) (wL x3) k0)
  (k0 x0 x1 x2 (wL x3)))
  (.bad)))
  (k0 x0 x1 x2 (wL x3))
def zO:Nat->T->T->T->(T->An)->An
 | 0,_,_,_,_=>.bad
 | m+1,x0,x1,x2,k0 =>
  vN m (wL x0) x1
  (fun y0=>cond (decide (y0.int>=0))
  (aX y0 x0
  (cond (decide ((Int.toNat y0.int)<x0.rows.length))
  (k0 (T.l (x0.rows.set (Int.toNat y0.int) ((x0.rows.getD (Int.toNat y0.int) []).set 1 x2))))
  (.bad)))
  (kR m m x1 x2 (T.i 0) (wL x0)
  (fun y2 y3 y4 y5=>fJ m (wL y5) y4 (T.l [[y2,y3]])
  (fun y6=>k0 (wL y6)))))
def Qw:PS CX aD:=fF Ud (FN 48 [.one (.own tP m2 []),.one (AS),.one (AS)] 3 1 zO [.one (.own (KR 0 0) tP m2 [])]) Tryz.f48 ⟨48,3,42,65⟩ [L1 [0,0,1,1,1] ⟨[(0,.one (LA [0,0] tP)),(1,.one (LS)),(2,.one (LS)),(8,.one (LI))],[([0,0],.row tP m2 [])]⟩ 4 4 kR (.exit 0) ⟨[(0,.one (LA [0,0] tP)),(1,.one (LS)),(2,.one (LS)),(8,.one (LI))],[([0,0],.row tP m2 [])]⟩]
def iF (m:Nat):Nat->T->T->T->T->(T->An)->An
 | 0,_,_,_,_,_=>.bad
 | n+1,x0,x1,x2,x3,k0 =>
  cond (decide (x2.int<x1.int))
  (aX x2 x0
  (cond ((aM x0 x2 0).int==1)
  (zO m (wL x3) (aM x0 x2 1) (aM x0 x2 2)
  (fun y1=>iF m n x0 x1 (bq x2) (wL y1) k0))
  (cond ((aM x0 x2 0).int==2)
  (zB m (wL x3) (aM x0 x2 1)
  (fun y2=>iF m n x0 x1 (bq x2) (wL y2) k0))
  (iF m n x0 x1 (bq x2) (wL x3) k0))))
  (k0 (wL x3))
def uH:Nat->T->T->(T->An)->An
 | 0,_,_,_=>.bad
 | m+1,x0,x1,k0 =>
  bH m (wL x0)
  (fun y0=>iF m m (wL x1) (T.i (x1.rows.length:Int)) (T.i 0) (wL y0)
  (fun y6=>k0 (wL y6)))
def Ue:PS CX aD:=fF Qw (FN 17 [.one (.dz tP []),.one (.dz tO [])] 2 1 uH [.one (.own (KR 0 0) tP m2 [])]) Tryz.f17 ⟨17,2,34,16⟩ [L1 [0,1,0,1,1] ⟨[(5,.one (LA (KI 0) tP)),(10,.one (LD tO)),(11,.one (LI)),(12,.one (LI))],[((KI 0),.row tP m2 []),([4000000],.gone)]⟩ 4 1 iF (.exit 0) ⟨[(5,.one (LA (KI 0) tP))],[((KI 0),.row tP m2 [])]⟩]
def qO:Nat->T->T->T->T->T->T->(T->T->T->An)->(T->T->T->T->An)->An
 | 0,_,_,_,_,_,_,_,_=>.bad
 | m+1,x0,x1,x2,x3,x4,x5,k0,k1 =>
  nK m (wL x5) x3
  (fun y0=>cond (x2.int==1)
  ((fun (j5:An) =>
  cond ((decide (y0.int>=0))==false)
  (pF m (wL x1) (wL x4)
  (fun y1=>cond (y1.bool==false)
  (yG m (wL x0) (wL x4)
  (fun y2=>cond (!y2.bool)
  (k0 (T.b false) (wL x0) (wL x1))
  (j5)))
  (k0 (T.b false) (wL x0) (wL x1))))
  (k0 (T.b false) (wL x0) (wL x1)))
  (aQ m (wL x4)
  (fun y4=>cond (decide ((x1.rows.length+1) * 3<=au))
  (k0 (T.b true) (wL x0) (T.l (x1.rows++[[(T.i 1),x3,(wL y4)]])))
  (.bad))))
  (nK m (wL x1) x3
  (fun y6=>cond (decide (y6.int<0))
  (cond ((x2.int==3)==true)
  (k0 (T.b (!(decide (y0.int>=0)))) (wL x0) (wL x1))
  (k0 (T.b false) (wL x0) (wL x1)))
  (cond (x2.int==2)
  (aX y6 x1
  (cond (decide ((Int.toNat y6.int)<x1.rows.length))
  (uH m (wL x0) (wL (aM x1 y6 2))
  (fun y8=>aU m (wL x1) y6 (bq y6)
  (fun y9=>k1 (T.b (decide ((y8.rows.length:Int)<=60))) (wL x0) (wL y8) (wL y9))))
  (.bad)))
  (aU m (wL x1) y6 (bq y6)
  (fun nO=>k0 (T.b (decide ((x0.rows.length:Int)<=60))) (wL x0) (wL nO)))))))
def Iz:PS CX aD:=fF Ue (F2 170 [.bx [.own tP m2 [],.own tR m3 []],.agg [AI,AI,.dz tO []],.one (.dz tR [])] 6 3 4 qO ⟨[.one (RB)],[[none,none],[none,none,none],[none]],[some [.own (KR 1000 0) tP m2 [],.own (KR 1000 1) tR m3 []],none,none]⟩ ⟨[.one (RB)],[[some (tP,m2,[]),none],[none,none,none],[none]],[some [.own (KR 1000 0) tP m2 [],.own (KR 1000 1) tR m3 []],none,none]⟩) Tryz.f170 ⟨170,3,104,65⟩
def eZ (m:Nat):Nat->T->T->T->T->T->T->T->(T->T->T->An)->(T->T->T->An)->An
 | 0,_,_,_,_,_,_,_,_,_=>.bad
 | n+1,x0,x1,x2,x3,x4,x5,x6,k0,k1 =>
  cond (decide (x4.int<x3.int))
  ((fun (j15:T->T->An) =>
  aX x4 x2
  (CP m (aM x2 x4 0) (aM x2 x4 1) (wL (aM x2 x4 2))
  (fun y0=>cond ((!y0.bool)==false)
  (cond (decide ((0:Int)<=x4.int/\x4.int<=(x0.rows.length:Int)))
  (cond (decide ((0:Int)<=0/\0<=x4.int))
  (qO m (wL x5) (wL x6) (aM x2 x4 0) (aM x2 x4 1) (wL (aM x2 x4 2)) (T.l (x0.rows.take (Int.toNat x4.int)))
  (fun y1 y2 y3=>cond (!y1.bool)
  (k0 (T.b false) (T.l []) (T.l []))
  (j15 (wL y2) (wL y3)))
  (fun y4 y5 y6 y7=>cond (!y4.bool)
  (k0 (T.b false) (T.l []) (T.l []))
  (j15 (wL y6) (wL y7))))
  (.bad))
  (.bad))
  (k0 (T.b false) (T.l []) (T.l [])))))
  (fun y13 o8=>eZ m n x0 (T.i (x1.int.toNat:Int)) x2 x3 (bq x4) (wL y13) (wL o8) k0 k1))
  (k1 (T.i (x1.int.toNat:Int)) (wL x5) (wL x6))
def qP:Nat->T->(T->T->T->An)->An
 | 0,_,_=>.bad
 | m+1,x0,k0 =>
  eZ m m (wL x0) (T.i 0) (wL x0) (T.i (x0.rows.length:Int)) (T.i 0) (T.l []) (T.l [])
  (fun wH vS uS=>k0 (wL vS) (wL uS) wH)
  (fun BF y20 y21=>k0 (wL y20) (wL y21) (T.b true))
def IB:PS CX aD:=fF Iz (FN 124 [.one (.dz tR [])] 1 3 qP [.one (.own (KR 0 0) tP m2 []),.one (.own (KR 1 0) tR m3 []),.one (RB)]) Tryz.f124 ⟨124,1,31,28⟩ [L2 [0,1,0,1,1] ⟨[(0,.one (LD tR)),(5,EP 1),(8,.one (LD tR)),(9,.one (LI)),(10,.one (LI))],[([4000000],.gone),((KI 1),.box [LA (KI 2) tP,LA (KI 3) tR]),((KI 2),.row tP m2 []),((KI 3),.row tR m3 [])]⟩ 7 3 3 eZ .ret ⟨[(2,.one (LA (KI 0) tP)),(3,.one (LA (KI 1) tR)),(4,.one (LB))],[((KI 0),.row tP m2 []),((KI 1),.row tR m3 [])]⟩ (.exit 0) ⟨[(5,EP 0)],[((KI 0),.box [LA (KI 1) tP,LA (KI 2) tR]),((KI 1),.row tP m2 []),((KI 2),.row tR m3 [])]⟩]
def bG (m:Nat):Nat->T->T->T->T->(T->An)->An->An
 | 0,_,_,_,_,_,_=>.bad
 | n+1,x0,x1,x2,x3,k0,k1 =>
  cond (decide (x3.int<x2.int))
  (aX x3 x0
  (aX x3 x1
  (cond (!(((aM x0 x3 0).str.toList==(aM x1 x3 0).str.toList)&&(((aM x0 x3 1).str.toList==(aM x1 x3 1).str.toList)&&true)))
  (k0 (T.b false))
  (bG m n x0 x1 x2 (bq x3) k0 k1))))
  (k1 )
def dP:Nat->T->T->(T->An)->An
 | 0,_,_,_=>.bad
 | m+1,x0,x1,k0 =>
  cond ((x0.rows.length:Int) != (x1.rows.length:Int))
  (k0 (T.b false))
  (bG m m (wL x0) (wL x1) (T.i (x0.rows.length:Int)) (T.i 0)
  (fun y0=>k0 y0)
  (k0 (T.b true)))
def qc:PS CX aD:=fF IB (FN 125 [.one (.dz tP []),.one (.dz tP [])] 2 1 dP [.one (RB)]) Tryz.f125 ⟨125,2,26,16⟩ [L2 [0,1,0,1,1] ⟨[(0,.one (LD tP)),(1,.one (LD tP)),(12,.one (LI)),(13,.one (LI))],[([4000000],.gone)]⟩ 4 1 0 bG .ret ⟨[(4,.one (LB))],[]⟩ (.exit 0) ⟨[],[]⟩]
def bP (m:Nat):Nat->T->T->T->T->(T->An)->An->An
 | 0,_,_,_,_,_,_=>.bad
 | n+1,x0,x1,x2,x3,k0,k1 =>
  cond (decide (x3.int<x2.int))
  (aX x3 x0
  (aX x3 x1
  (cond (!(((aM x0 x3 0).int==(aM x1 x3 0).int)&&(((aM x0 x3 1).str.toList==(aM x1 x3 1).str.toList)&&(((aM x0 x3 2).str.toList==(aM x1 x3 2).str.toList)&&true))))
  (k0 (T.b false))
  (bP m n x0 x1 x2 (bq x3) k0 k1))))
  (k1 )
def bX:Nat->T->T->(T->An)->An
 | 0,_,_,_=>.bad
 | m+1,x0,x1,k0 =>
  cond ((x0.rows.length:Int) != (x1.rows.length:Int))
  (k0 (T.b false))
  (bP m m (wL x0) (wL x1) (T.i (x0.rows.length:Int)) (T.i 0)
  (fun y0=>k0 y0)
  (k0 (T.b true)))
def su:PS CX aD:=fF qc (FN 97 [.one (.dz tO []),.one (.dz tO [])] 2 1 bX [.one (RB)]) Tryz.f97 ⟨97,2,26,16⟩ [L2 [0,1,0,1,1] ⟨[(0,.one (LD tO)),(1,.one (LD tO)),(12,.one (LI)),(13,.one (LI))],[([4000000],.gone)]⟩ 4 1 0 bP .ret ⟨[(4,.one (LB))],[]⟩ (.exit 0) ⟨[],[]⟩]
def w9:Nat->T->T->T->T->T->T->(T->An)->An
 | 0,_,_,_,_,_,_,_=>.bad
 | m+1,x0,x1,x2,x3,x4,x5,k0 =>
  cond ((x0.int==x3.int)==true)
  (cond ((x1.int==x4.int)==true)
  (bX m (wL x2) (wL x5)
  (fun y0=>k0 (T.b y0.bool)))
  (k0 (T.b false)))
  (k0 (T.b false))
def OO:PS CX aD:=fF su (FN 127 [.agg [AI,AI,.dz tO []],.agg [AI,AI,.dz tO []]] 6 1 w9 [.one (RB)]) Tryz.f127 ⟨127,2,24,16⟩
def aJ (m:Nat):Nat->T->T->T->T->(T->An)->An->An
 | 0,_,_,_,_,_,_=>.bad
 | n+1,x0,x1,x2,x3,k0,k1 =>
  cond (decide (x3.int<x2.int))
  (aX x3 x1
  (aX x3 x0
  (w9 m (aM x1 x3 0) (aM x1 x3 1) (wL (aM x1 x3 2)) (aM x0 x3 0) (aM x0 x3 1) (wL (aM x0 x3 2))
  (fun y0=>cond (!y0.bool)
  (k0 (T.b false))
  (aJ m n x0 x1 x2 (bq x3) k0 k1)))))
  (k1 )
def bE:Nat->T->T->(T->An)->An
 | 0,_,_,_=>.bad
 | m+1,x0,x1,k0 =>
  cond ((x0.rows.length:Int) != (x1.rows.length:Int))
  (k0 (T.b false))
  (aJ m m (wL x1) (wL x0) (T.i (x0.rows.length:Int)) (T.i 0)
  (fun y1=>k0 y1)
  (k0 (T.b true)))
def iL:PS CX aD:=fF OO (FN 126 [.one (.dz tR []),.one (.dz tR []),.fn 127 []] 2 1 bE [.one (RB)]) Tryz.f126 ⟨126,3,32,64⟩ [L2 [0,1,0,1,1] ⟨[(1,.one (LD tR)),(2,.fn 127 []),(15,.one (LD tR)),(16,.one (LI)),(17,.one (LI))],[([4000000],.gone)]⟩ 4 1 0 aJ .ret ⟨[(6,.one (LB))],[]⟩ (.exit 0) ⟨[],[]⟩]
def xg:Nat->T->T->T->T->T->(T->An)->An
 | 0,_,_,_,_,_,_=>.bad
 | m+1,x0,x1,x2,x3,x4,k0 =>
  jn (fun (j9:An) =>
  uG m x0
  (fun y0=>cond ((!y0.bool)==false)
  (dK m x2 (T.i 0) (T.i (x1.rows.length:Int))
  (fun y1=>cond ((!y1.bool)==false)
  (cond (decide ((IntKind.i64.wrap ((x1.rows.length:Int)+(x4.rows.length:Int))) > 300))
  (k0 (T.b false))
  (j9))
  (k0 (T.b false))))
  (k0 (T.b false))))
  (qP m (wL x1)
  (fun y3 y4 y5=>cond (y5.bool==true)
  (dP m (wL y3) (wL x3)
  (fun y6=>cond (y6.bool==true)
  (bE m (wL y4) (wL x4)
  (fun y7=>k0 (T.b y7.bool)))
  (k0 (T.b false))))
  (k0 (T.b false))))
def OP:PS CX aD:=fF iL (FN 78 [.agg [AI,.dz tR [],AI,.dz tP [],.dz tR []]] 5 1 xg [.one (RB)]) Tryz.f78 ⟨78,1,49,4⟩
def zP:Nat->T->T->T->T->T->(T->An)->An
 | 0,_,_,_,_,_,_=>.bad
 | m+1,x0,x1,x2,x3,x4,k0 =>
  jn (fun (j8:An) =>
  uG m x1
  (fun y0=>cond ((!y0.bool)==false)
  (kQ m x2
  (fun y1=>cond (!y1.bool)
  (k0 (T.b false))
  (j8)))
  (k0 (T.b false))))
  (cond (x0.int==1)
  (pE m (wL x3)
  (fun y3=>cond (y3.bool==true)
  (k0 (T.b (!x4.bool)))
  (k0 (T.b false))))
  ((fun (j7:T->An) =>
  cond (x0.int==2)
  (j7 (T.b true))
  (j7 (T.b (x0.int==3))))
  (fun y5=>cond y5.bool
  (k0 (T.b ((x3.rows.length:Int)==0)))
  (cond (x0.int==4)
  (cond (((x3.rows.length:Int)==0)==true)
  (k0 (T.b (!x4.bool)))
  (k0 (T.b false)))
  (k0 (T.b false))))))
def Qx:PS CX aD:=fF OP (FN 128 [.agg [AI,AI,AI,.dz tO [],AB]] 5 1 zP [.one (RB)]) Tryz.f128 ⟨128,1,43,4⟩
def eF (m:Nat):Nat->T->T->T->T->T->(T->An)->(T->An)->An
 | 0,_,_,_,_,_,_,_=>.bad
 | n+1,x0,x1,x2,x3,x4,k0,k1 =>
  cond (decide (x4.int<x3.int))
  (aX x4 x2
  (zP m (aM x2 x4 0) (aM x2 x4 1) (aM x2 x4 2) (wL (aM x2 x4 3)) (aM x2 x4 4)
  (fun y0=>cond ((!y0.bool)==false)
  (cond (decide ((aM x2 x4 1).int>=((((bJ x0).drop 6).getD 0 dflt).rows.length:Int)))
  (k0 (T.b false))
  (eF m n (T.l [(bJ x0)]) x1 x2 x3 (bq x4) k0 k1))
  (k0 (T.b false)))))
  (k1 x1)
def lg:Nat->T->T->(T->An)->An
 | 0,_,_,_=>.bad
 | m+1,x0,x1,k0 =>
  eF m m (T.l [(bJ x0)]) (wL x1) (wL x1) (T.i (x1.rows.length:Int)) (T.i 0)
  (fun y4=>k0 y4)
  (fun y5=>k0 (T.b (decide ((y5.rows.length:Int)<=400))))
def Ed:PS CX aD:=fF Qx (FN 79 [.BH [.sc (.int .i64),.sc (.int .i64),.sc (.int .i64),.sl tJ,.sl tC,.sc (.int .i64),.sl tS,.sl tW,.sl tW,.sl tB] [],.one (.dz tW [])] 2 1 lg [.one (RB)]) Tryz.f79 ⟨79,2,30,16⟩ [L2 [0,1,0,1] ⟨[(0,.rp [([4000000],0)] [.sc (.int .i64),.sc (.int .i64),.sc (.int .i64),.sl tJ,.sl tC,.sc (.int .i64),.sl tS,.sl tW,.sl tW,.sl tB] []),(1,.one (LD tW)),(7,.one (LD tW)),(8,.one (LI)),(9,.one (LI))],[([4000000],.gone)]⟩ 5 1 1 eF .ret ⟨[(4,.one (LB))],[]⟩ (.exit 0) ⟨[(1,.one (LD tW))],[([4000000],.gone)]⟩]
def pG:Nat->T->T->T->(T->An)->An
 | 0,_,_,_,_=>.bad
 | m+1,x0,x1,x2,k0 =>
  k0 (T.b (x0.int==((bJ x2).getD 0 dflt).int))
def CQ:PS CX aD:=fF Ed (FN 154 [.agg [AI,.dz tO []],.BH tI []] 3 1 pG [.one (RB)]) Tryz.f154 ⟨154,2,8,8⟩
def aW (m:Nat):Nat->T->T->T->T->(T->An)->An->An
 | 0,_,_,_,_,_,_=>.bad
 | n+1,x0,x1,x2,x3,k0,k1 =>
  cond (decide (x3.int<x2.int))
  (aX x3 x0
  (pG m (aM x0 x3 0) (wL (aM x0 x3 1)) (T.l [(bJ x1)])
  (fun y0=>cond y0.bool
  (k0 x3)
  (aW m n x0 (T.l [(bJ x1)]) x2 (bq x3) k0 k1))))
  (k1 )
def dV:Nat->T->T->(T->An)->An
 | 0,_,_,_=>.bad
 | m+1,x0,x1,k0 =>
  aW m m (wL x0) (T.l [(bJ x1)]) (T.i (x0.rows.length:Int)) (T.i 0)
  (fun y1=>k0 y1)
  (k0 (T.i (-1)))
def ny:PS CX aD:=fF CQ (FN 153 [.one (.dz tB []),.fn 154 [.BH tI []]] 2 1 dV [.one (RI)]) Tryz.f153 ⟨153,2,19,16⟩ [L2 [0,1,0,1] ⟨[(0,.one (LD tB)),(1,.fn 154 [.rp [([4000000],0)] tI []]),(7,.one (LI)),(8,.one (LI))],[([4000000],.gone)]⟩ 4 1 0 aW .ret ⟨[(4,.one (LI))],[]⟩ (.exit 0) ⟨[],[]⟩]
def fq:Nat->T->T->(T->An)->An
 | 0,_,_,_=>.bad
 | m+1,x0,x1,k0 =>
  dV m (T.l (((bJ x0).drop 9).getD 0 dflt).rows) (T.l [[x1]])
  (fun y0=>k0 y0)
def Ee:PS CX aD:=fF ny (FN 96 [.BH [.sc (.int .i64),.sc (.int .i64),.sc (.int .i64),.sl tJ,.sl tC,.sc (.int .i64),.sl tS,.sl tW,.sl tW,.sl tB] [],.one (AI)] 2 1 fq [.one (RI)]) Tryz.f96 ⟨96,2,11,16⟩
def eG (m:Nat):Nat->T->T->T->T->(T->An)->(T->An)->An
 | 0,_,_,_,_,_,_=>.bad
 | n+1,x0,x1,x2,x3,k0,k1 =>
  cond (decide (x3.int<x2.int))
  (aX x3 x1
  (fq m (T.l [((bJ x0).take 10)]) (aM x1 x3 0)
  (fun nY=>cond ((decide (nY.int<0))==false)
  (aX nY (((bJ x0).drop 9).getD 0 dflt)
  (bX m (T.l ((((((bJ x0).drop 9).getD 0 dflt).rows.getD (Int.toNat nY.int) []).drop 1).getD 0 dflt).rows) (wL (aM x1 x3 1))
  (fun y13=>cond (!y13.bool)
  (k0 (T.b false))
  (eG m n (T.l [(bJ x0)]) x1 x2 (bq x3) k0 k1))))
  (k0 (T.b false)))))
  (k1 (T.l [(bJ x0)]))
def eH (m:Nat):Nat->T->T->T->T->(T->An)->(T->An)->An
 | 0,_,_,_,_,_,_=>.bad
 | n+1,x0,x1,x2,x3,k0,k1 =>
  cond (decide (x3.int<x2.int))
  (aX x3 x1
  (fq m (T.l [((bJ x0).take 10)]) (aM x1 x3 0)
  (fun y9=>cond (decide (y9.int<0))
  (k0 (T.b false))
  (eH m n (T.l [(bJ x0)]) x1 x2 (bq x3) k0 k1))))
  (k1 (T.l [(bJ x0)]))
def eO (m:Nat):Nat->T->T->T->T->(T->An)->(T->An)->An
 | 0,_,_,_,_,_,_=>.bad
 | n+1,x0,x1,x2,x3,k0,k1 =>
  cond (decide (x3.int<x2.int))
  (aX x3 x1
  (pE m (wL (aM x1 x3 1))
  (fun y0=>cond ((!y0.bool)==false)
  (jK m (T.l [((bJ x0).take 6)])
  (fun y1=>dK m (aM x1 x3 0) (T.i 1000) (T.i (IntKind.i64.wrap (y1.int-1)))
  (fun y2=>cond ((!y2.bool)==false)
  (fq m (T.l [((bJ x0).take 10)]) (aM x1 x3 0)
  (fun y3=>cond (y3.int != x3.int)
  (k0 (T.b false))
  (eO m n (T.l [(bJ x0)]) x1 x2 (bq x3) k0 k1)))
  (k0 (T.b false)))))
  (k0 (T.b false)))))
  (k1 (T.l [(bJ x0)]))
def nL:Nat->T->(T->An)->An
 | 0,_,_=>.bad
 | m+1,x0,k0 =>
  eO m m (T.l [(bJ x0)]) (((bJ x0).drop 9).getD 0 dflt) (T.i ((((bJ x0).drop 9).getD 0 dflt).rows.length:Int)) (T.i 0)
  (fun y7=>k0 y7)
  (fun y8=>eH m m (T.l [(bJ y8)]) (((bJ y8).drop 4).getD 0 dflt) (T.i ((((bJ y8).drop 4).getD 0 dflt).rows.length:Int)) (T.i 0)
  (fun nO=>k0 nO)
  (fun nT=>eG m m (T.l [(bJ nT)]) (((bJ nT).drop 3).getD 0 dflt) (T.i ((((bJ nT).drop 3).getD 0 dflt).rows.length:Int)) (T.i 0)
  (fun vS=>k0 vS)
  (fun uS=>k0 (T.b (decide (((((bJ uS).drop 9).getD 0 dflt).rows.length:Int)<=1000))))))
def Ef:PS CX aD:=fF Ee (FN 80 [.BH [.sc (.int .i64),.sc (.int .i64),.sc (.int .i64),.sl tJ,.sl tC,.sc (.int .i64),.sl tS,.sl tW,.sl tW,.sl tB] []] 1 1 nL [.one (RB)]) Tryz.f80 ⟨80,1,97,4⟩ [L2 [0,1,0,1,1,1] ⟨[(0,.rp [([4000000],0)] [.sc (.int .i64),.sc (.int .i64),.sc (.int .i64),.sl tJ,.sl tC,.sc (.int .i64),.sl tS,.sl tW,.sl tW,.sl tB] []),(64,.one (LD tJ)),(65,.one (LI)),(66,.one (LI))],[([4000000],.gone)]⟩ 4 1 1 eG .ret ⟨[(2,.one (LB))],[]⟩ (.exit 4) ⟨[(0,.rp [([4000000],0)] [.sc (.int .i64),.sc (.int .i64),.sc (.int .i64),.sl tJ,.sl tC,.sc (.int .i64),.sl tS,.sl tW,.sl tW,.sl tB] [])],[([4000000],.gone)]⟩,L2 [0,1,0,1,1] ⟨[(0,.rp [([4000000],0)] [.sc (.int .i64),.sc (.int .i64),.sc (.int .i64),.sl tJ,.sl tC,.sc (.int .i64),.sl tS,.sl tW,.sl tW,.sl tB] []),(48,.one (LD tC)),(49,.one (LI)),(50,.one (LI))],[([4000000],.gone)]⟩ 4 1 1 eH .ret ⟨[(2,.one (LB))],[]⟩ (.exit 2) ⟨[(0,.rp [([4000000],0)] [.sc (.int .i64),.sc (.int .i64),.sc (.int .i64),.sl tJ,.sl tC,.sc (.int .i64),.sl tS,.sl tW,.sl tW,.sl tB] [])],[([4000000],.gone)]⟩,L2 [0,1,0,1] ⟨[(0,.rp [([4000000],0)] [.sc (.int .i64),.sc (.int .i64),.sc (.int .i64),.sl tJ,.sl tC,.sc (.int .i64),.sl tS,.sl tW,.sl tW,.sl tB] []),(13,.one (LD tB)),(14,.one (LI)),(15,.one (LI))],[([4000000],.gone)]⟩ 4 1 1 eO .ret ⟨[(2,.one (LB))],[]⟩ (.exit 0) ⟨[(0,.rp [([4000000],0)] [.sc (.int .i64),.sc (.int .i64),.sc (.int .i64),.sl tJ,.sl tC,.sc (.int .i64),.sl tS,.sl tW,.sl tW,.sl tB] [])],[([4000000],.gone)]⟩]
def jM (m:Nat):Nat->T->T->T->T->T->T->T->T->T->T->T->T->T->T->(T->An)->(T->T->T->T->T->T->T->T->T->T->T->An)->An
 | 0,_,_,_,_,_,_,_,_,_,_,_,_,_,_,_,_=>.bad
 | n+1,x0,x1,x2,x3,x4,x5,x6,x7,x8,x9,x10,bW,gH,mh,k0,k1 =>
  cond (decide (x3.int<x2.int))
  ((fun (j4:An) =>
  aX x3 x1
  (cond (((aM x1 x3 0).int != x3.int)==false)
  (xg m (aM x1 x3 0) (wL (aM x1 x3 1)) (aM x1 x3 2) (wL (aM x1 x3 3)) (wL (aM x1 x3 4))
  (fun y2=>cond (!y2.bool)
  (k0 (T.b false))
  (j4)))
  (k0 (T.b false))))
  (jM m n (T.i (x0.int.toNat:Int)) x1 x2 (bq x3) x4 x5 x6 x7 x8 x9 x10 bW gH mh k0 k1))
  (k1 (T.i (x0.int.toNat:Int)) x4 x5 x6 x7 x8 x9 x10 bW gH mh)
def sZ:Nat->T->T->T->T->T->T->T->T->T->T->(T->An)->An
 | 0,_,_,_,_,_,_,_,_,_,_,_=>.bad
 | m+1,x0,x1,x2,x3,x4,x5,x6,x7,x8,x9,k0 =>
  jn (fun (j21:An) =>
  wZ m x0 x1 x2 (wL x3) (wL x4) x5
  (fun y0=>cond ((!y0.bool)==false)
  (cond ((x6.rows.length:Int) != x0.int)
  (k0 (T.b false))
  (j21))
  (k0 (T.b false))))
  (jM m m (T.i 0) (wL x6) (T.i (x6.rows.length:Int)) (T.i 0) x0 x1 x2 (wL x3) (wL x4) x5 (wL x6) (wL x7) (wL x8) (wL x9)
  (fun y5=>k0 y5)
  (fun y6 y7 y8 y9 nO nT nY y13 o8 sw wH=>lg m (T.l [[y7,y8,y9,(wL nO),(wL nT),nY,(wL y13),(wL o8),(wL sw),(wL wH)]]) (wL o8)
  (fun vS=>cond (vS.bool==true)
  (lg m (T.l [[y7,y8,y9,(wL nO),(wL nT),nY,(wL y13),(wL o8),(wL sw),(wL wH)]]) (wL sw)
  (fun uS=>cond (uS.bool==true)
  (nL m (T.l [[y7,y8,y9,(wL nO),(wL nT),nY,(wL y13),(wL o8),(wL sw),(wL wH)]])
  (fun BF=>k0 (T.b BF.bool)))
  (k0 (T.b false))))
  (k0 (T.b false)))))
def OQ:PS CX aD:=fF Ef (FN 37 [.agg [AI,AI,AI,.dz tJ [],.dz tC [],AI,.dz tS [],.dz tW [],.dz tW [],.dz tB []]] 10 1 sZ [.one (RB)]) Tryz.f37 ⟨37,1,47,4⟩ [L2 [0,1,0,1,1] ⟨[(1,EP 0),(19,.one (LD tS)),(20,.one (LI)),(21,.one (LI))],[((KI 0),.box [LI,LI,LI,LD tJ,LD tC,LI,LD tS,LD tW,LD tW,LD tB]),([4000000],.gone)]⟩ 14 1 11 jM .ret ⟨[(2,.one (LB))],[]⟩ (.exit 0) ⟨[(1,EP 0)],[((KI 0),.box [LI,LI,LI,LD tJ,LD tC,LI,LD tS,LD tW,LD tW,LD tB]),([4000000],.gone)]⟩]
def iZ:Nat->T->T->(T->An)->An
 | 0,_,_,_=>.bad
 | m+1,x0,x1,k0 =>
  nK m (T.l (((bJ x0).drop 1).getD 0 dflt).rows) x1
  (fun y0=>nK m (T.l (((bJ x0).drop 4).getD 0 dflt).rows) x1
  (fun y1=>cond (decide (y1.int>=0))
  (k0 (T.i 1))
  (cond (decide (y0.int<0))
  (k0 (T.i 2))
  (aX y0 (((bJ x0).drop 1).getD 0 dflt)
  (cond ((((((bJ x0).drop 1).getD 0 dflt).rows.getD (Int.toNat y0.int) []).getD 0 dflt).int==2)
  (k0 (T.i 3))
  (k0 (T.i 4)))))))
def Eh:PS CX aD:=fF OQ (FN 183 [.BH tS [],.one (AI)] 2 1 iZ [.one (RI)]) Tryz.f183 ⟨183,2,33,16⟩
def gJ (m:Nat):Nat->T->T->T->T->T->T->(T->T->T->An)->An
 | 0,_,_,_,_,_,_,_=>.bad
 | n+1,x0,x1,x2,x3,x4,x5,k0 =>
  cond (decide (x5.int<x4.int))
  (aX x5 x3
  (gJ m n (T.l [(bJ x0)]) x1 (T.i (IntKind.i64.wrap (x2.int+((aM x3 x5 2).rows.length:Int)))) x3 x4 (bq x5) k0))
  (k0 (T.l [(bJ x0)]) x1 x2)
def qQ:Nat->T->T->(T->An)->An
 | 0,_,_,_=>.bad
 | m+1,x0,x1,k0 =>
  gJ m m (T.l [(bJ x0)]) (wL x1) (T.i (IntKind.i64.wrap (((((bJ x0).drop 3).getD 0 dflt).rows.length:Int)+(x1.rows.length:Int)))) (((bJ x0).drop 4).getD 0 dflt) (T.i ((((bJ x0).drop 4).getD 0 dflt).rows.length:Int)) (T.i 0)
  (fun y0 y1 y2=>pF m (T.l (((bJ y0).drop 4).getD 0 dflt).rows) (wL y1)
  (fun y3=>cond ((!y3.bool)==true)
  (yG m (T.l (((bJ y0).drop 3).getD 0 dflt).rows) (wL y1)
  (fun y4=>cond (y4.bool==true)
  (cond ((decide (y2.int<=60))==true)
  (k0 (T.b (decide ((IntKind.i64.wrap ((IntKind.i64.wrap (((((bJ y0).drop 1).getD 0 dflt).rows.length:Int)+((((bJ y0).drop 4).getD 0 dflt).rows.length:Int)))+2))<=300))))
  (k0 (T.b false)))
  (k0 (T.b false))))
  (k0 (T.b false))))
def IC:PS CX aD:=fF Eh (FN 200 [.BH tS [],.one (.dz tO [])] 2 1 qQ [.one (RB)]) Tryz.f200 ⟨200,2,65,16⟩ [L1 [0,1,0,1,1] ⟨[(0,.rp [([4000000],0)] tS []),(1,.one (LD tO)),(5,.one (LI)),(19,.one (LD tR)),(20,.one (LI)),(21,.one (LI))],[([4000000],.gone)]⟩ 6 3 gJ (.exit 0) ⟨[(0,.rp [([4000000],0)] tS []),(1,.one (LD tO)),(5,.one (LI))],[([4000000],.gone)]⟩]
def qR:Nat->T->T->T->T->T->T->T->(T->T->T->T->T->T->An)->An
 | 0,_,_,_,_,_,_,_,_=>.bad
 | m+1,x0,x1,x2,x3,x4,x5,x6,k0 =>
  jn (fun (j7:An) =>
  kQ m x5
  (fun y0=>cond ((!y0.bool)==false)
  (pE m (wL x6)
  (fun y1=>cond (!y1.bool)
  (k0 (T.i 5) x0 (wL x1) x2 (wL x3) (wL x4))
  (j7)))
  (k0 (T.i 5) x0 (wL x1) x2 (wL x3) (wL x4))))
  (iZ m (T.l [[x0,(wL x1),x2,(wL x3),(wL x4)]]) x5
  (fun y3=>cond (y3.int != 2)
  (k0 y3 x0 (wL x1) x2 (wL x3) (wL x4))
  (qQ m (T.l [[x0,(wL x1),x2,(wL x3),(wL x4)]]) (wL x6)
  (fun y4=>cond (!y4.bool)
  (k0 (T.i 2) x0 (wL x1) x2 (wL x3) (wL x4))
  (aQ m (wL x6)
  (fun y5=>cond (decide ((x1.rows.length+1) * 3<=au))
  (aQ m (wL x6)
  (fun y6=>cond (decide ((x4.rows.length+1) * 3<=au))
  (k0 (T.i 1) x0 (T.l (x1.rows++[[(T.i 1),x5,(wL y5)]])) x2 (wL x3) (T.l (x4.rows++[[(T.i 1),x5,(wL y6)]])))
  (.bad)))
  (.bad)))))))
def IE:PS CX aD:=fF IC (F1 181 [.bx [AI,.own tR m3 [],AI,.own tP m2 [],.own tR m3 []],.one (AI),.one (.dz tO [])] 7 6 qR ⟨[.one (RI)],[[none,none,none,none,none],[none],[none]],[some [RI,.own (KR 1000 1) tR m3 [],RI,.own (KR 1000 3) tP m2 [],.own (KR 1000 4) tR m3 []],none,none]⟩) Tryz.f181 ⟨181,3,54,65⟩
def qU:Nat->T->T->T->T->T->T->T->T->T->T->T->T->T->T->T->(T->T->T->T->T->T->T->T->T->T->An)->An
 | 0,_,_,_,_,_,_,_,_,_,_,_,_,_,_,_,_=>.bad
 | m+1,x0,x1,x2,x3,x4,x5,x6,x7,x8,x9,x10,bW,gH,mh,qF,k0 =>
  aX bW x6
  (cond (decide ((Int.toNat bW.int)<x6.rows.length))
  (qR m ((x6.rows.getD (Int.toNat bW.int) []).headD dflt) (T.l ((x6.rows.getD (Int.toNat bW.int) []).tail.headD dflt).rows) ((x6.rows.getD (Int.toNat bW.int) []).tail.tail.headD dflt) (T.l ((x6.rows.getD (Int.toNat bW.int) []).tail.tail.tail.headD dflt).rows) (T.l ((x6.rows.getD (Int.toNat bW.int) []).tail.tail.tail.tail.headD dflt).rows) gH (wL mh)
  (fun y0 y1 y2 y3 y4 y5=>jn (fun (j11:T->An) =>
  cond ((y0.int==5)==false)
  (cond (decide ((x8.rows.length:Int)>=400))
  (k0 x0 x1 x2 (wL x3) (wL x4) x5 (T.l (x6.rows.set (Int.toNat bW.int) [y1,(wL y2),y3,(wL y4),(wL y5)])) (wL x7) (wL x8) (wL x9))
  (j11 (T.l (x6.rows.set (Int.toNat bW.int) [y1,(wL y2),y3,(wL y4),(wL y5)]))))
  (k0 x0 x1 x2 (wL x3) (wL x4) x5 (T.l (x6.rows.set (Int.toNat bW.int) [y1,(wL y2),y3,(wL y4),(wL y5)])) (wL x7) (wL x8) (wL x9)))
  (fun y8=>(fun (j10:T->An) =>
  cond ((y0.int==1)==false)
  (j10 (T.b (y0.int==3)))
  (j10 (T.b true)))
  (fun y9=>cond (decide ((x8.rows.length+1) * 5<=au))
  (k0 x0 x1 x2 (wL x3) (wL x4) x5 (wL y8) (wL x7) (T.l (x8.rows++[[(T.i 2),bW,gH,(T.l []),y9]])) (wL x9))
  (.bad)))))
  (.bad))
def IG:PS CX aD:=fF IE (F1 157 [.bx [AI,AI,AI,.own tJ [.F,.F,.F,.O [.F]] [],.own tC m2 [],AI,.own tS mS [],.own tW m5 [],.own tW m5 [],.own tB m2 []],.agg [AI,AI,AI,.dz tO [],AB]] 15 10 qU ⟨[],[[none,none,none,none,none,none,none,none,none,none],[none,none,none,none,none]],[some [RI,RI,RI,.own (KR 1000 3) tJ [.F,.F,.F,.O [.F]] [],.own (KR 1000 4) tC m2 [],RI,.own (KR 1000 6) tS mS [],.own (KR 1000 7) tW m5 [],.own (KR 1000 8) tW m5 [],.own (KR 1000 9) tB m2 []],none]⟩) Tryz.f157 ⟨157,2,49,1⟩
def oF:Nat->T->T->T->T->T->T->T->(T->T->T->T->T->T->An)->(T->T->T->T->T->T->T->An)->An
 | 0,_,_,_,_,_,_,_,_,_=>.bad
 | m+1,x0,x1,x2,x3,x4,x5,x6,k0,k1 =>
  kQ m x5
  (fun y0=>cond (!y0.bool)
  (k0 (T.b false) x0 (wL x1) x2 (wL x3) (wL x4))
  (jn (fun (j9:T->An) =>
  cond x6.bool
  (j9 (T.i 2))
  (j9 (T.i 3)))
  (fun y1=>nK m (wL x4) x5
  (fun y2=>(fun (j8:An) =>
  iZ m (T.l [[x0,(wL x1),x2,(wL x3),(wL x4)]]) x5
  (fun y3=>cond (y3.int==1)
  (cond x6.bool
  (aX y2 x4
  (cond (decide ((Int.toNat y2.int)<x4.rows.length))
  (uH m (wL x3) (wL (aM x4 y2 2))
  (fun y4=>aU m (wL x4) y2 (bq y2)
  (fun y5=>cond (decide ((x1.rows.length+1) * 3<=au))
  (k1 (T.b true) (wL x3) x0 (T.l (x1.rows++[[y1,x5,(T.l [])]])) x2 (wL y4) (wL y5))
  (.bad))))
  (.bad)))
  (aU m (wL x4) y2 (bq y2)
  (fun y6=>cond (decide ((x1.rows.length+1) * 3<=au))
  (k0 (T.b true) x0 (T.l (x1.rows++[[y1,x5,(T.l [])]])) x2 (wL x3) (wL y6))
  (.bad))))
  (cond (y3.int==3)
  (k0 x6 x0 (wL x1) x2 (wL x3) (wL x4))
  (cond (y3.int==4)
  (k0 (T.b (!x6.bool)) x0 (wL x1) x2 (wL x3) (wL x4))
  (cond (x6.bool==false)
  (cond (decide ((IntKind.i64.wrap ((x1.rows.length:Int)+(x4.rows.length:Int)))>=300))
  (k0 (T.b false) x0 (wL x1) x2 (wL x3) (wL x4))
  (j8))
  (k0 (T.b false) x0 (wL x1) x2 (wL x3) (wL x4)))))))
  (cond (decide ((x1.rows.length+1) * 3<=au))
  (k0 (T.b true) x0 (T.l (x1.rows++[[y1,x5,(T.l [])]])) x2 (wL x3) (wL x4))
  (.bad))))))
def Fg:PS CX aD:=fF IG (F2 158 [.bx [AI,.own tR m3 [],AI,.own tP m2 [],.own tR m3 []],.one (AI),.one (AB)] 7 6 7 oF ⟨[.one (RB)],[[none,none,none,none,none],[none],[none]],[some [RI,.own (KR 1000 1) tR m3 [],RI,.own (KR 1000 3) tP m2 [],.own (KR 1000 4) tR m3 []],none,none]⟩ ⟨[.one (RB)],[[none,none,none,some (tP,m2,[]),none],[none],[none]],[some [RI,.own (KR 1000 1) tR m3 [],RI,.own (KR 1000 3) tP m2 [],.own (KR 1000 4) tR m3 []],none,none]⟩) Tryz.f158 ⟨158,3,86,65⟩
def oG:Nat->T->T->T->T->T->(T->An)->An
 | 0,_,_,_,_,_,_=>.bad
 | m+1,x0,x1,x2,x3,x4,k0 =>
  cond ((x0.int==((bJ x4).getD 0 dflt).int)==true)
  (k0 (T.b (x2.int==1)))
  (k0 (T.b false))
def Fh:PS CX aD:=fF Fg (FN 186 [.agg [AI,.dz tO [],AI,.dz tI []],.BH tI []] 5 1 oG [.one (RB)]) Tryz.f186 ⟨186,2,13,8⟩
def bA (m:Nat):Nat->T->T->T->T->(T->An)->An->An
 | 0,_,_,_,_,_,_=>.bad
 | n+1,x0,x1,x2,x3,k0,k1 =>
  cond (decide (x3.int<x2.int))
  (aX x3 x0
  (oG m (aM x0 x3 0) (wL (aM x0 x3 1)) (aM x0 x3 2) (wL (aM x0 x3 3)) (T.l [(bJ x1)])
  (fun y0=>cond y0.bool
  (k0 x3)
  (bA m n x0 (T.l [(bJ x1)]) x2 (bq x3) k0 k1))))
  (k1 )
def dF:Nat->T->T->(T->An)->An
 | 0,_,_,_=>.bad
 | m+1,x0,x1,k0 =>
  bA m m (wL x0) (T.l [(bJ x1)]) (T.i (x0.rows.length:Int)) (T.i 0)
  (fun y1=>k0 y1)
  (k0 (T.i (-1)))
def oK:PS CX aD:=fF Fh (FN 185 [.one (.dz tJ []),.fn 186 [.BH tI []]] 2 1 dF [.one (RI)]) Tryz.f185 ⟨185,2,19,16⟩ [L2 [0,1,0,1] ⟨[(0,.one (LD tJ)),(1,.fn 186 [.rp [([4000000],0)] tI []]),(7,.one (LI)),(8,.one (LI))],[([4000000],.gone)]⟩ 4 1 0 bA .ret ⟨[(4,.one (LI))],[]⟩ (.exit 0) ⟨[],[]⟩]
def qV:Nat->T->T->T->T->T->T->T->T->T->(T->T->T->T->T->T->An)->An
 | 0,_,_,_,_,_,_,_,_,_,_=>.bad
 | m+1,x0,x1,x2,x3,x4,x5,x6,x7,x8,k0 =>
  dF m (wL x3) (T.l [[x7]])
  (fun y0=>jn (fun (j8:An) =>
  cond ((decide (y0.int<0))==false)
  (cond (decide ((x4.rows.length:Int)>=1000))
  (k0 x0 x1 x2 (wL x3) (wL x4) x5)
  (j8))
  (k0 x0 x1 x2 (wL x3) (wL x4) x5))
  (aX y0 x3
  (cond (decide ((Int.toNat y0.int)<x3.rows.length))
  (mE m (wL (aM x3 y0 1)) x0
  (fun y2=>dL m (wL y2) x6
  (fun y3=>cond (!y3.bool)
  (k0 x0 x1 x2 (wL x3) (wL x4) x5)
  (cond (!x8.bool)
  (cond (decide ((x4.rows.length+1) * 2<=au))
  (cond (decide ((Int.toNat y0.int)<x3.rows.length))
  (k0 x0 x1 x2 (T.l (x3.rows.set (Int.toNat y0.int) ((x3.rows.getD (Int.toNat y0.int) []).set 2 (T.i 3)))) (T.l (x4.rows++[[x7,(T.b false)]])) x5)
  (.bad))
  (.bad))
  (jn (fun (j7:T->An) =>
  cond (decide ((Int.toNat y0.int)<x3.rows.length))
  (dL m (wL (aM x3 y0 3)) x6
  (fun y4=>cond (!y4.bool)
  (cond (decide ((Int.toNat y0.int)<x3.rows.length))
  (cond (decide ((Int.toNat y0.int)<x3.rows.length))
  (cond (decide ((((x3.rows.getD (Int.toNat y0.int) []).tail.tail.tail.headD dflt).rows.length+1) * 1<=au))
  (cond (Nat.beq (Int.toNat y0.int) (Int.toNat y0.int))
  (cond (decide ((Int.toNat y0.int)<(x3.rows.set (Int.toNat y0.int) [((x3.rows.getD (Int.toNat y0.int) []).headD dflt),((x3.rows.getD (Int.toNat y0.int) []).tail.headD dflt),((x3.rows.getD (Int.toNat y0.int) []).tail.tail.headD dflt),(T.l (((x3.rows.getD (Int.toNat y0.int) []).tail.tail.tail.headD dflt).rows++[[x6]]))]).length))
  (cond (decide ((Int.toNat y0.int)<(x3.rows.set (Int.toNat y0.int) [((x3.rows.getD (Int.toNat y0.int) []).headD dflt),((x3.rows.getD (Int.toNat y0.int) []).tail.headD dflt),((x3.rows.getD (Int.toNat y0.int) []).tail.tail.headD dflt),(T.l (((x3.rows.getD (Int.toNat y0.int) []).tail.tail.tail.headD dflt).rows++[[x6]]))]).length))
  (rZ m (T.l (((x3.rows.set (Int.toNat y0.int) [((x3.rows.getD (Int.toNat y0.int) []).headD dflt),((x3.rows.getD (Int.toNat y0.int) []).tail.headD dflt),((x3.rows.getD (Int.toNat y0.int) []).tail.tail.headD dflt),(T.l (((x3.rows.getD (Int.toNat y0.int) []).tail.tail.tail.headD dflt).rows++[[x6]]))]).getD (Int.toNat y0.int) []).tail.tail.tail.headD dflt).rows)
  (fun y5=>j7 (T.l ((x3.rows.set (Int.toNat y0.int) [((x3.rows.getD (Int.toNat y0.int) []).headD dflt),((x3.rows.getD (Int.toNat y0.int) []).tail.headD dflt),((x3.rows.getD (Int.toNat y0.int) []).tail.tail.headD dflt),(T.l (((x3.rows.getD (Int.toNat y0.int) []).tail.tail.tail.headD dflt).rows++[[x6]]))]).set (Int.toNat y0.int) [(((x3.rows.set (Int.toNat y0.int) [((x3.rows.getD (Int.toNat y0.int) []).headD dflt),((x3.rows.getD (Int.toNat y0.int) []).tail.headD dflt),((x3.rows.getD (Int.toNat y0.int) []).tail.tail.headD dflt),(T.l (((x3.rows.getD (Int.toNat y0.int) []).tail.tail.tail.headD dflt).rows++[[x6]]))]).getD (Int.toNat y0.int) []).headD dflt),(((x3.rows.set (Int.toNat y0.int) [((x3.rows.getD (Int.toNat y0.int) []).headD dflt),((x3.rows.getD (Int.toNat y0.int) []).tail.headD dflt),((x3.rows.getD (Int.toNat y0.int) []).tail.tail.headD dflt),(T.l (((x3.rows.getD (Int.toNat y0.int) []).tail.tail.tail.headD dflt).rows++[[x6]]))]).getD (Int.toNat y0.int) []).tail.headD dflt),(((x3.rows.set (Int.toNat y0.int) [((x3.rows.getD (Int.toNat y0.int) []).headD dflt),((x3.rows.getD (Int.toNat y0.int) []).tail.headD dflt),((x3.rows.getD (Int.toNat y0.int) []).tail.tail.headD dflt),(T.l (((x3.rows.getD (Int.toNat y0.int) []).tail.tail.tail.headD dflt).rows++[[x6]]))]).getD (Int.toNat y0.int) []).tail.tail.headD dflt),(wL y5)]))))
  (.bad))
  (.bad))
  (.bad))
  (.bad))
  (.bad))
  (.bad))
  (j7 (wL x3))))
  (.bad))
  (fun y6=>cond (decide ((Int.toNat y0.int)<y6.rows.length))
  (cond (((aM y6 y0 3).rows.length:Int)==(y2.rows.length:Int))
  (cond (decide ((x4.rows.length+1) * 2<=au))
  (cond (decide ((Int.toNat y0.int)<y6.rows.length))
  (k0 x0 x1 x2 (T.l (y6.rows.set (Int.toNat y0.int) ((y6.rows.getD (Int.toNat y0.int) []).set 2 (T.i 2)))) (T.l (x4.rows++[[x7,(T.b true)]])) x5)
  (.bad))
  (.bad))
  (k0 x0 x1 x2 (wL y6) (wL x4) x5))
  (.bad)))))))
  (.bad))))
def II:PS CX aD:=fF oK (F1 159 [.bx [AI,AI,AI,.own tJ [.F,.F,.F,.O [.F]] [],.own tC m2 [],AI],.one (AI),.one (AI),.one (AB)] 9 6 qV ⟨[],[[none,none,none,none,none,none],[none],[none],[none]],[some [RI,RI,RI,.own (KR 1000 3) tJ [.F,.F,.F,.O [.F]] [],.own (KR 1000 4) tC m2 [],RI],none,none,none]⟩) Tryz.f159 ⟨159,4,106,1⟩
def oH:Nat->T->T->(T->T->An)->An
 | 0,_,_,_=>.bad
 | m+1,x0,x1,k0 =>
  cond (decide (x1.int<1000))
  (k0 (T.b false) (T.b false))
  (ig m (T.l [((bJ x0).take 6)]) x1
  (fun y0=>cond (decide (y0.int<0))
  (k0 (T.b false) (T.b (decide (x1.int<(IntKind.i64.wrap ((((bJ x0).drop 1).getD 0 dflt).int * 1000))))))
  (cond (decide (y0.int>=(((bJ x0).drop 5).getD 0 dflt).int))
  (k0 (T.b false) (T.b false))
  (aX y0 (((bJ x0).drop 4).getD 0 dflt)
  (k0 ((((((bJ x0).drop 4).getD 0 dflt).rows.getD (Int.toNat y0.int) []).drop 1).getD 0 dflt) (T.b true))))))
def Fj:PS CX aD:=fF II (FN 135 [.BH [.sc (.int .i64),.sc (.int .i64),.sc (.int .i64),.sl tJ,.sl tC,.sc (.int .i64)] [],.one (AI)] 2 2 oH [.one (RB),.one (RB)]) Tryz.f135 ⟨135,2,35,48⟩
def tq:Nat->T->T->T->T->T->T->T->T->T->T->T->(T->T->T->T->T->T->T->T->T->T->An)->An
 | 0,_,_,_,_,_,_,_,_,_,_,_,_=>.bad
 | m+1,x0,x1,x2,x3,x4,x5,x6,x7,x8,x9,x10,k0 =>
  cond (decide ((0:Int)<=(zV (x10.rows.length:Int) (zW (IntKind.i64.wrap (400-(x7.rows.length:Int))) 0))/\(zV (x10.rows.length:Int) (zW (IntKind.i64.wrap (400-(x7.rows.length:Int))) 0))<=(x10.rows.length:Int)))
  (cond (decide ((0:Int)<=0/\0<=(zV (x10.rows.length:Int) (zW (IntKind.i64.wrap (400-(x7.rows.length:Int))) 0))))
  (cond (decide ((x7.rows.length+(x10.rows.take (Int.toNat (zV (x10.rows.length:Int) (zW (IntKind.i64.wrap (400-(x7.rows.length:Int))) 0)))).length) * 5<=au))
  (k0 (wL x3) (wL x4) (wL x6) (wL x8) (wL x9) x0 x1 x2 x5 (T.l (x7.rows++(x10.rows.take (Int.toNat (zV (x10.rows.length:Int) (zW (IntKind.i64.wrap (400-(x7.rows.length:Int))) 0)))))))
  (.bad))
  (.bad))
  (.bad)
def JV:PS CX aD:=fF Fj (F1 84 [.bx [AI,AI,AI,.own tJ [.F,.F,.F,.O [.F]] [],.own tC m2 [],AI,.own tS mS [],.own tW m5 [],.own tW m5 [],.own tB m2 []],.one (.fz tW [])] 11 10 tq ⟨[],[[none,none,none,some (tJ,[.F,.F,.F,.O [.F]],[]),some (tC,m2,[]),none,some (tS,mS,[]),none,some (tW,m5,[]),some (tB,m2,[])],[none]],[some [RI,RI,RI,.par 0 3,.par 0 4,RI,.par 0 6,.own (KR 1000 7) tW m5 [],.par 0 8,.par 0 9],none]⟩) Tryz.f84 ⟨84,2,26,1⟩
def nV:Nat->T->T->T->T->T->T->T->T->T->T->T->(T->T->T->T->T->T->T->T->T->T->An)->An
 | 0,_,_,_,_,_,_,_,_,_,_,_,_=>.bad
 | m+1,x0,x1,x2,x3,x4,x5,x6,x7,x8,x9,x10,k0 =>
  aX x10 x7
  (cond (decide ((Int.toNat x10.int)<x7.rows.length))
  (dJ m (wL x7) x10 (bq x10)
  (fun y0=>cond ((aM x7 x10 0).int==1)
  (qU m x0 x1 x2 (wL x3) (wL x4) x5 (wL x6) (wL y0) (wL x8) (wL x9) (aM x7 x10 0) (aM x7 x10 1) (aM x7 x10 2) (wL (aM x7 x10 3)) (aM x7 x10 4)
  (fun y1 y2 y3 y4 y5 y6 y7 y8 y9 nO=>k0 y1 y2 y3 (wL y4) (wL y5) y6 (wL y7) (wL y8) (wL y9) (wL nO)))
  (cond ((aM x7 x10 0).int==3)
  (cond (decide ((0:Int)<=(aM x7 x10 1).int/\(aM x7 x10 1).int<(x6.rows.length:Int)))
  (cond (decide ((Int.toNat (aM x7 x10 1).int)<x6.rows.length))
  (oF m ((x6.rows.getD (Int.toNat (aM x7 x10 1).int) []).headD dflt) (T.l ((x6.rows.getD (Int.toNat (aM x7 x10 1).int) []).tail.headD dflt).rows) ((x6.rows.getD (Int.toNat (aM x7 x10 1).int) []).tail.tail.headD dflt) (T.l ((x6.rows.getD (Int.toNat (aM x7 x10 1).int) []).tail.tail.tail.headD dflt).rows) (T.l ((x6.rows.getD (Int.toNat (aM x7 x10 1).int) []).tail.tail.tail.tail.headD dflt).rows) (aM x7 x10 2) (aM x7 x10 4)
  (fun nT nY y13 o8 sw wH=>k0 x0 x1 x2 (wL x3) (wL x4) x5 (T.l (x6.rows.set (Int.toNat (aM x7 x10 1).int) [nY,(wL y13),o8,(wL sw),(wL wH)])) (wL y0) (wL x8) (wL x9))
  (fun vS uS BF y20 y21 y22 y23=>k0 x0 x1 x2 (wL x3) (wL x4) x5 (T.l (x6.rows.set (Int.toNat (aM x7 x10 1).int) [BF,(wL y20),y21,(wL y22),(wL y23)])) (wL y0) (wL x8) (wL x9)))
  (.bad))
  (.bad))
  (cond ((aM x7 x10 0).int==2)
  (qV m x0 x1 x2 (wL x3) (wL x4) x5 (aM x7 x10 1) (aM x7 x10 2) (aM x7 x10 4)
  (fun y24 y25 JC y27 y28 y29=>k0 y24 y25 JC (wL y27) (wL y28) y29 (wL x6) (wL y0) (wL x8) (wL x9)))
  (cond ((aM x7 x10 0).int==4)
  (oH m (T.l [[x0,x1,x2,(wL x3),(wL x4),x5]]) (aM x7 x10 2)
  (fun Gg y31=>cond y31.bool
  (tq m x0 x1 x2 (wL x3) (wL x4) x5 (wL x6) (wL y0) (wL x8) (wL x9) (T.l [[(T.i 3),(aM x7 x10 1),(aM x7 x10 2),(T.l []),Gg]])
  (fun y32 Lp y34 Mx KJ KL y38 y39 Fa MB=>k0 KL y38 y39 (wL y32) (wL Lp) Fa (wL y34) (wL MB) (wL Mx) (wL KJ)))
  (k0 x0 x1 x2 (wL x3) (wL x4) x5 (wL x6) (wL y0) (wL x8) (wL x9))))
  (k0 x0 x1 x2 (wL x3) (wL x4) x5 (wL x6) (wL y0) (wL x8) (wL x9)))))))
  (.bad))
def IJ:PS CX aD:=fF JV (F1 102 [.bx [AI,AI,AI,.own tJ [.F,.F,.F,.O [.F]] [],.own tC m2 [],AI,.own tS mS [],.own tW m5 [],.own tW m5 [],.own tB m2 []],.one (AI)] 11 10 nV ⟨[],[[none,none,none,none,none,none,none,none,none,none],[none]],[some [RI,RI,RI,.own (KR 1000 3) tJ [.F,.F,.F,.O [.F]] [],.own (KR 1000 4) tC m2 [],RI,.own (KR 1000 6) tS mS [],.own (KR 1000 7) tW m5 [],.own (KR 1000 8) tW m5 [],.own (KR 1000 9) tB m2 []],none]⟩) Tryz.f102 ⟨102,2,79,1⟩
def fU (m:Nat):Nat->T->T->T->T->T->T->T->T->T->T->T->T->(T->T->T->T->T->T->T->T->T->T->T->An)->(T->T->T->T->T->T->T->T->T->T->T->An)->An
 | 0,_,_,_,_,_,_,_,_,_,_,_,_,_,_=>.bad
 | n+1,x0,x1,x2,x3,x4,x5,x6,x7,x8,x9,x10,bW,k0,k1 =>
  jn (fun (j22:An) =>
  cond ((decide (x1.int<2000))==true)
  (cond (decide ((x9.rows.length:Int) > 0))
  (j22)
  (k0 (T.i (x0.int.toNat:Int)) x2 x3 x4 x5 (wL x6) (wL x7) (wL x8) (wL x9) (wL x10) (wL bW)))
  (k0 (T.i (x0.int.toNat:Int)) x2 x3 x4 x5 (wL x6) (wL x7) (wL x8) (wL x9) (wL x10) (wL bW)))
  (nV m x2 x3 x4 (wL x6) (wL x7) x5 (wL x8) (wL x9) (wL x10) (wL bW) (T.i 0)
  (fun nY y13 o8 sw wH vS uS BF y20 y21=>fU m n (T.i (x0.int.toNat:Int)) (bq x1) nY y13 o8 vS (wL sw) (wL wH) (wL uS) (wL BF) (wL y20) (wL y21) k0 k1))
def om (m:Nat):Nat->T->T->T->T->T->T->T->T->T->T->T->T->(T->T->T->T->T->T->T->T->T->T->T->An)->(T->T->T->T->T->T->T->T->T->T->T->An)->An
 | 0,_,_,_,_,_,_,_,_,_,_,_,_,_,_=>.bad
 | n+1,x0,x1,x2,x3,x4,x5,x6,x7,x8,x9,x10,bW,k0,k1 =>
  jn (fun (j23:An) =>
  cond ((decide (x1.int<2000))==true)
  (cond (decide ((x9.rows.length:Int) > 0))
  (j23)
  (k1 (T.i (x0.int.toNat:Int)) x2 x3 x4 x5 (wL x6) (wL x7) (wL x8) (wL x9) (wL x10) (wL bW)))
  (k1 (T.i (x0.int.toNat:Int)) x2 x3 x4 x5 (wL x6) (wL x7) (wL x8) (wL x9) (wL x10) (wL bW)))
  (nV m x2 x3 x4 (wL x6) (wL x7) x5 (wL x8) (wL x9) (wL x10) (wL bW) (T.i 0)
  (fun y1 y2 y3 y4 y5 y6 y7 y8 y9 nO=>fU m n (T.i (x0.int.toNat:Int)) (bq x1) y1 y2 y3 y6 (wL y4) (wL y5) (wL y7) (wL y8) (wL y9) (wL nO) k0 k1))
def tV:Pack:=⟨[(0,.ptr [0,999999] 0 0 0)],[([0,999999],.box [LI,LI,LI,LA (KI 1) tJ,LA (KI 2) tC,LI,LA (KI 3) tS,LA (KI 4) tW,LA (KI 5) tW,LA (KI 6) tB]),((KI 1),.row tJ [.F,.F,.F,.O [.F]] []),((KI 2),.row tC m2 []),((KI 3),.row tS mS []),((KI 4),.row tW m5 []),((KI 5),.row tW m5 []),((KI 6),.row tB m2 [])]⟩
def tZ:Pack:=⟨[(0,.ptr [0,999999] 0 0 0)],[([0,999999],.box [LI,LI,LI,LA [0,3] tJ,LA [0,4] tC,LI,LA [0,6] tS,LA [0,7] tW,LA [0,8] tW,LA [0,9] tB]),([0,3],.row tJ [.F,.F,.F,.O [.F]] []),([0,4],.row tC m2 []),([0,6],.row tS mS []),([0,7],.row tW m5 []),([0,8],.row tW m5 []),([0,9],.row tB m2 [])]⟩
def qd:Nat->T->T->T->T->T->T->T->T->T->T->(T->T->T->T->T->T->T->T->T->T->An)->An
 | 0,_,_,_,_,_,_,_,_,_,_,_=>.bad
 | m+1,x0,x1,x2,x3,x4,x5,x6,x7,x8,x9,k0 =>
  om m m (T.i 0) (T.i 0) x0 x1 x2 x5 (wL x3) (wL x4) (wL x6) (wL x7) (wL x8) (wL x9)
  (fun y24 y25 JC y27 y28 y29 Gg y31 y32 Lp y34=>k0 y25 JC y27 (wL y29) (wL Gg) y28 (wL y31) (wL y32) (wL Lp) (wL y34))
  (fun Mx KJ KL y38 y39 Fa MB PX Qs UF TW=>k0 KJ KL y38 (wL Fa) (wL MB) y39 (wL PX) (wL Qs) (wL UF) (wL TW))
def Gj:PS CX aD:=fF IJ (F1 58 [.bx [AI,AI,AI,.own tJ [.F,.F,.F,.O [.F]] [],.own tC m2 [],AI,.own tS mS [],.own tW m5 [],.own tW m5 [],.own tB m2 []]] 10 10 qd ⟨[],[[none,none,none,none,none,none,none,none,none,none]],[some [RI,RI,RI,.own (KR 1000 3) tJ [.F,.F,.F,.O [.F]] [],.own (KR 1000 4) tC m2 [],RI,.own (KR 1000 6) tS mS [],.own (KR 1000 7) tW m5 [],.own (KR 1000 8) tW m5 [],.own (KR 1000 9) tB m2 []]]⟩) Tryz.f58 ⟨58,1,17,1⟩ [L2 [0,1] ⟨[(0,.ptr [0,999999] 0 0 0),(2,.one (LI))],[([0,999999],.box [LI,LI,LI,LA (KI 1) tJ,LA (KI 2) tC,LI,LA (KI 3) tS,LA (KI 4) tW,LA (KI 5) tW,LA (KI 6) tB]),((KI 1),.row tJ [.F,.F,.F,.O [.F]] []),((KI 2),.row tC m2 []),((KI 3),.row tS mS []),((KI 4),.row tW m5 []),((KI 5),.row tW m5 []),((KI 6),.row tB m2 [])]⟩ 12 11 11 fU (.exit 0) tV (.exit 0) tZ,L2 [0,1] ⟨[(0,.ptr [0,999999] 0 0 0),(2,.one (LI))],[([0,999999],.box [LI,LI,LI,LA [0,3] tJ,LA [0,4] tC,LI,LA [0,6] tS,LA [0,7] tW,LA [0,8] tW,LA [0,9] tB]),([0,3],.row tJ [.F,.F,.F,.O [.F]] []),([0,4],.row tC m2 []),([0,6],.row tS mS []),([0,7],.row tW m5 []),([0,8],.row tW m5 []),([0,9],.row tB m2 [])]⟩ 12 11 11 om (.exit 0) tV (.exit 0) tZ]
def CR:Nat->T->T->T->T->T->T->T->T->T->T->(T->T->T->T->T->T->T->T->T->T->An)->An
 | 0,_,_,_,_,_,_,_,_,_,_,_=>.bad
 | m+1,x0,x1,x2,x3,x4,x5,x6,x7,x8,x9,k0 =>
  mV m x0 x1 x2 (wL x3) (wL x4) x5 (wL x6) (wL x7) (wL x8) (wL x9)
  (fun y0 y1 y2 y3 y4 y5 y6 y7 y8 y9=>sZ m x0 x1 x2 (wL x3) (wL x4) x5 (wL x6) (wL x7) (wL x8) (wL x9)
  (fun nO=>cond nO.bool
  (qd m y0 y1 y2 (wL y3) (wL y4) y5 (wL y6) (wL y7) (wL y8) (wL y9)
  (fun nT nY y13 o8 sw wH vS uS BF y20=>mV m nT nY y13 (wL o8) (wL sw) wH (wL vS) (wL uS) (wL BF) (wL y20)
  (fun y21 y22 y23 y24 y25 JC y27 y28 y29 Gg=>k0 y21 y22 y23 (wL y24) (wL y25) JC (wL y27) (wL y28) (wL y29) (wL Gg))))
  (mV m y0 y1 y2 (wL y3) (wL y4) y5 (wL y6) (wL y7) (wL y8) (wL y9)
  (fun y31 y32 Lp y34 Mx KJ KL y38 y39 Fa=>k0 y31 y32 Lp (wL y34) (wL Mx) KJ (wL KL) (wL y38) (wL y39) (wL Fa)))))
def Uf:PS CX aD:=fF Gj (FN 22 [.agg [AI,AI,AI,.dz tJ [],.dz tC [],AI,.dz tS [],.dz tW [],.dz tW [],.dz tB []]] 10 10 CR [.agg [RI,RI,RI,.own (KR 0 3) tJ [.F,.F,.F,.O [.F]] [],.own (KR 0 4) tC m2 [],RI,.own (KR 0 6) tS mS [],.own (KR 0 7) tW m5 [],.own (KR 0 8) tW m5 [],.own (KR 0 9) tB m2 []]]) Tryz.f22 ⟨22,1,11,4⟩
def cu (m:Nat):Nat->T->T->T->T->T->(T->An)->An->An
 | 0,_,_,_,_,_,_,_=>.bad
 | n+1,x0,x1,x2,x3,x4,k0,k1 =>
  cond (decide (x4.int<x3.int))
  (aX x4 x2
  (cond (((aM x2 x4 0).int==x1.int)==true)
  (cond ((aM x2 x4 1).bool==true)
  (cond (decide (x4.int<(((bJ x0).drop 5).getD 0 dflt).int))
  (k0 (T.b true))
  (cu m n (T.l [(bJ x0)]) x1 x2 x3 (bq x4) k0 k1))
  (cu m n (T.l [(bJ x0)]) x1 x2 x3 (bq x4) k0 k1))
  (cu m n (T.l [(bJ x0)]) x1 x2 x3 (bq x4) k0 k1)))
  (k1 )
def mK:Nat->T->T->(T->An)->An
 | 0,_,_,_=>.bad
 | m+1,x0,x1,k0 =>
  cu m m (T.l [(bJ x0)]) x1 (((bJ x0).drop 4).getD 0 dflt) (T.i ((((bJ x0).drop 4).getD 0 dflt).rows.length:Int)) (T.i 0)
  (fun y3=>k0 y3)
  (k0 (T.b false))
def Dv:PS CX aD:=fF Uf (FN 95 [.BH [.sc (.int .i64),.sc (.int .i64),.sc (.int .i64),.sl tJ,.sl tC,.sc (.int .i64),.sl tS,.sl tW,.sl tW,.sl tB] [],.one (AI)] 2 1 mK [.one (RB)]) Tryz.f95 ⟨95,2,36,16⟩ [L2 [0,1,0,1] ⟨[(0,.rp [([4000000],0)] [.sc (.int .i64),.sc (.int .i64),.sc (.int .i64),.sl tJ,.sl tC,.sc (.int .i64),.sl tS,.sl tW,.sl tW,.sl tB] []),(1,.one (LI)),(11,.one (LD tC)),(12,.one (LI)),(13,.one (LI))],[([4000000],.gone)]⟩ 5 1 0 cu .ret ⟨[(4,.one (LB))],[]⟩ (.exit 0) ⟨[],[]⟩]
def kS (m:Nat):Nat->T->T->T->T->T->T->T->T->T->T->T->T->T->T->T->T->T->(T->An)->(T->T->T->T->T->T->T->T->T->T->T->T->T->T->An)->An
 | 0,_,_,_,_,_,_,_,_,_,_,_,_,_,_,_,_,_,_,_=>.bad
 | n+1,x0,x1,x2,x3,x4,x5,x6,x7,x8,x9,x10,bW,gH,mh,qF,wF,wG,k0,k1 =>
  cond (decide (x6.int<x5.int))
  ((fun (j2:An) =>
  aX x6 x4
  (cond (((aM x4 x6 0).int==2)==true)
  (mK m (T.l [[x7,x8,x9,(wL x10),(wL bW),gH,(wL mh),(wL qF),(wL wF),(wL wG)]]) (aM x4 x6 1)
  (fun y0=>cond (!y0.bool)
  (k0 (T.b false))
  (j2)))
  (j2)))
  (kS m n (T.i (x0.int.toNat:Int)) x1 x2 x3 x4 x5 (bq x6) x7 x8 x9 x10 bW gH mh qF wF wG k0 k1))
  (k1 (T.i (x0.int.toNat:Int)) x1 x2 x3 x7 x8 x9 x10 bW gH mh qF wF wG)
def kT (m:Nat):Nat->T->T->T->T->T->T->T->T->T->T->T->T->T->T->(T->An)->An->An
 | 0,_,_,_,_,_,_,_,_,_,_,_,_,_,_,_,_=>.bad
 | n+1,x0,x1,x2,x3,x4,x5,x6,x7,x8,x9,x10,bW,gH,mh,k0,k1 =>
  cond (decide (x3.int<x2.int))
  (aX x3 x1
  (kS m n (T.i (x0.int.toNat:Int)) x1 x2 x3 (aM x1 x3 1) (T.i ((aM x1 x3 1).rows.length:Int)) (T.i 0) x4 x5 x6 x7 x8 x9 x10 bW gH mh
  (fun y3=>k0 y3)
  (fun y4 y5 y6 y7 y8 y9 nO nT nY y13 o8 sw wH vS=>kT m n (T.i (y4.int.toNat:Int)) y5 y6 (bq y7) y8 y9 nO nT nY y13 o8 sw wH vS k0 k1)))
  (k1 )
def zQ:Nat->T->T->T->T->T->T->T->T->T->T->(T->An)->An
 | 0,_,_,_,_,_,_,_,_,_,_,_=>.bad
 | m+1,x0,x1,x2,x3,x4,x5,x6,x7,x8,x9,k0 =>
  kT m m (T.i 0) (wL x6) (T.i (x6.rows.length:Int)) (T.i 0) x0 x1 x2 (wL x3) (wL x4) x5 (wL x6) (wL x7) (wL x8) (wL x9)
  (fun uS=>k0 uS)
  (k0 (T.b true))
def Qy:PS CX aD:=fF Dv (FN 52 [.agg [AI,AI,AI,.dz tJ [],.dz tC [],AI,.dz tS [],.dz tW [],.dz tW [],.dz tB []]] 10 1 zQ [.one (RB)]) Tryz.f52 ⟨52,1,32,4⟩ [L2 [0,1,1,0,0,1,1,0,0,1,0,1] ⟨[(1,EP 0),(8,.one (LD tS)),(9,.one (LI)),(10,.one (LI)),(15,.one (LD tR)),(16,.one (LI)),(17,.one (LI))],[((KI 0),.box [LI,LI,LI,LD tJ,LD tC,LI,LD tS,LD tW,LD tW,LD tB]),([4000000],.gone)]⟩ 17 1 14 kS .ret ⟨[(2,.one (LB))],[]⟩ (.exit 2) ⟨[(1,EP 0),(8,.one (LD tS)),(9,.one (LI)),(10,.one (LI))],[((KI 0),.box [LI,LI,LI,LD tJ,LD tC,LI,LD tS,LD tW,LD tW,LD tB]),([4000000],.gone)]⟩,L2 [0,1,0,1] ⟨[(1,EP 0),(8,.one (LD tS)),(9,.one (LI)),(10,.one (LI))],[((KI 0),.box [LI,LI,LI,LD tJ,LD tC,LI,LD tS,LD tW,LD tW,LD tB]),([4000000],.gone)]⟩ 14 1 0 kT .ret ⟨[(2,.one (LB))],[]⟩ (.exit 0) ⟨[],[]⟩]
def jc (m:Nat):Nat->T->T->T->T->T->T->(T->An)->An
 | 0,_,_,_,_,_,_,_=>.bad
 | n+1,x0,x1,x2,x3,x4,x5,k0 =>
  cond (decide (x4.int<x3.int))
  (aX x4 x2
  (sW m (aM x2 x4 1) x1
  (fun y0=>cond (y0.int==x0.int)
  (cond (decide ((x5.rows.length+1) * 3<=au))
  (jc m n x0 x1 x2 x3 (bq x4) (T.l (x5.rows++[[(aM x2 x4 0),(aM x2 x4 1),(aM x2 x4 2)]])) k0)
  (.bad))
  (jc m n x0 x1 x2 x3 (bq x4) (wL x5) k0))))
  (k0 (wL x5))
def zR:Nat->T->T->T->(T->An)->An
 | 0,_,_,_,_=>.bad
 | m+1,x0,x1,x2,k0 =>
  jc m m x1 x2 (wL x0) (T.i (x0.rows.length:Int)) (T.i 0) (T.l [])
  (fun y3=>k0 (wL y3))
def Qz:PS CX aD:=fF Qy (FN 98 [.one (.dz tO []),.one (AI),.one (AI)] 3 1 zR [.one (.own (KR 0 0) tO m3 [])]) Tryz.f98 ⟨98,3,28,64⟩ [L1 [0,1,0,1,1] ⟨[(1,.one (LI)),(2,.one (LI)),(7,.one (LA (KI 0) tO)),(10,.one (LD tO)),(11,.one (LI)),(12,.one (LI))],[((KI 0),.row tO m3 []),([4000000],.gone)]⟩ 6 1 jc (.exit 0) ⟨[(7,.one (LA (KI 0) tO))],[((KI 0),.row tO m3 [])]⟩]
def lV (m:Nat):Nat->T->T->T->T->T->T->T->T->T->T->T->T->T->T->T->T->T->T->T->T->T->T->T->(T->An)->(T->T->T->T->T->T->T->T->T->T->T->T->T->T->An)->An
 | 0,_,_,_,_,_,_,_,_,_,_,_,_,_,_,_,_,_,_,_,_,_,_,_,_,_=>.bad
 | n+1,x0,x1,x2,x3,x4,x5,x6,x7,x8,x9,x10,bW,gH,mh,qF,wF,wG,xE,x18,Dm,x20,x21,GH,k0,k1 =>
  cond (decide (x7.int<x6.int))
  ((fun (j4:An) =>
  aX x7 x5
  (cond ((aM x5 x7 0).int != 1)
  (j4)
  (fq m (T.l [[x8,x9,x10,(wL bW),(wL gH),mh,(wL qF),(wL wF),(wL wG),(wL xE)]]) (aM x5 x7 1)
  (fun y0=>cond ((decide (y0.int<0))==false)
  (aX y0 xE
  (zR m (wL (qE xE y0 1)) x18 x8
  (fun y1=>bX m (wL y1) (wL (aM x5 x7 2))
  (fun y2=>cond (!y2.bool)
  (k0 (T.b false))
  (j4)))))
  (k0 (T.b false))))))
  (lV m n (T.i (x0.int.toNat:Int)) (T.i (x1.int.toNat:Int)) x2 x3 x4 x5 x6 (bq x7) x8 x9 x10 bW gH mh qF wF wG xE x18 Dm x20 x21 GH k0 k1))
  (k1 (T.i (x0.int.toNat:Int)) x2 x3 x4 x8 x9 x10 bW gH mh qF wF wG xE)
def lW (m:Nat):Nat->T->T->T->T->T->T->T->T->T->T->T->T->T->T->(T->An)->An->An
 | 0,_,_,_,_,_,_,_,_,_,_,_,_,_,_,_,_=>.bad
 | n+1,x0,x1,x2,x3,x4,x5,x6,x7,x8,x9,x10,bW,gH,mh,k0,k1 =>
  cond (decide (x3.int<x2.int))
  (aX x3 x1
  (lV m n (T.i (x0.int.toNat:Int)) (T.i 0) x1 x2 x3 (aM x1 x3 1) (T.i ((aM x1 x3 1).rows.length:Int)) (T.i 0) x4 x5 x6 x7 x8 x9 x10 bW gH mh (aM x1 x3 0) (aM x1 x3 1) (aM x1 x3 2) (aM x1 x3 3) (aM x1 x3 4)
  (fun y5=>k0 y5)
  (fun y6 y7 y8 y9 nO nT nY y13 o8 sw wH vS uS BF=>lW m n (T.i (y6.int.toNat:Int)) y7 y8 (bq y9) nO nT nY y13 o8 sw wH vS uS BF k0 k1)))
  (k1 )
def CS:Nat->T->T->T->T->T->T->T->T->T->T->(T->An)->An
 | 0,_,_,_,_,_,_,_,_,_,_,_=>.bad
 | m+1,x0,x1,x2,x3,x4,x5,x6,x7,x8,x9,k0 =>
  lW m m (T.i 0) (wL x6) (T.i (x6.rows.length:Int)) (T.i 0) x0 x1 x2 (wL x3) (wL x4) x5 (wL x6) (wL x7) (wL x8) (wL x9)
  (fun y20=>k0 y20)
  (k0 (T.b true))
def Ug:PS CX aD:=fF Qz (FN 53 [.agg [AI,AI,AI,.dz tJ [],.dz tC [],AI,.dz tS [],.dz tW [],.dz tW [],.dz tB []]] 10 1 CS [.one (RB)]) Tryz.f53 ⟨53,1,50,4⟩ [L2 [0,1,1,0,0,1,1,0,0,1,0,1] ⟨[(1,EP 0),(4,EP 1),(9,.one (LD tS)),(10,.one (LI)),(11,.one (LI)),(16,.one (LD tR)),(17,.one (LI)),(18,.one (LI))],[((KI 0),.box [LI,LI,LI,LD tJ,LD tC,LI,LD tS,LD tW,LD tW,LD tB]),((KI 1),.box [LI,LD tR,LI,LD tP,LD tR]),([4000000],.gone)]⟩ 23 1 14 lV .ret ⟨[(2,.one (LB))],[]⟩ (.exit 2) ⟨[(1,EP 0),(9,.one (LD tS)),(10,.one (LI)),(11,.one (LI))],[((KI 0),.box [LI,LI,LI,LD tJ,LD tC,LI,LD tS,LD tW,LD tW,LD tB]),([4000000],.gone)]⟩,L2 [0,1,0,1] ⟨[(1,EP 0),(9,.one (LD tS)),(10,.one (LI)),(11,.one (LI))],[((KI 0),.box [LI,LI,LI,LD tJ,LD tC,LI,LD tS,LD tW,LD tW,LD tB]),([4000000],.gone)]⟩ 14 1 0 lW .ret ⟨[(2,.one (LB))],[]⟩ (.exit 0) ⟨[],[]⟩]
def cZ (m:Nat):Nat->T->T->T->T->(T->An)->An->An
 | 0,_,_,_,_,_,_=>.bad
 | n+1,x0,x1,x2,x3,k0,k1 =>
  cond (decide (x3.int<x2.int))
  (aX x3 x1
  (cond (((aM x1 x3 1).int==x0.int)==true)
  (cond (((aM x1 x3 0).int==1)==false)
  (cond ((aM x1 x3 0).int==2)
  (k0 (T.b true))
  (cZ m n x0 x1 x2 (bq x3) k0 k1))
  (k0 (T.b true)))
  (cZ m n x0 x1 x2 (bq x3) k0 k1)))
  (k1 )
def lu:Nat->T->T->(T->An)->An
 | 0,_,_,_=>.bad
 | m+1,x0,x1,k0 =>
  cond (decide ((0:Int)<=(zW 0 (zV (((bJ x0).drop 2).getD 0 dflt).int ((((bJ x0).drop 1).getD 0 dflt).rows.length:Int)))/\(zW 0 (zV (((bJ x0).drop 2).getD 0 dflt).int ((((bJ x0).drop 1).getD 0 dflt).rows.length:Int)))<=((((bJ x0).drop 1).getD 0 dflt).rows.length:Int)))
  (cond (decide ((0:Int)<=0/\0<=(zW 0 (zV (((bJ x0).drop 2).getD 0 dflt).int ((((bJ x0).drop 1).getD 0 dflt).rows.length:Int)))))
  (cZ m m x1 (T.l ((((bJ x0).drop 1).getD 0 dflt).rows.take (Int.toNat (zW 0 (zV (((bJ x0).drop 2).getD 0 dflt).int ((((bJ x0).drop 1).getD 0 dflt).rows.length:Int)))))) (T.i (((((bJ x0).drop 1).getD 0 dflt).rows.take (Int.toNat (zW 0 (zV (((bJ x0).drop 2).getD 0 dflt).int ((((bJ x0).drop 1).getD 0 dflt).rows.length:Int))))).length:Int)) (T.i 0)
  (fun y1=>k0 y1)
  (k0 (T.b false)))
  (.bad))
  (.bad)
def Ba:PS CX aD:=fF Ug (FN 99 [.BH tS [],.one (AI)] 2 1 lu [.one (RB)]) Tryz.f99 ⟨99,2,45,16⟩ [L2 [0,1,0,1,1] ⟨[(1,.one (LI)),(24,.one (LD tR)),(25,.one (LI)),(26,.one (LI))],[([4000000],.gone)]⟩ 4 1 0 cZ .ret ⟨[(4,.one (LB))],[]⟩ (.exit 0) ⟨[],[]⟩]
def je (m:Nat):Nat->T->T->T->T->T->T->T->T->T->T->T->T->T->T->T->T->T->T->T->T->(T->An)->(T->T->T->T->T->T->T->T->T->T->T->T->T->T->An)->An
 | 0,_,_,_,_,_,_,_,_,_,_,_,_,_,_,_,_,_,_,_,_,_,_=>.bad
 | n+1,x0,x1,x2,x3,x4,x5,x6,x7,x8,x9,x10,bW,gH,mh,qF,wF,wG,xE,x18,Dm,k0,k1 =>
  cond (decide (x7.int<x6.int))
  ((fun (j4:An) =>
  aX x7 x5
  (cond ((decide ((aM x5 x7 0).int>=(qF.rows.length:Int)))==false)
  (cond (decide ((0:Int)<=(aM x5 x7 0).int/\(aM x5 x7 0).int<(qF.rows.length:Int)))
  (lu m (T.l [((qF.rows.getD (Int.toNat (aM x5 x7 0).int) []).take 5)]) x18
  (fun y2=>cond (!y2.bool)
  (k0 (T.b false))
  (j4)))
  (.bad))
  (k0 (T.b false))))
  (je m n (T.i (x0.int.toNat:Int)) (T.i (x1.int.toNat:Int)) x2 x3 x4 x5 x6 (bq x7) x8 x9 x10 bW gH mh qF wF wG xE x18 Dm k0 k1))
  (k1 (T.i (x0.int.toNat:Int)) x2 x3 x4 x8 x9 x10 bW gH mh qF wF wG xE)
def jf (m:Nat):Nat->T->T->T->T->T->T->T->T->T->T->T->T->T->T->(T->An)->An->An
 | 0,_,_,_,_,_,_,_,_,_,_,_,_,_,_,_,_=>.bad
 | n+1,x0,x1,x2,x3,x4,x5,x6,x7,x8,x9,x10,bW,gH,mh,k0,k1 =>
  cond (decide (x3.int<x2.int))
  ((fun (j48:T->T->T->T->T->T->T->T->T->T->T->T->T->T->An) =>
  aX x3 x1
  (cond (!(aM x1 x3 1).bool)
  (j48 (T.i (x0.int.toNat:Int)) x1 x2 x3 x4 x5 x6 x7 x8 x9 x10 bW gH mh)
  (fq m (T.l [[x4,x5,x6,(wL x7),(wL x8),x9,(wL x10),(wL bW),(wL gH),(wL mh)]]) (aM x1 x3 0)
  (fun y0=>cond (decide (y0.int<0))
  (k0 (T.b false))
  (aX y0 mh
  (mE m (wL (qE mh y0 1)) x4
  (fun y1=>je m n (T.i (x0.int.toNat:Int)) (T.i 0) x1 x2 x3 (wL y1) (T.i (y1.rows.length:Int)) (T.i 0) x4 x5 x6 x7 x8 x9 x10 bW gH mh (aM x1 x3 0) (aM x1 x3 1)
  (fun y5=>k0 y5)
  (fun y6 y7 y8 y9 nO nT nY y13 o8 sw wH vS uS BF=>j48 (T.i (y6.int.toNat:Int)) y7 y8 y9 nO nT nY y13 o8 sw wH vS uS BF))))))))
  (fun y34 Mx KJ KL y38 y39 Fa MB PX Qs UF TW y46 y47=>jf m n (T.i (y34.int.toNat:Int)) Mx KJ (bq KL) y38 y39 Fa MB PX Qs UF TW y46 y47 k0 k1))
  (k1 )
def uZ:Nat->T->T->T->T->T->T->T->T->T->T->(T->An)->An
 | 0,_,_,_,_,_,_,_,_,_,_,_=>.bad
 | m+1,x0,x1,x2,x3,x4,x5,x6,x7,x8,x9,k0 =>
  jf m m (T.i 0) (wL x4) (T.i (x4.rows.length:Int)) (T.i 0) x0 x1 x2 (wL x3) (wL x4) x5 (wL x6) (wL x7) (wL x8) (wL x9)
  (fun y49=>k0 y49)
  (k0 (T.b true))
def LY:PS CX aD:=fF Ba (FN 54 [.agg [AI,AI,AI,.dz tJ [],.dz tC [],AI,.dz tS [],.dz tW [],.dz tW [],.dz tB []]] 10 1 uZ [.one (RB)]) Tryz.f54 ⟨54,1,56,4⟩ [L2 [0,1,1,1,1,1,0,0,1,1,0,0,1,0,1] ⟨[(1,EP 0),(4,EP 1),(10,.one (LD tC)),(11,.one (LI)),(12,.one (LI)),(33,.one (LZ tI)),(34,.one (LI)),(35,.one (LI))],[((KI 0),.box [LI,LI,LI,LD tJ,LD tC,LI,LD tS,LD tW,LD tW,LD tB]),((KI 1),.box [LI,LB]),([4000000],.gone)]⟩ 20 1 14 je .ret ⟨[(2,.one (LB))],[]⟩ (.exit 2) ⟨[(1,EP 0),(10,.one (LD tC)),(11,.one (LI)),(12,.one (LI))],[((KI 0),.box [LI,LI,LI,LD tJ,LD tC,LI,LD tS,LD tW,LD tW,LD tB]),([4000000],.gone)]⟩,L2 [0,1,0,1] ⟨[(1,EP 0),(10,.one (LD tC)),(11,.one (LI)),(12,.one (LI))],[((KI 0),.box [LI,LI,LI,LD tJ,LD tC,LI,LD tS,LD tW,LD tW,LD tB]),([4000000],.gone)]⟩ 14 1 0 jf .ret ⟨[(2,.one (LB))],[]⟩ (.exit 0) ⟨[],[]⟩]
def jg (m:Nat):Nat->T->T->T->T->(T->An)->An->An
 | 0,_,_,_,_,_,_=>.bad
 | n+1,x0,x1,x2,x3,k0,k1 =>
  cond (decide (x3.int<x2.int))
  (aX x3 x0
  (cond (x1.bool==(aM x0 x3 0).bool)
  (k0 x3)
  (jg m n x0 x1 x2 (bq x3) k0 k1)))
  (k1 )
def lM:Nat->T->T->(T->An)->An
 | 0,_,_,_=>.bad
 | m+1,x0,x1,k0 =>
  jg m m (wL x0) x1 (T.i (x0.rows.length:Int)) (T.i 0)
  (fun y0=>k0 y0)
  (k0 (T.i (-1)))
def xk:PS CX aD:=fF LY (FN 55 [.one (.dz [.sc (.bool)] []),.one (AB)] 2 1 lM [.one (RI)]) Tryz.f55 ⟨55,2,19,16⟩ [L2 [0,1,0,1] ⟨[(0,.one (LD [.sc (.bool)])),(1,.one (LB)),(7,.one (LI)),(8,.one (LI))],[([4000000],.gone)]⟩ 4 1 0 jg .ret ⟨[(4,.one (LI))],[]⟩ (.exit 0) ⟨[],[]⟩]
def EO:Nat->T->T->T->T->T->T->T->T->T->T->(T->An)->An
 | 0,_,_,_,_,_,_,_,_,_,_,_=>.bad
 | m+1,x0,x1,x2,x3,x4,x5,x6,x7,x8,x9,k0 =>
  sZ m x0 x1 x2 (wL x3) (wL x4) x5 (wL x6) (wL x7) (wL x8) (wL x9)
  (fun y0=>wT m x0 x1 x2 (wL x3) (wL x4) x5 (wL x6) (wL x7) (wL x8) (wL x9)
  (fun y1=>zQ m x0 x1 x2 (wL x3) (wL x4) x5 (wL x6) (wL x7) (wL x8) (wL x9)
  (fun y2=>CS m x0 x1 x2 (wL x3) (wL x4) x5 (wL x6) (wL x7) (wL x8) (wL x9)
  (fun y3=>uZ m x0 x1 x2 (wL x3) (wL x4) x5 (wL x6) (wL x7) (wL x8) (wL x9)
  (fun y4=>lM m (T.l [[y0],[y1],[y2],[y3],[y4]]) (T.b false)
  (fun y5=>k0 (T.i (IntKind.i64.wrap (1+y5.int)))))))))
def Wh:PS CX aD:=fF xk (FN 20 [.agg [AI,AI,AI,.dz tJ [],.dz tC [],AI,.dz tS [],.dz tW [],.dz tW [],.dz tB []]] 10 1 EO [.one (RI)]) Tryz.f20 ⟨20,1,18,4⟩
def eP (m:Nat):Nat->T->T->T->T->(T->An)->An
 | 0,_,_,_,_,_=>.bad
 | n+1,x0,x1,x2,x3,k0 =>
  cond (decide (x3.int<x2.int))
  (aX x3 x1
  (eP m n (T.i (IntKind.i64.wrap (x0.int+((aM x1 x3 4).rows.length:Int)))) x1 x2 (bq x3) k0))
  (k0 x0)
def rE:Nat->T->(T->An)->An
 | 0,_,_=>.bad
 | m+1,x0,k0 =>
  eP m m (T.i 0) (((bJ x0).drop 6).getD 0 dflt) (T.i ((((bJ x0).drop 6).getD 0 dflt).rows.length:Int)) (T.i 0)
  (fun y0=>k0 y0)
def Ei:PS CX aD:=fF Wh (FN 43 [.BH [.sc (.int .i64),.sc (.int .i64),.sc (.int .i64),.sl tJ,.sl tC,.sc (.int .i64),.sl tS,.sl tW,.sl tW,.sl tB] []] 1 1 rE [.one (RI)]) Tryz.f43 ⟨43,1,22,4⟩ [L1 [0,1,0,1,1] ⟨[(3,.one (LI)),(9,.one (LD tS)),(10,.one (LI)),(11,.one (LI))],[([4000000],.gone)]⟩ 4 1 eP (.exit 0) ⟨[(3,.one (LI))],[]⟩]
def dS (m:Nat):Nat->T->T->T->T->(T->An)->An
 | 0,_,_,_,_,_=>.bad
 | n+1,x0,x1,x2,x3,k0 =>
  cond (decide (x3.int<x2.int))
  (aX x3 x1
  (cond ((aM x1 x3 2).int==1)
  (dS m n (bq x0) x1 x2 (bq x3) k0)
  (dS m n x0 x1 x2 (bq x3) k0)))
  (k0 x0)
def tu:Nat->T->(T->An)->An
 | 0,_,_=>.bad
 | m+1,x0,k0 =>
  dS m m (T.i 0) (((bJ x0).drop 3).getD 0 dflt) (T.i ((((bJ x0).drop 3).getD 0 dflt).rows.length:Int)) (T.i 0)
  (fun y2=>k0 y2)
def Fp:PS CX aD:=fF Ei (FN 44 [.BH [.sc (.int .i64),.sc (.int .i64),.sc (.int .i64),.sl tJ,.sl tC,.sc (.int .i64),.sl tS,.sl tW,.sl tW,.sl tB] []] 1 1 tu [.one (RI)]) Tryz.f44 ⟨44,1,23,4⟩ [L1 [0,1,0,1,1] ⟨[(3,.one (LI)),(10,.one (LD tJ)),(11,.one (LI)),(12,.one (LI))],[([4000000],.gone)]⟩ 4 1 dS (.exit 0) ⟨[(3,.one (LI))],[]⟩]
def Bb:Nat->T->T->T->T->T->T->T->T->T->T->(T->An)->An
 | 0,_,_,_,_,_,_,_,_,_,_,_=>.bad
 | m+1,x0,x1,x2,x3,x4,x5,x6,x7,x8,x9,k0 =>
  rE m (T.l [[x0,x1,x2,(wL x3),(wL x4),x5,(wL x6),(wL x7),(wL x8),(wL x9)]])
  (fun y0=>tu m (T.l [[x0,x1,x2,(wL x3),(wL x4),x5,(wL x6),(wL x7),(wL x8),(wL x9)]])
  (fun y1=>k0 (T.i (IntKind.i64.wrap (y0.int+y1.int)))))
def Wi:PS CX aD:=fF Fp (FN 13 [.agg [AI,AI,AI,.dz tJ [],.dz tC [],AI,.dz tS [],.dz tW [],.dz tW [],.dz tB []]] 10 1 Bb [.one (RI)]) Tryz.f13 ⟨13,1,6,4⟩
def mY (m:Nat):Nat->T->T->T->T->T->T->T->T->T->T->T->T->T->(T->An)->An
 | 0,_,_,_,_,_,_,_,_,_,_,_,_,_,_=>.bad
 | n+1,x0,x1,x2,x3,x4,x5,x6,x7,x8,x9,x10,bW,gH,k0 =>
  nu x2 x6
  ((fun (j14:T->An) =>
  aX x2 x6
  (cond ((qE x6 x2 2).int==1)
  (j14 (bq x1))
  (j14 x1)))
  (fun y13=>mY m n (T.i (x0.int.toNat:Int)) y13 (bq x2) x3 x4 x5 x6 x7 x8 x9 x10 bW gH k0))
  (k0 x1)
def mZ (m:Nat):Nat->T->T->T->T->T->T->T->T->T->T->T->T->T->(T->T->T->T->T->T->T->T->T->T->T->T->An)->An
 | 0,_,_,_,_,_,_,_,_,_,_,_,_,_,_=>.bad
 | n+1,x0,x1,x2,x3,x4,x5,x6,x7,x8,x9,x10,bW,gH,k0 =>
  nu x2 x9
  (aX x2 x9
  (mZ m n (T.i (x0.int.toNat:Int)) (T.i (IntKind.i64.wrap (x1.int+((qE x9 x2 4).rows.length:Int)))) (bq x2) x3 x4 x5 x6 x7 x8 x9 x10 bW gH k0))
  (k0 (T.i (x0.int.toNat:Int)) x1 x3 x4 x5 x6 x7 x8 x9 x10 bW gH)
def ER:Nat->T->T->T->T->T->T->T->T->T->T->(T->An)->An
 | 0,_,_,_,_,_,_,_,_,_,_,_=>.bad
 | m+1,x0,x1,x2,x3,x4,x5,x6,x7,x8,x9,k0 =>
  mZ m m (T.i 0) (T.i 0) (T.i 0) x0 x1 x2 (wL x3) (wL x4) x5 (wL x6) (wL x7) (wL x8) (wL x9)
  (fun y0 y1 y2 y3 y4 y5 y6 y7 y8 y9 nO nT=>mY m m (T.i (y0.int.toNat:Int)) y1 (T.i 0) y2 y3 y4 y5 y6 y7 y8 y9 nO nT
  (fun sw=>k0 sw))
def KM:PS CX aD:=fF Wi (FN 23 [.agg [AI,AI,AI,.dz tJ [],.dz tC [],AI,.dz tS [],.dz tW [],.dz tW [],.dz tB []]] 10 1 ER [.one (RI)]) Tryz.f23 ⟨23,1,41,4⟩ [L1 [0,1,0,1,1,1] ⟨[(1,EP 0),(3,.one (LI)),(5,.one (LI))],[((KI 0),.box [LI,LI,LI,LD tJ,LD tC,LI,LD tS,LD tW,LD tW,LD tB]),([4000000],.gone)]⟩ 13 1 mY (.exit 2) ⟨[(3,.one (LI))],[]⟩,L1 [0,1,0,1,1] ⟨[(1,EP 0),(3,.one (LI)),(4,.one (LI))],[((KI 0),.box [LI,LI,LI,LD tJ,LD tC,LI,LD tS,LD tW,LD tW,LD tB]),([4000000],.gone)]⟩ 13 12 mZ (.exit 0) ⟨[(1,EP 0),(3,.one (LI))],[((KI 0),.box [LI,LI,LI,LD tJ,LD tC,LI,LD tS,LD tW,LD tW,LD tB]),([4000000],.gone)]⟩]
def iA (m:Nat):Nat->T->T->T->T->T->T->T->T->T->T->T->T->T->T->T->T->T->T->T->T->T->T->T->T->(T->T->T->T->T->T->T->T->T->T->T->T->T->T->T->T->T->T->T->T->T->T->T->An)->An
 | 0,_,_,_,_,_,_,_,_,_,_,_,_,_,_,_,_,_,_,_,_,_,_,_,_,_=>.bad
 | n+1,x0,x1,x2,x3,x4,x5,x6,x7,x8,x9,x10,bW,gH,mh,qF,wF,wG,xE,x18,Dm,x20,x21,GH,x23,k0 =>
  nu x3 x20
  (aX x3 x20
  (cond (decide ((Int.toNat x3.int)<x20.rows.length))
  (iA m n (T.i (x0.int.toNat:Int)) (T.i (x1.int.toNat:Int)) (T.i (IntKind.i64.wrap (x2.int+((aM x20 x3 4).rows.length:Int)))) (bq x3) x4 x5 x6 x7 x8 x9 x10 bW (wL gH) (wL mh) (wL qF) (wL wF) (wL wG) (wL xE) (wL x18) (wL Dm) (wL x20) (wL x21) (wL GH) (wL x23) k0)
  (.bad)))
  (k0 (T.i (x0.int.toNat:Int)) (T.i (x1.int.toNat:Int)) x2 x4 x5 x6 x7 x8 x9 x10 bW (wL gH) (wL mh) (wL qF) (wL wF) (wL wG) (wL xE) (wL x18) (wL Dm) (wL x20) (wL x21) (wL GH) (wL x23))
def yH:Nat->T->(T->An)->An
 | 0,_,_=>.bad
 | m+1,x0,k0 =>
  Iu m (wL x0)
  (fun y0=>cond y0.bool
  (k0 (T.b true))
  (sQ m (wL x0)
  (fun y1 y2 y3 y4 y5 y6 y7 y8 y9 nO=>CR m y1 y2 y3 (wL y4) (wL y5) y6 (wL y7) (wL y8) (wL y9) (wL nO)
  (fun nT nY y13 o8 sw wH vS uS BF y20=>iA m m (T.i 0) (T.i 0) (T.i 0) (T.i 0) y1 y2 y3 y6 nT nY y13 wH (wL y4) (wL y5) (wL y7) (wL y8) (wL y9) (wL nO) (wL o8) (wL sw) (wL vS) (wL uS) (wL BF) (wL y20)
  (fun y21 y22 y23 y24 y25 JC y27 y28 y29 Gg y31 y32 Lp y34 Mx KJ KL y38 y39 Fa MB PX Qs=>cond (((MB.rows.length:Int)==0)==true)
  (cond (((Fa.rows.length:Int)==(y34.rows.length:Int))==true)
  (EO m y28 y29 Gg (wL y38) (wL y39) y31 (wL Fa) (wL MB) (wL PX) (wL Qs)
  (fun UF=>cond ((UF.int==0)==true)
  (Bb m y28 y29 Gg (wL y38) (wL y39) y31 (wL Fa) (wL MB) (wL PX) (wL Qs)
  (fun TW=>cond ((decide (TW.int>=y23.int))==true)
  (Bb m y28 y29 Gg (wL y38) (wL y39) y31 (wL Fa) (wL MB) (wL PX) (wL Qs)
  (fun y46=>ER m y28 y29 Gg (wL y38) (wL y39) y31 (wL Fa) (wL MB) (wL PX) (wL Qs)
  (fun y47=>k0 (T.b (y46.int==y47.int)))))
  (k0 (T.b false))))
  (k0 (T.b false))))
  (k0 (T.b false)))
  (k0 (T.b false)))))))
def uI:Fs:=⟨4,[.one (.fz tU [])],fun m vs k=>ap 1 (yH m) vs (lm 1 fun z=>k (Yl ⟨[.one (RB)],[[none]],[none]⟩ z))⟩
def JW:List Ls:=[⟨[0,1,0,1,1,1,1,1],⟨[(3,EP 0),(4,EP 1),(5,.one (LI)),(6,.one (LI))],[((KI 0),.box [LI,LI,LI,LA (KI 2) tJ,LA (KI 3) tC,LI,LA (KI 4) tS,LA (KI 5) tW,LA (KI 6) tW,LA (KI 7) tB]),((KI 1),.box [LI,LI,LI,LA (KI 8) tJ,LA (KI 9) tC,LI,LA (KI 10) tS,LA (KI 11) tW,LA (KI 12) tW,LA (KI 13) tB]),((KI 2),.row tJ m4 []),((KI 3),.row tC m2 []),((KI 4),.row tS mS []),((KI 5),.row tW m5 []),((KI 6),.row tW m5 []),((KI 7),.row tB m2 []),((KI 8),.row tJ [.F,.F,.F,.O [.F]] []),((KI 9),.row tC m2 []),((KI 10),.row tS mS []),((KI 11),.row tW m5 []),((KI 12),.row tW m5 []),((KI 13),.row tB m2 [])]⟩,fun m n vs k=>ap 24 (iA m n) vs (lm 23 fun z=>k (.exit 0) (AX ⟨[(3,EP 0),(4,EP 1),(5,.one (LI))],[((KI 0),.box [LI,LI,LI,LA (KI 2) tJ,LA (KI 3) tC,LI,LA (KI 4) tS,LA (KI 5) tW,LA (KI 6) tW,LA (KI 7) tB]),((KI 1),.box [LI,LI,LI,LA (KI 8) tJ,LA (KI 9) tC,LI,LA (KI 10) tS,LA (KI 11) tW,LA (KI 12) tW,LA (KI 13) tB]),((KI 2),.row tJ m4 []),((KI 3),.row tC m2 []),((KI 4),.row tS mS []),((KI 5),.row tW m5 []),((KI 6),.row tW m5 []),((KI 7),.row tB m2 []),((KI 8),.row tJ [.F,.F,.F,.O [.F]] []),((KI 9),.row tC m2 []),((KI 10),.row tS mS []),((KI 11),.row tW m5 []),((KI 12),.row tW m5 []),((KI 13),.row tB m2 [])]⟩ z))⟩]
theorem JX:Oi CX aD (uI::KM.l)/\Ym CX aD uI:=fnG KM.g uI Tryz.f4 ⟨4,1,60,4⟩ JW (fun _ _=>rfl) (fun _ _ _=>by kernel_rfl) ⟨fun _ _ _=>rfl,trivial⟩ ⟨fun _ _ _ _ _ _=>by kernel_rfl,trivial⟩ (fun _ _ _ _ _=>by kernel_rfl)
end
end Go.Proofs.YtpchnmbcbcfhjaaGreat

