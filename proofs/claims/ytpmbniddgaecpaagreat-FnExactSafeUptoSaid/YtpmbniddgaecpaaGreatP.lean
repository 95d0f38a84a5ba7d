/- A part of the proof: texts XP: see the last part's opening words. -/
import Derived.Test.YtpmbniddgaecpaaGreatH
set_option linter.unusedVariables false
set_option linter.unusedSimpArgs false
set_option linter.unnecessarySimpa false
namespace Go.Proofs.YtpmbniddgaecpaaGreat
open Go Go.E Go.Proofs
def Iz:Nat->T->(T->An)->An
 | 0,_,_=>.bad
 | m+1,x0,k0=>k0 (T.l (zH x0.rows))
noncomputable def CR:List Arg:=[.one (.own tI [.F] [])]
def KM (m:Nat) (vs:List T) (k:fZ->An):An:=Iz m (vs.headD dflt) (fun z0=>k ⟨[],[[some (tI,[.F],z0.rows)]],[]⟩)
theorem IB (m:Nat) : ∀ vs k,mo CX av m 90 (fArgs CR vs) k=KM m vs k:=by
 intro vs k
 cases m with
 | zero=>rfl
 | succ m =>
  refine Eq.trans (b:=(Iu (fArgs CR vs)).bind k) (by kernel_rfl) ?_
  rfl
noncomputable def CS:Fs:=⟨90,CR,KM⟩
noncomputable def KN:List Fs:=CS::[]
theorem WG:aF CX av KN/\aW CX av CS:=⟨qo ahW (x:=CS) IB,IB⟩
def slices_Compact:Nat->T->(T->An)->An
 | 0,_,_=>.bad
 | m+1,x0,k0=>k0 (T.l (pO x0.rows))
noncomputable def uY:List Arg:=[.one (.own tI [.F] [])]
def Ec (m:Nat) (vs:List T) (k:fZ->An):An:=slices_Compact m (vs.headD dflt) (fun z0=>k ⟨[.one (.own [7000000] tI [.F] z0.rows)],[[none]],[]⟩)
theorem Bw (m:Nat) : ∀ vs k,mo CX av m 92 (fArgs uY vs) k=Ec m vs k:=by
 intro vs k
 cases m with
 | zero=>rfl
 | succ m =>
  refine Eq.trans (b:=(wJ (fArgs uY vs)).bind k) (by kernel_rfl) ?_
  rfl
noncomputable def uZ:Fs:=⟨92,uY,Ec⟩
noncomputable def Ed:List Fs:=uZ::KN
theorem Pt:aF CX av Ed/\aW CX av uZ:=⟨qo WG.1 (x:=uZ) Bw,Bw⟩
def eD:Nat->T->(T->An)->An
 | 0,_,_=>.bad
 | m+1,x0,k0=>cond (decide (x0.rows.length * 3<=aS)) (k0 (T.l x0.rows)) .bad
noncomputable def gq:List Arg:=[.one (.dz tO [])]
def mq (m:Nat) (vs:List T) (k:fZ->An):An:=eD m (vs.headD dflt) (fun z0=>k ⟨[.one (.own [7000000] tO m3 z0.rows)],[[none]],[]⟩)
theorem lQ (m:Nat) : ∀ vs k,mo CX av m 176 (fArgs gq vs) k=mq m vs k:=by
 intro vs k
 cases m with
 | zero=>rfl
 | succ m =>
  refine Eq.trans (b:=((uW tO) (fArgs gq vs)).bind k) (by kernel_rfl) ?_
  refine Eq.trans (b:=(cond (decide ((vs.headD dflt).rows.length * 3<=aS)) (R3.ok ⟨[.one (.own [7000000] tO m3 (vs.headD dflt).rows)],[[none]],[]⟩) .bad).bind k) (by kernel_rfl) ?_
  rw [iL]; rfl
noncomputable def gu:Fs:=⟨176,gq,mq⟩
noncomputable def mD:List Fs:=gu::Ed
theorem sK:aF CX av mD/\aW CX av gu:=⟨qo Pt.1 (x:=gu) lQ,lQ⟩
def dG:Nat->T->(T->An)->An
 | 0,_,_=>.bad
 | m+1,x0,k0=>cond (decide (x0.rows.length * 2<=aS)) (k0 (T.l x0.rows)) .bad
noncomputable def fq:List Arg:=[.one (.dz tP [])]
def jF (m:Nat) (vs:List T) (k:fZ->An):An:=dG m (vs.headD dflt) (fun z0=>k ⟨[.one (.own [7000000] tP m2 z0.rows)],[[none]],[]⟩)
theorem jy (m:Nat) : ∀ vs k,mo CX av m 213 (fArgs fq vs) k=jF m vs k:=by
 intro vs k
 cases m with
 | zero=>rfl
 | succ m =>
  refine Eq.trans (b:=((uW tP) (fArgs fq vs)).bind k) (by kernel_rfl) ?_
  refine Eq.trans (b:=(cond (decide ((vs.headD dflt).rows.length * 2<=aS)) (R3.ok ⟨[.one (.own [7000000] tP m2 (vs.headD dflt).rows)],[[none]],[]⟩) .bad).bind k) (by kernel_rfl) ?_
  rw [iL]; rfl
noncomputable def fu:Fs:=⟨213,fq,jF⟩
noncomputable def jG:List Fs:=fu::mD
theorem qw:aF CX av jG/\aW CX av fu:=⟨qo sK.1 (x:=fu) jy,jy⟩
def fE:Nat->T->T->T->(T->An)->An
 | 0,_,_,_,_=>.bad
 | m+1,x0,x1,x2,k0=>cond (decide (0<=x1.int/\x1.int<=(x0.rows.length:Int))&&decide (0<x2.rows.length)&&decide ((x0.rows.length+x2.rows.length) * 2<=aS)) (k0 (T.l (x0.rows.take x1.int.toNat++x2.rows++x0.rows.drop x1.int.toNat))) .bad
noncomputable def eG:List Arg:=[.one (.own tP m2 []),.one (AI),.one (.own tP m2 [])]
def jA (m:Nat) (vs:List T) (k:fZ->An):An:=fE m (vs.headD dflt) (vs.tail.headD dflt) (vs.tail.tail.headD dflt) (fun z0=>k ⟨[.one (.own [7000000] tP m2 z0.rows)],[[none],[none],[none]],[]⟩)
theorem jr (m:Nat) : ∀ vs k,mo CX av m 236 (fArgs eG vs) k=jA m vs k:=by
 intro vs k
 cases m with
 | zero=>rfl
 | succ m =>
  refine Eq.trans (b:=((zI tP) (fArgs eG vs)).bind k) (by kernel_rfl) ?_
  refine Eq.trans (b:=(cond (decide (0<=(vs.tail.headD dflt).int/\(vs.tail.headD dflt).int<=((vs.headD dflt).rows.length:Int))&&decide (0<(vs.tail.tail.headD dflt).rows.length)&&decide (((vs.headD dflt).rows.length+(vs.tail.tail.headD dflt).rows.length) * 2<=aS)) (R3.ok ⟨[.one (.own [7000000] tP m2 ((vs.headD dflt).rows.take (vs.tail.headD dflt).int.toNat++(vs.tail.tail.headD dflt).rows++(vs.headD dflt).rows.drop (vs.tail.headD dflt).int.toNat))],[[none],[none],[none]],[]⟩) .bad).bind k) (by kernel_rfl) ?_
  rw [iL]; rfl
noncomputable def eH:Fs:=⟨236,eG,jA⟩
noncomputable def jB:List Fs:=eH::jG
theorem pR:aF CX av jB/\aW CX av eH:=⟨qo qw.1 (x:=eH) jr,jr⟩
def Bz:Nat->T->T->(T->An)->An
 | 0,_,_,_=>.bad
 | m+1,x0,x1,k0=>cond (decide (x0.rows.length * 2<=aS)) (k0 (T.l (Bv x0.rows x1))) .bad
noncomputable def CU:List Arg:=[.one (.dz tP []),.one (AS)]
def KO (m:Nat) (vs:List T) (k:fZ->An):An:=Bz m (vs.headD dflt) (vs.tail.headD dflt) (fun z0=>k ⟨[.one (.own [7000000] [.sc .str,.sc .str] m2 z0.rows)],[[none],[none]],[]⟩)
theorem IC (m:Nat) : ∀ vs k,mo CX av m 215 (fArgs CU vs) k=KO m vs k:=by
 intro vs k
 cases m with
 | zero=>rfl
 | succ m =>
  refine Eq.trans (b:=(zK (fArgs CU vs)).bind k) (by kernel_rfl) ?_
  refine Eq.trans (b:=(cond (decide ((vs.headD dflt).rows.length * 2<=aS)) (R3.ok ⟨[.one (.own [7000000] [.sc .str,.sc .str] m2 (Bv (vs.headD dflt).rows (vs.tail.headD dflt)))],[[none],[none]],[]⟩) .bad).bind k) (by kernel_rfl) ?_
  rw [iL]; rfl
noncomputable def CV:Fs:=⟨215,CU,KO⟩
noncomputable def KP:List Fs:=CV::jB
theorem WH:aF CX av KP/\aW CX av CV:=⟨qo pR.1 (x:=CV) IC,IC⟩
def bU:Nat->T->T->T->(T->An)->An
 | 0,_,_,_,_=>.bad
 | m+1,x0,x1,x2,k0=>cond (decide (0<=x1.int/\x1.int<x2.int/\x2.int<=(x0.rows.length:Int))) (k0 (T.l (x0.rows.take x1.int.toNat++x0.rows.drop x2.int.toNat))) .bad
noncomputable def fF:List Arg:=[.one (.own tR m3 []),.one (AI),.one (AI)]
def kG (m:Nat) (vs:List T) (k:fZ->An):An:=bU m (vs.headD dflt) (vs.tail.headD dflt) (vs.tail.tail.headD dflt) (fun z0=>k ⟨[.one (.own [7000000] tR m3 z0.rows)],[[none],[none],[none]],[]⟩)
theorem jH (m:Nat) : ∀ vs k,mo CX av m 178 (fArgs fF vs) k=kG m vs k:=by
 intro vs k
 cases m with
 | zero=>rfl
 | succ m =>
  refine Eq.trans (b:=((zJ tR) (fArgs fF vs)).bind k) (by kernel_rfl) ?_
  refine Eq.trans (b:=(cond (decide (0<=(vs.tail.headD dflt).int/\(vs.tail.headD dflt).int<(vs.tail.tail.headD dflt).int/\(vs.tail.tail.headD dflt).int<=((vs.headD dflt).rows.length:Int))) (R3.ok ⟨[.one (.own [7000000] tR m3 ((vs.headD dflt).rows.take (vs.tail.headD dflt).int.toNat++(vs.headD dflt).rows.drop (vs.tail.tail.headD dflt).int.toNat))],[[none],[none],[none]],[]⟩) .bad).bind k) (by kernel_rfl) ?_
  rw [iL]; rfl
noncomputable def fG:Fs:=⟨178,fF,kG⟩
noncomputable def kH:List Fs:=fG::KP
theorem qI:aF CX av kH/\aW CX av fG:=⟨qo WH.1 (x:=fG) jH,jH⟩
def yx:Nat->T->T->T->T->T->T->T->T->T->T->(T->An)->An
 | 0,_,_,_,_,_,_,_,_,_,_,_=>.bad
 | m+1,x0,x1,x2,x3,x4,x5,x6,x7,x8,x9,k0=>cond (decide ((uX x6.rows).length<=aS)) (k0 (T.b (nsB (uX x6.rows)))) .bad
noncomputable def zL:List Arg:=[.agg [AI,AI,AI,.dz tJ [],.dz tC [],AI,.dz tS [],.dz tW [],.dz tW [],.dz tB []]]
def IE (m:Nat) (vs:List T) (k:fZ->An):An:=yx m (vs.headD dflt) (vs.tail.headD dflt) (vs.tail.tail.headD dflt) (vs.tail.tail.tail.headD dflt) (vs.tail.tail.tail.tail.headD dflt) (vs.tail.tail.tail.tail.tail.headD dflt) (vs.tail.tail.tail.tail.tail.tail.headD dflt) (vs.tail.tail.tail.tail.tail.tail.tail.headD dflt) (vs.tail.tail.tail.tail.tail.tail.tail.tail.headD dflt) (vs.tail.tail.tail.tail.tail.tail.tail.tail.tail.headD dflt) (fun z0=>k ⟨[.one (.sc .bool z0)],[List.replicate 10 none],[]⟩)
theorem GL (m:Nat) : ∀ vs k,mo CX av m 13 (fArgs zL vs) k=IE m vs k:=by
 intro vs k
 cases m with
 | zero=>rfl
 | succ m =>
  refine Eq.trans (b:=(wK (fArgs zL vs)).bind k) (by kernel_rfl) ?_
  refine Eq.trans (b:=(cond (decide ((uX (vs.tail.tail.tail.tail.tail.tail.headD dflt).rows).length<=aS)) (R3.ok ⟨[.one (.sc .bool (.b (nsB (uX (vs.tail.tail.tail.tail.tail.tail.headD dflt).rows))))],[List.replicate 10 none],[]⟩) .bad).bind k) (by kernel_rfl) ?_
  rw [iL]; rfl
noncomputable def zM:Fs:=⟨13,zL,IE⟩
noncomputable def IG:List Fs:=zM::kH
theorem UG:aF CX av IG/\aW CX av zM:=⟨qo qI.1 (x:=zM) GL,GL⟩
noncomputable def Kg:Nat->T->T->T->T->(T->An)->An
 | 0,_,_,_,_,_=>.bad
 | m+1,x0,x1,x2,x3,k0 =>
  cond (decide ((IntKind.i64.wrap (x3.int-(x1.str.size:Int)))<0))
  (k0 (T.i (-1)))
  (cond (decide ((IntKind.i64.wrap ((IntKind.i64.wrap (x3.int-(x1.str.size:Int)))-(x2.str.size:Int)))<0))
  (k0 (T.i (-1)))
  (k0 (T.i (IntKind.i64.wrap ((IntKind.i64.wrap (x3.int-(x1.str.size:Int)))-(x2.str.size:Int))))))
noncomputable def II:Fs:=⟨140,[.agg [AI,AS,AS],.one (AI)],fun m vs k=>ap 4 (Kg m) vs (lm 1 fun z=>k (bg ⟨[.one (RI)],[[none,none,none],[none]],[none,none]⟩ z))⟩
noncomputable def QD:List Fs:=II::IG
theorem ab0:aF CX av QD/\aW CX av II:=dP UG.1 II Tryz.f140 ⟨140,2,20,16⟩ [] (fun _ _=>rfl) (fun _ _ _=>by kernel_rfl) trivial trivial (fun _ _ _ _ _=>by kernel_rfl)
noncomputable def mM (m:Nat):Nat->T->T->T->(T->An)->(T->An)->An
 | 0,_,_,_,_,_=>.bad
 | n+1,x0,x1,x2,k0,k1 =>
  cond (decide (x2.int<(x0.rows.length:Int)))
  (cond (decide ((0:Int)<=x2.int/\x2.int<(x0.rows.length:Int)))
  (Kg m ((x0.rows.getD (Int.toNat x2.int) []).getD 0 dflt) ((x0.rows.getD (Int.toNat x2.int) []).getD 1 dflt) ((x0.rows.getD (Int.toNat x2.int) []).getD 2 dflt) x1
  (fun y0=>cond (decide (y0.int<0))
  (k0 (T.i (-1)))
  (mM m n x0 y0 (T.i (IntKind.i64.wrap (x2.int+1))) k0 k1)))
  (.bad))
  (k1 x1)
noncomputable def rE:Nat->T->T->(T->An)->An
 | 0,_,_,_=>.bad
 | m+1,x0,x1,k0 =>
  cond (decide ((IntKind.i64.wrap (x1.int-(x0.rows.length:Int)))<0))
  (k0 (T.i (-1)))
  (mM m m (T.l x0.rows) (T.i (IntKind.i64.wrap (x1.int-(x0.rows.length:Int)))) (T.i 0)
  (fun y1=>k0 y1)
  (fun y2=>k0 y2))
noncomputable def Fz:Fs:=⟨96,[.one (.dz tO []),.one (AI)],fun m vs k=>ap 2 (rE m) vs (lm 1 fun z=>k (bg ⟨[.one (RI)],[[none],[none]],[none,none]⟩ z))⟩
noncomputable def ZX:List Ls:=[⟨[0,1,0,1,1,1],⟨[(0,.one (LD tO)),(1,.one (LI)),(5,.one (LI))],[([4000000],.gone)]⟩,fun m n vs k=>ap 3 (mM m n) vs (lm 1 fun z=>k .ret (aB ⟨[(4,.one (LI))],[]⟩ z)) (lm 1 fun z=>k (.exit 0) (aB ⟨[(1,.one (LI))],[]⟩ z))⟩]
noncomputable def NT:List Fs:=Fz::QD
theorem ZY:aF CX av NT/\aW CX av Fz:=dP ab0.1 Fz Tryz.f96 ⟨96,2,27,16⟩ ZX (fun _ _=>rfl) (fun _ _ _=>by kernel_rfl) ⟨fun _ _ _=>rfl,trivial⟩ ⟨fun _ _ _ _ _ _=>by kernel_rfl,trivial⟩ (fun _ _ _ _ _=>by kernel_rfl)
noncomputable def BA:Nat->T->T->(T->An)->An
 | 0,_,_,_=>.bad
 | m+1,x0,x1,k0 =>
  cond (decide ((IntKind.i64.wrap (x1.int-(x0.rows.length:Int)))<0))
  (k0 (T.i (-1)))
  (k0 (T.i (IntKind.i64.wrap (x1.int-(x0.rows.length:Int)))))
noncomputable def CY:Fs:=⟨137,[.one (.dz tI []),.one (AI)],fun m vs k=>ap 2 (BA m) vs (lm 1 fun z=>k (bg ⟨[.one (RI)],[[none],[none]],[none,none]⟩ z))⟩
noncomputable def KQ:List Fs:=CY::NT
theorem WI:aF CX av KQ/\aW CX av CY:=dP ZY.1 CY Tryz.f137 ⟨137,2,12,16⟩ [] (fun _ _=>rfl) (fun _ _ _=>by kernel_rfl) trivial trivial (fun _ _ _ _ _=>by kernel_rfl)
noncomputable def FC:Nat->T->T->T->T->T->(T->An)->An
 | 0,_,_,_,_,_,_=>.bad
 | m+1,x0,x1,x2,x3,x4,k0 =>
  rE m (T.l x1.rows) x4
  (fun y0=>cond (decide (y0.int<0))
  (k0 (T.i (-1)))
  (BA m (T.l x3.rows) y0
  (fun y1=>cond (decide (y1.int<0))
  (k0 (T.i (-1)))
  (k0 y1))))
noncomputable def FD:Fs:=⟨93,[.agg [AI,.dz tO [],AI,.dz tI []],.one (AI)],fun m vs k=>ap 5 (FC m) vs (lm 1 fun z=>k (bg ⟨[.one (RI)],[[none,none,none,none],[none]],[none,none]⟩ z))⟩
noncomputable def NU:List Fs:=FD::KQ
theorem Z0:aF CX av NU/\aW CX av FD:=dP WI.1 FD Tryz.f93 ⟨93,2,18,16⟩ [] (fun _ _=>rfl) (fun _ _ _=>by kernel_rfl) trivial trivial (fun _ _ _ _ _=>by kernel_rfl)
noncomputable def kQ (m:Nat):Nat->T->T->T->(T->An)->(T->An)->An
 | 0,_,_,_,_,_=>.bad
 | n+1,x0,x1,x2,k0,k1 =>
  cond (decide (x2.int<(x0.rows.length:Int)))
  (cond (decide ((0:Int)<=x2.int/\x2.int<(x0.rows.length:Int)))
  (FC m ((x0.rows.getD (Int.toNat x2.int) []).getD 0 dflt) (T.l ((x0.rows.getD (Int.toNat x2.int) []).getD 1 dflt).rows) ((x0.rows.getD (Int.toNat x2.int) []).getD 2 dflt) (T.l ((x0.rows.getD (Int.toNat x2.int) []).getD 3 dflt).rows) x1
  (fun y0=>cond (decide (y0.int<0))
  (k0 (T.i (-1)))
  (kQ m n x0 y0 (T.i (IntKind.i64.wrap (x2.int+1))) k0 k1)))
  (.bad))
  (k1 x1)
noncomputable def BD:Nat->T->T->(T->An)->An
 | 0,_,_,_=>.bad
 | m+1,x0,x1,k0 =>
  cond (decide ((IntKind.i64.wrap (x1.int-(x0.rows.length:Int)))<0))
  (k0 (T.i (-1)))
  (kQ m m (T.l x0.rows) (T.i (IntKind.i64.wrap (x1.int-(x0.rows.length:Int)))) (T.i 0)
  (fun y1=>k0 y1)
  (fun y2=>k0 y2))
noncomputable def CZ:Fs:=⟨46,[.one (.dz tJ []),.one (AI)],fun m vs k=>ap 2 (BD m) vs (lm 1 fun z=>k (bg ⟨[.one (RI)],[[none],[none]],[none,none]⟩ z))⟩
noncomputable def WJ:List Ls:=[⟨[0,1,0,1,1,1],⟨[(0,.one (LD tJ)),(1,.one (LI)),(5,.one (LI))],[([4000000],.gone)]⟩,fun m n vs k=>ap 3 (kQ m n) vs (lm 1 fun z=>k .ret (aB ⟨[(4,.one (LI))],[]⟩ z)) (lm 1 fun z=>k (.exit 0) (aB ⟨[(1,.one (LI))],[]⟩ z))⟩]
noncomputable def KS:List Fs:=CZ::NU
theorem WK:aF CX av KS/\aW CX av CZ:=dP Z0.1 CZ Tryz.f46 ⟨46,2,27,16⟩ WJ (fun _ _=>rfl) (fun _ _ _=>by kernel_rfl) ⟨fun _ _ _=>rfl,trivial⟩ ⟨fun _ _ _ _ _ _=>by kernel_rfl,trivial⟩ (fun _ _ _ _ _=>by kernel_rfl)
noncomputable def tH:Nat->T->T->(T->An)->An
 | 0,_,_,_=>.bad
 | m+1,x0,x1,k0 =>
  cond (decide ((IntKind.i64.wrap (x1.int-(x0.rows.length:Int)))<0))
  (k0 (T.i (-1)))
  (k0 (T.i (IntKind.i64.wrap (x1.int-(x0.rows.length:Int)))))
noncomputable def u6:Fs:=⟨47,[.one (.dz tC []),.one (AI)],fun m vs k=>ap 2 (tH m) vs (lm 1 fun z=>k (bg ⟨[.one (RI)],[[none],[none]],[none,none]⟩ z))⟩
noncomputable def Ee:List Fs:=u6::KS
theorem Pv:aF CX av Ee/\aW CX av u6:=dP WK.1 u6 Tryz.f47 ⟨47,2,12,16⟩ [] (fun _ _=>rfl) (fun _ _ _=>by kernel_rfl) trivial trivial (fun _ _ _ _ _=>by kernel_rfl)
noncomputable def yA:Nat->T->T->T->T->T->T->T->(T->An)->An
 | 0,_,_,_,_,_,_,_,_=>.bad
 | m+1,x0,x1,x2,x3,x4,x5,x6,k0 =>
  BD m (T.l x3.rows) x6
  (fun y0=>cond (decide (y0.int<0))
  (k0 (T.i (-1)))
  (tH m (T.l x4.rows) y0
  (fun y1=>cond (decide (y1.int<0))
  (k0 (T.i (-1)))
  (k0 y1))))
noncomputable def zN:Fs:=⟨17,[.agg [AI,AI,AI,.dz tJ [],.dz tC [],AI],.one (AI)],fun m vs k=>ap 7 (yA m) vs (lm 1 fun z=>k (bg ⟨[.one (RI)],[[none,none,none,none,none,none],[none]],[none,none]⟩ z))⟩
noncomputable def IJ:List Fs:=zN::Ee
theorem UH:aF CX av IJ/\aW CX av zN:=dP Pv.1 zN Tryz.f17 ⟨17,2,18,16⟩ [] (fun _ _=>rfl) (fun _ _ _=>by kernel_rfl) trivial trivial (fun _ _ _ _ _=>by kernel_rfl)
noncomputable def FE:Nat->T->T->T->T->(T->An)->An
 | 0,_,_,_,_,_=>.bad
 | m+1,x0,x1,x2,x3,k0 =>
  rE m (T.l x2.rows) x3
  (fun y0=>cond (decide (y0.int<0))
  (k0 (T.i (-1)))
  (k0 y0))
noncomputable def FH:Fs:=⟨138,[.agg [AI,AI,.dz tO []],.one (AI)],fun m vs k=>ap 4 (FE m) vs (lm 1 fun z=>k (bg ⟨[.one (RI)],[[none,none,none],[none]],[none,none]⟩ z))⟩
noncomputable def NV:List Fs:=FH::IJ
theorem Z4:aF CX av NV/\aW CX av FH:=dP UH.1 FH Tryz.f138 ⟨138,2,12,16⟩ [] (fun _ _=>rfl) (fun _ _ _=>by kernel_rfl) trivial trivial (fun _ _ _ _ _=>by kernel_rfl)
noncomputable def kR (m:Nat):Nat->T->T->T->(T->An)->(T->An)->An
 | 0,_,_,_,_,_=>.bad
 | n+1,x0,x1,x2,k0,k1 =>
  cond (decide (x2.int<(x0.rows.length:Int)))
  (cond (decide ((0:Int)<=x2.int/\x2.int<(x0.rows.length:Int)))
  (FE m ((x0.rows.getD (Int.toNat x2.int) []).getD 0 dflt) ((x0.rows.getD (Int.toNat x2.int) []).getD 1 dflt) (T.l ((x0.rows.getD (Int.toNat x2.int) []).getD 2 dflt).rows) x1
  (fun y0=>cond (decide (y0.int<0))
  (k0 (T.i (-1)))
  (kR m n x0 y0 (T.i (IntKind.i64.wrap (x2.int+1))) k0 k1)))
  (.bad))
  (k1 x1)
noncomputable def wL:Nat->T->T->(T->An)->An
 | 0,_,_,_=>.bad
 | m+1,x0,x1,k0 =>
  cond (decide ((IntKind.i64.wrap (x1.int-(x0.rows.length:Int)))<0))
  (k0 (T.i (-1)))
  (kR m m (T.l x0.rows) (T.i (IntKind.i64.wrap (x1.int-(x0.rows.length:Int)))) (T.i 0)
  (fun y1=>k0 y1)
  (fun y2=>k0 y2))
noncomputable def C8:Fs:=⟨94,[.one (.dz tR []),.one (AI)],fun m vs k=>ap 2 (wL m) vs (lm 1 fun z=>k (bg ⟨[.one (RI)],[[none],[none]],[none,none]⟩ z))⟩
noncomputable def WL:List Ls:=[⟨[0,1,0,1,1,1],⟨[(0,.one (LD tR)),(1,.one (LI)),(5,.one (LI))],[([4000000],.gone)]⟩,fun m n vs k=>ap 3 (kR m n) vs (lm 1 fun z=>k .ret (aB ⟨[(4,.one (LI))],[]⟩ z)) (lm 1 fun z=>k (.exit 0) (aB ⟨[(1,.one (LI))],[]⟩ z))⟩]
noncomputable def KT:List Fs:=C8::NV
theorem WM:aF CX av KT/\aW CX av C8:=dP Z4.1 C8 Tryz.f94 ⟨94,2,27,16⟩ WL (fun _ _=>rfl) (fun _ _ _=>by kernel_rfl) ⟨fun _ _ _=>rfl,trivial⟩ ⟨fun _ _ _ _ _ _=>by kernel_rfl,trivial⟩ (fun _ _ _ _ _=>by kernel_rfl)
noncomputable def BF:Nat->T->T->T->(T->An)->An
 | 0,_,_,_,_=>.bad
 | m+1,x0,x1,x2,k0 =>
  cond (decide ((IntKind.i64.wrap (x2.int-(x0.str.size:Int)))<0))
  (k0 (T.i (-1)))
  (cond (decide ((IntKind.i64.wrap ((IntKind.i64.wrap (x2.int-(x0.str.size:Int)))-(x1.str.size:Int)))<0))
  (k0 (T.i (-1)))
  (k0 (T.i (IntKind.i64.wrap ((IntKind.i64.wrap (x2.int-(x0.str.size:Int)))-(x1.str.size:Int))))))
noncomputable def C9:Fs:=⟨139,[.agg [AS,AS],.one (AI)],fun m vs k=>ap 3 (BF m) vs (lm 1 fun z=>k (bg ⟨[.one (RI)],[[none,none],[none]],[none,none]⟩ z))⟩
noncomputable def KU:List Fs:=C9::KT
theorem WO:aF CX av KU/\aW CX av C9:=dP WM.1 C9 Tryz.f139 ⟨139,2,20,16⟩ [] (fun _ _=>rfl) (fun _ _ _=>by kernel_rfl) trivial trivial (fun _ _ _ _ _=>by kernel_rfl)
noncomputable def jI (m:Nat):Nat->T->T->T->(T->An)->(T->An)->An
 | 0,_,_,_,_,_=>.bad
 | n+1,x0,x1,x2,k0,k1 =>
  cond (decide (x2.int<(x0.rows.length:Int)))
  (cond (decide ((0:Int)<=x2.int/\x2.int<(x0.rows.length:Int)))
  (BF m ((x0.rows.getD (Int.toNat x2.int) []).getD 0 dflt) ((x0.rows.getD (Int.toNat x2.int) []).getD 1 dflt) x1
  (fun y0=>cond (decide (y0.int<0))
  (k0 (T.i (-1)))
  (jI m n x0 y0 (T.i (IntKind.i64.wrap (x2.int+1))) k0 k1)))
  (.bad))
  (k1 x1)
noncomputable def yB:Nat->T->T->(T->An)->An
 | 0,_,_,_=>.bad
 | m+1,x0,x1,k0 =>
  cond (decide ((IntKind.i64.wrap (x1.int-(x0.rows.length:Int)))<0))
  (k0 (T.i (-1)))
  (jI m m (T.l x0.rows) (T.i (IntKind.i64.wrap (x1.int-(x0.rows.length:Int)))) (T.i 0)
  (fun y1=>k0 y1)
  (fun y2=>k0 y2))
noncomputable def zO:Fs:=⟨95,[.one (.dz tP []),.one (AI)],fun m vs k=>ap 2 (yB m) vs (lm 1 fun z=>k (bg ⟨[.one (RI)],[[none],[none]],[none,none]⟩ z))⟩
noncomputable def UJ:List Ls:=[⟨[0,1,0,1,1,1],⟨[(0,.one (LD tP)),(1,.one (LI)),(5,.one (LI))],[([4000000],.gone)]⟩,fun m n vs k=>ap 3 (jI m n) vs (lm 1 fun z=>k .ret (aB ⟨[(4,.one (LI))],[]⟩ z)) (lm 1 fun z=>k (.exit 0) (aB ⟨[(1,.one (LI))],[]⟩ z))⟩]
noncomputable def IK:List Fs:=zO::KU
theorem UK:aF CX av IK/\aW CX av zO:=dP WO.1 zO Tryz.f95 ⟨95,2,27,16⟩ UJ (fun _ _=>rfl) (fun _ _ _=>by kernel_rfl) ⟨fun _ _ _=>rfl,trivial⟩ ⟨fun _ _ _ _ _ _=>by kernel_rfl,trivial⟩ (fun _ _ _ _ _=>by kernel_rfl)
noncomputable def yC:Nat->T->T->T->T->T->T->(T->An)->An
 | 0,_,_,_,_,_,_,_=>.bad
 | m+1,x0,x1,x2,x3,x4,x5,k0 =>
  wL m (T.l x1.rows) x5
  (fun y0=>cond (decide (y0.int<0))
  (k0 (T.i (-1)))
  (yB m (T.l x3.rows) y0
  (fun y1=>cond (decide (y1.int<0))
  (k0 (T.i (-1)))
  (wL m (T.l x4.rows) y1
  (fun y2=>cond (decide (y2.int<0))
  (k0 (T.i (-1)))
  (k0 y2))))))
noncomputable def zP:Fs:=⟨48,[.agg [AI,.dz tR [],AI,.dz tP [],.dz tR []],.one (AI)],fun m vs k=>ap 6 (yC m) vs (lm 1 fun z=>k (bg ⟨[.one (RI)],[[none,none,none,none,none],[none]],[none,none]⟩ z))⟩
noncomputable def IL:List Fs:=zP::IK
theorem UL:aF CX av IL/\aW CX av zP:=dP UK.1 zP Tryz.f48 ⟨48,2,24,16⟩ [] (fun _ _=>rfl) (fun _ _ _=>by kernel_rfl) trivial trivial (fun _ _ _ _ _=>by kernel_rfl)
noncomputable def iM (m:Nat):Nat->T->T->T->(T->An)->(T->An)->An
 | 0,_,_,_,_,_=>.bad
 | n+1,x0,x1,x2,k0,k1 =>
  cond (decide (x2.int<(x0.rows.length:Int)))
  (cond (decide ((0:Int)<=x2.int/\x2.int<(x0.rows.length:Int)))
  (yC m ((x0.rows.getD (Int.toNat x2.int) []).getD 0 dflt) (T.l ((x0.rows.getD (Int.toNat x2.int) []).getD 1 dflt).rows) ((x0.rows.getD (Int.toNat x2.int) []).getD 2 dflt) (T.l ((x0.rows.getD (Int.toNat x2.int) []).getD 3 dflt).rows) (T.l ((x0.rows.getD (Int.toNat x2.int) []).getD 4 dflt).rows) x1
  (fun y0=>cond (decide (y0.int<0))
  (k0 (T.i (-1)))
  (iM m n x0 y0 (T.i (IntKind.i64.wrap (x2.int+1))) k0 k1)))
  (.bad))
  (k1 x1)
noncomputable def vO:Nat->T->T->(T->An)->An
 | 0,_,_,_=>.bad
 | m+1,x0,x1,k0 =>
  cond (decide ((IntKind.i64.wrap (x1.int-(x0.rows.length:Int)))<0))
  (k0 (T.i (-1)))
  (iM m m (T.l x0.rows) (T.i (IntKind.i64.wrap (x1.int-(x0.rows.length:Int)))) (T.i 0)
  (fun y1=>k0 y1)
  (fun y2=>k0 y2))
noncomputable def xw:Fs:=⟨18,[.one (.dz tS []),.one (AI)],fun m vs k=>ap 2 (vO m) vs (lm 1 fun z=>k (bg ⟨[.one (RI)],[[none],[none]],[none,none]⟩ z))⟩
noncomputable def Ro:List Ls:=[⟨[0,1,0,1,1,1],⟨[(0,.one (LD tS)),(1,.one (LI)),(5,.one (LI))],[([4000000],.gone)]⟩,fun m n vs k=>ap 3 (iM m n) vs (lm 1 fun z=>k .ret (aB ⟨[(4,.one (LI))],[]⟩ z)) (lm 1 fun z=>k (.exit 0) (aB ⟨[(1,.one (LI))],[]⟩ z))⟩]
noncomputable def GN:List Fs:=xw::IL
theorem Rp:aF CX av GN/\aW CX av xw:=dP UL.1 xw Tryz.f18 ⟨18,2,27,16⟩ Ro (fun _ _=>rfl) (fun _ _ _=>by kernel_rfl) ⟨fun _ _ _=>rfl,trivial⟩ ⟨fun _ _ _ _ _ _=>by kernel_rfl,trivial⟩ (fun _ _ _ _ _=>by kernel_rfl)
noncomputable def BG:Nat->T->T->T->T->T->T->(T->An)->An
 | 0,_,_,_,_,_,_,_=>.bad
 | m+1,x0,x1,x2,x3,x4,x5,k0 =>
  rE m (T.l x3.rows) x5
  (fun y0=>cond (decide (y0.int<0))
  (k0 (T.i (-1)))
  (k0 y0))
noncomputable def Da:Fs:=⟨49,[.agg [AI,AI,AI,.dz tO [],AB],.one (AI)],fun m vs k=>ap 6 (BG m) vs (lm 1 fun z=>k (bg ⟨[.one (RI)],[[none,none,none,none,none],[none]],[none,none]⟩ z))⟩
noncomputable def KV:List Fs:=Da::GN
theorem WQ:aF CX av KV/\aW CX av Da:=dP Rp.1 Da Tryz.f49 ⟨49,2,12,16⟩ [] (fun _ _=>rfl) (fun _ _ _=>by kernel_rfl) trivial trivial (fun _ _ _ _ _=>by kernel_rfl)
noncomputable def jJ (m:Nat):Nat->T->T->T->(T->An)->(T->An)->An
 | 0,_,_,_,_,_=>.bad
 | n+1,x0,x1,x2,k0,k1 =>
  cond (decide (x2.int<(x0.rows.length:Int)))
  (cond (decide ((0:Int)<=x2.int/\x2.int<(x0.rows.length:Int)))
  (BG m ((x0.rows.getD (Int.toNat x2.int) []).getD 0 dflt) ((x0.rows.getD (Int.toNat x2.int) []).getD 1 dflt) ((x0.rows.getD (Int.toNat x2.int) []).getD 2 dflt) (T.l ((x0.rows.getD (Int.toNat x2.int) []).getD 3 dflt).rows) ((x0.rows.getD (Int.toNat x2.int) []).getD 4 dflt) x1
  (fun y0=>cond (decide (y0.int<0))
  (k0 (T.i (-1)))
  (jJ m n x0 y0 (T.i (IntKind.i64.wrap (x2.int+1))) k0 k1)))
  (.bad))
  (k1 x1)
noncomputable def tK:Nat->T->T->(T->An)->An
 | 0,_,_,_=>.bad
 | m+1,x0,x1,k0 =>
  cond (decide ((IntKind.i64.wrap (x1.int-(x0.rows.length:Int)))<0))
  (k0 (T.i (-1)))
  (jJ m m (T.l x0.rows) (T.i (IntKind.i64.wrap (x1.int-(x0.rows.length:Int)))) (T.i 0)
  (fun y1=>k0 y1)
  (fun y2=>k0 y2))
noncomputable def zQ:Fs:=⟨19,[.one (.dz tW []),.one (AI)],fun m vs k=>ap 2 (tK m) vs (lm 1 fun z=>k (bg ⟨[.one (RI)],[[none],[none]],[none,none]⟩ z))⟩
noncomputable def UM:List Ls:=[⟨[0,1,0,1,1,1],⟨[(0,.one (LD tW)),(1,.one (LI)),(5,.one (LI))],[([4000000],.gone)]⟩,fun m n vs k=>ap 3 (jJ m n) vs (lm 1 fun z=>k .ret (aB ⟨[(4,.one (LI))],[]⟩ z)) (lm 1 fun z=>k (.exit 0) (aB ⟨[(1,.one (LI))],[]⟩ z))⟩]
noncomputable def IQ:List Fs:=zQ::KV
theorem UN:aF CX av IQ/\aW CX av zQ:=dP WQ.1 zQ Tryz.f19 ⟨19,2,27,16⟩ UM (fun _ _=>rfl) (fun _ _ _=>by kernel_rfl) ⟨fun _ _ _=>rfl,trivial⟩ ⟨fun _ _ _ _ _ _=>by kernel_rfl,trivial⟩ (fun _ _ _ _ _=>by kernel_rfl)
noncomputable def yD:Nat->T->T->T->(T->An)->An
 | 0,_,_,_,_=>.bad
 | m+1,x0,x1,x2,k0 =>
  rE m (T.l x1.rows) x2
  (fun y0=>cond (decide (y0.int<0))
  (k0 (T.i (-1)))
  (k0 y0))
noncomputable def zR:Fs:=⟨50,[.agg [AI,.dz tO []],.one (AI)],fun m vs k=>ap 3 (yD m) vs (lm 1 fun z=>k (bg ⟨[.one (RI)],[[none,none],[none]],[none,none]⟩ z))⟩
noncomputable def IU:List Fs:=zR::IQ
theorem UO:aF CX av IU/\aW CX av zR:=dP UN.1 zR Tryz.f50 ⟨50,2,12,16⟩ [] (fun _ _=>rfl) (fun _ _ _=>by kernel_rfl) trivial trivial (fun _ _ _ _ _=>by kernel_rfl)
noncomputable def iN (m:Nat):Nat->T->T->T->(T->An)->(T->An)->An
 | 0,_,_,_,_,_=>.bad
 | n+1,x0,x1,x2,k0,k1 =>
  cond (decide (x2.int<(x0.rows.length:Int)))
  (cond (decide ((0:Int)<=x2.int/\x2.int<(x0.rows.length:Int)))
  (yD m ((x0.rows.getD (Int.toNat x2.int) []).getD 0 dflt) (T.l ((x0.rows.getD (Int.toNat x2.int) []).getD 1 dflt).rows) x1
  (fun y0=>cond (decide (y0.int<0))
  (k0 (T.i (-1)))
  (iN m n x0 y0 (T.i (IntKind.i64.wrap (x2.int+1))) k0 k1)))
  (.bad))
  (k1 x1)
noncomputable def vP:Nat->T->T->(T->An)->An
 | 0,_,_,_=>.bad
 | m+1,x0,x1,k0 =>
  cond (decide ((IntKind.i64.wrap (x1.int-(x0.rows.length:Int)))<0))
  (k0 (T.i (-1)))
  (iN m m (T.l x0.rows) (T.i (IntKind.i64.wrap (x1.int-(x0.rows.length:Int)))) (T.i 0)
  (fun y1=>k0 y1)
  (fun y2=>k0 y2))
noncomputable def xA:Fs:=⟨20,[.one (.dz tB []),.one (AI)],fun m vs k=>ap 2 (vP m) vs (lm 1 fun z=>k (bg ⟨[.one (RI)],[[none],[none]],[none,none]⟩ z))⟩
noncomputable def Rq:List Ls:=[⟨[0,1,0,1,1,1],⟨[(0,.one (LD tB)),(1,.one (LI)),(5,.one (LI))],[([4000000],.gone)]⟩,fun m n vs k=>ap 3 (iN m n) vs (lm 1 fun z=>k .ret (aB ⟨[(4,.one (LI))],[]⟩ z)) (lm 1 fun z=>k (.exit 0) (aB ⟨[(1,.one (LI))],[]⟩ z))⟩]
noncomputable def GQ:List Fs:=xA::IU
theorem Rs:aF CX av GQ/\aW CX av xA:=dP UO.1 xA Tryz.f20 ⟨20,2,27,16⟩ Rq (fun _ _=>rfl) (fun _ _ _=>by kernel_rfl) ⟨fun _ _ _=>rfl,trivial⟩ ⟨fun _ _ _ _ _ _=>by kernel_rfl,trivial⟩ (fun _ _ _ _ _=>by kernel_rfl)
noncomputable def yE:Nat->T->T->T->T->T->T->T->T->T->T->T->(T->An)->An
 | 0,_,_,_,_,_,_,_,_,_,_,_,_=>.bad
 | m+1,x0,x1,x2,x3,x4,x5,x6,x7,x8,x9,x10,k0 =>
  yA m x0 x1 x2 (T.l x3.rows) (T.l x4.rows) x5 x10
  (fun y0=>cond (decide (y0.int<0))
  (k0 (T.i (-1)))
  (vO m (T.l x6.rows) y0
  (fun y1=>cond (decide (y1.int<0))
  (k0 (T.i (-1)))
  (tK m (T.l x7.rows) y1
  (fun y2=>cond (decide (y2.int<0))
  (k0 (T.i (-1)))
  (tK m (T.l x8.rows) y2
  (fun y3=>cond (decide (y3.int<0))
  (k0 (T.i (-1)))
  (vP m (T.l x9.rows) y3
  (fun y4=>cond (decide (y4.int<0))
  (k0 (T.i (-1)))
  (k0 y4))))))))))
noncomputable def zS:Fs:=⟨5,[.agg [AI,AI,AI,.dz tJ [],.dz tC [],AI,.dz tS [],.dz tW [],.dz tW [],.dz tB []],.one (AI)],fun m vs k=>ap 11 (yE m) vs (lm 1 fun z=>k (bg ⟨[.one (RI)],[[none,none,none,none,none,none,none,none,none,none],[none]],[none,none]⟩ z))⟩
noncomputable def IV:List Fs:=zS::GQ
theorem UQ:aF CX av IV/\aW CX av zS:=dP Rs.1 zS Tryz.f5 ⟨5,2,36,16⟩ [] (fun _ _=>rfl) (fun _ _ _=>by kernel_rfl) trivial trivial (fun _ _ _ _ _=>by kernel_rfl)
noncomputable def Kh:Nat->T->T->T->(T->T->T->An)->An
 | 0,_,_,_,_=>.bad
 | m+1,x0,x1,x2,k0 =>
  k0 x0 x1 x2
noncomputable def IW:Fs:=⟨149,[.agg [AI,AS,AS]],fun m vs k=>ap 3 (Kh m) vs (lm 3 fun z=>k (bg ⟨[.agg [RI,RS,RS]],[[none,none,none]],[none]⟩ z))⟩
noncomputable def QE:List Fs:=IW::IV
theorem ab1:aF CX av QE/\aW CX av IW:=dP UQ.1 IW Tryz.f149 ⟨149,1,14,4⟩ [] (fun _ _=>rfl) (fun _ _ _=>by kernel_rfl) trivial trivial (fun _ _ _ _ _=>by kernel_rfl)
noncomputable def mO (m:Nat):Nat->T->T->T->(T->An)->An
 | 0,_,_,_,_=>.bad
 | n+1,x0,x1,x2,k0 =>
  cond (decide (x1.int<(x0.rows.length:Int)))
  (cond (decide ((0:Int)<=x1.int/\x1.int<(x0.rows.length:Int)))
  (Kh m ((x0.rows.getD (Int.toNat x1.int) []).getD 0 dflt) ((x0.rows.getD (Int.toNat x1.int) []).getD 1 dflt) ((x0.rows.getD (Int.toNat x1.int) []).getD 2 dflt)
  (fun y0 y1 y2=>cond (decide ((0:Int)<=x1.int/\x1.int<(x2.rows.length:Int)))
  (cond (decide ((Int.toNat x1.int)<x2.rows.length))
  (mO m n x0 (T.i (IntKind.i64.wrap (x1.int+1))) (T.l (x2.rows.set (Int.toNat x1.int) ((((x2.rows.getD (Int.toNat x1.int) []).set 0 y0).set 1 y1).set 2 y2))) k0)
  (.bad))
  (.bad)))
  (.bad))
  (k0 (T.l x2.rows))
noncomputable def rF:Nat->T->(T->An)->An
 | 0,_,_=>.bad
 | m+1,x0,k0 =>
  cond (decide (0<=(x0.rows.length:Int)/\(x0.rows.length:Int)<=(x0.rows.length:Int)))
  (cond (decide ((x0.rows.length:Int) * ((40:Nat):Int)<=(aK:Int)))
  (mO m m (T.l x0.rows) (T.i 0) (T.l (List.replicate (Int.toNat (x0.rows.length:Int)) [(T.i 0),(T.s (⟨#[]⟩:ByteArray)),(T.s (⟨#[]⟩:ByteArray))]))
  (fun y3=>k0 (T.l y3.rows)))
  (.bad))
  (.bad)
noncomputable def FI:Fs:=⟨111,[.one (.dz tO [])],fun m vs k=>ap 1 (rF m) vs (lm 1 fun z=>k (bg ⟨[.one (.own (KR 0 0) tO m3 [])],[[none]],[none]⟩ z))⟩
noncomputable def Z5:List Ls:=[⟨[0,1,0,1,1],⟨[(0,.one (LD tO)),(3,.one (LA (KI 1) tO)),(4,.one (LI))],[([4000000],.gone),((KI 1),.row tO m3 [])]⟩,fun m n vs k=>ap 3 (mO m n) vs (lm 1 fun z=>k (.exit 0) (aB ⟨[(3,.one (LA (KI 0) tO))],[((KI 0),.row tO m3 [])]⟩ z))⟩]
noncomputable def NW:List Fs:=FI::QE
theorem Z6:aF CX av NW/\aW CX av FI:=dP ab1.1 FI Tryz.f111 ⟨111,1,23,4⟩ Z5 (fun _ _=>rfl) (fun _ _ _=>by kernel_rfl) ⟨fun _ _ _=>rfl,trivial⟩ ⟨fun _ _ _ _ _ _=>by kernel_rfl,trivial⟩ (fun _ _ _ _ _=>by kernel_rfl)
noncomputable def kS (m:Nat):Nat->T->T->T->(T->An)->An
 | 0,_,_,_,_=>.bad
 | n+1,x0,x1,x2,k0 =>
  cond (decide (x1.int<(x0.rows.length:Int)))
  (cond (decide ((0:Int)<=x1.int/\x1.int<(x0.rows.length:Int)))
  (cond (decide ((0:Int)<=x1.int/\x1.int<(x2.rows.length:Int)))
  (cond (decide ((Int.toNat x1.int)<x2.rows.length))
  (kS m n x0 (T.i (IntKind.i64.wrap (x1.int+1))) (T.l (x2.rows.set (Int.toNat x1.int) ((x2.rows.getD (Int.toNat x1.int) []).set 0 ((x0.rows.getD (Int.toNat x1.int) []).getD 0 dflt)))) k0)
  (.bad))
  (.bad))
  (.bad))
  (k0 (T.l x2.rows))
noncomputable def BH:Nat->T->(T->An)->An
 | 0,_,_=>.bad
 | m+1,x0,k0 =>
  cond (decide (0<=(x0.rows.length:Int)/\(x0.rows.length:Int)<=(x0.rows.length:Int)))
  (cond (decide ((x0.rows.length:Int) * ((8:Nat):Int)<=(aK:Int)))
  (kS m m (T.l x0.rows) (T.i 0) (T.l (List.replicate (Int.toNat (x0.rows.length:Int)) [(T.i 0)]))
  (fun y0=>k0 (T.l y0.rows)))
  (.bad))
  (.bad)
noncomputable def Db:Fs:=⟨146,[.one (.dz tI [])],fun m vs k=>ap 1 (BH m) vs (lm 1 fun z=>k (bg ⟨[.one (.own (KR 0 0) tI [.F] [])],[[none]],[none]⟩ z))⟩
noncomputable def WR:List Ls:=[⟨[0,1,0,1,1],⟨[(0,.one (LD tI)),(3,.one (LA (KI 1) tI)),(4,.one (LI))],[([4000000],.gone),((KI 1),.row tI [.F] [])]⟩,fun m n vs k=>ap 3 (kS m n) vs (lm 1 fun z=>k (.exit 0) (aB ⟨[(3,.one (LA (KI 0) tI))],[((KI 0),.row tI [.F] [])]⟩ z))⟩]
noncomputable def KY:List Fs:=Db::NW
theorem WS:aF CX av KY/\aW CX av Db:=dP Z6.1 Db Tryz.f146 ⟨146,1,22,4⟩ WR (fun _ _=>rfl) (fun _ _ _=>by kernel_rfl) ⟨fun _ _ _=>rfl,trivial⟩ ⟨fun _ _ _ _ _ _=>by kernel_rfl,trivial⟩ (fun _ _ _ _ _=>by kernel_rfl)
noncomputable def FJ:Nat->T->T->T->T->(T->T->T->T->An)->An
 | 0,_,_,_,_,_=>.bad
 | m+1,x0,x1,x2,x3,k0 =>
  rF m (T.l x1.rows)
  (fun y0=>BH m (T.l x3.rows)
  (fun y1=>k0 x0 (T.l y0.rows) x2 (T.l y1.rows)))
noncomputable def FK:Fs:=⟨107,[.agg [AI,.dz tO [],AI,.dz tI []]],fun m vs k=>ap 4 (FJ m) vs (lm 4 fun z=>k (bg ⟨[.agg [RI,.own (KR 0 1) tO m3 [],RI,.own (KR 0 3) tI [.F] []]],[[none,none,none,none]],[none]⟩ z))⟩
noncomputable def NY:List Fs:=FK::KY
theorem Z7:aF CX av NY/\aW CX av FK:=dP WS.1 FK Tryz.f107 ⟨107,1,19,4⟩ [] (fun _ _=>rfl) (fun _ _ _=>by kernel_rfl) trivial trivial (fun _ _ _ _ _=>by kernel_rfl)
noncomputable def kT (m:Nat):Nat->T->T->T->(T->An)->An
 | 0,_,_,_,_=>.bad
 | n+1,x0,x1,x2,k0 =>
  cond (decide (x1.int<(x0.rows.length:Int)))
  (cond (decide ((0:Int)<=x1.int/\x1.int<(x0.rows.length:Int)))
  (FJ m ((x0.rows.getD (Int.toNat x1.int) []).getD 0 dflt) (T.l ((x0.rows.getD (Int.toNat x1.int) []).getD 1 dflt).rows) ((x0.rows.getD (Int.toNat x1.int) []).getD 2 dflt) (T.l ((x0.rows.getD (Int.toNat x1.int) []).getD 3 dflt).rows)
  (fun y0 y1 y2 y3=>cond (decide ((0:Int)<=x1.int/\x1.int<(x2.rows.length:Int)))
  (cond (decide ((Int.toNat x1.int)<x2.rows.length))
  (kT m n x0 (T.i (IntKind.i64.wrap (x1.int+1))) (T.l (x2.rows.set (Int.toNat x1.int) (((((x2.rows.getD (Int.toNat x1.int) []).set 0 y0).set 1 (T.l y1.rows)).set 2 y2).set 3 (T.l y3.rows)))) k0)
  (.bad))
  (.bad)))
  (.bad))
  (k0 (T.l x2.rows))
noncomputable def BI:Nat->T->(T->An)->An
 | 0,_,_=>.bad
 | m+1,x0,k0 =>
  cond (decide (0<=(x0.rows.length:Int)/\(x0.rows.length:Int)<=(x0.rows.length:Int)))
  (cond (decide ((x0.rows.length:Int) * ((64:Nat):Int)<=(aK:Int)))
  (kT m m (T.l x0.rows) (T.i 0) (T.l (List.replicate (Int.toNat (x0.rows.length:Int)) [(T.i 0),(T.l []),(T.i 0),(T.l [])]))
  (fun y4=>k0 (T.l y4.rows)))
  (.bad))
  (.bad)
noncomputable def Dc:Fs:=⟨61,[.one (.dz tJ [])],fun m vs k=>ap 1 (BI m) vs (lm 1 fun z=>k (bg ⟨[.one (.own (KR 0 0) tJ [.F,.O m3,.F,.O [.F]] [])],[[none]],[none]⟩ z))⟩
noncomputable def WT:List Ls:=[⟨[0,1,0,1,1],⟨[(0,.one (LD tJ)),(3,.one (LA (KI 1) tJ)),(4,.one (LI))],[([4000000],.gone),((KI 1),.row tJ [.F,.O m3,.F,.O [.F]] [])]⟩,fun m n vs k=>ap 3 (kT m n) vs (lm 1 fun z=>k (.exit 0) (aB ⟨[(3,.one (LA (KI 0) tJ))],[((KI 0),.row tJ [.F,.O m3,.F,.O [.F]] [])]⟩ z))⟩]
noncomputable def KZ:List Fs:=Dc::NY
theorem WU:aF CX av KZ/\aW CX av Dc:=dP Z7.1 Dc Tryz.f61 ⟨61,1,23,4⟩ WT (fun _ _=>rfl) (fun _ _ _=>by kernel_rfl) ⟨fun _ _ _=>rfl,trivial⟩ ⟨fun _ _ _ _ _ _=>by kernel_rfl,trivial⟩ (fun _ _ _ _ _=>by kernel_rfl)
noncomputable def vQ:Nat->T->T->(T->T->An)->An
 | 0,_,_,_=>.bad
 | m+1,x0,x1,k0 =>
  k0 x0 x1
noncomputable def xB:Fs:=⟨108,[.agg [AI,AB]],fun m vs k=>ap 2 (vQ m) vs (lm 2 fun z=>k (bg ⟨[.agg [RI,RB]],[[none,none]],[none]⟩ z))⟩
noncomputable def GR:List Fs:=xB::KZ
theorem Rt:aF CX av GR/\aW CX av xB:=dP WU.1 xB Tryz.f108 ⟨108,1,11,4⟩ [] (fun _ _=>rfl) (fun _ _ _=>by kernel_rfl) trivial trivial (fun _ _ _ _ _=>by kernel_rfl)
noncomputable def gM (m:Nat):Nat->T->T->T->(T->An)->An
 | 0,_,_,_,_=>.bad
 | n+1,x0,x1,x2,k0 =>
  cond (decide (x1.int<(x0.rows.length:Int)))
  (cond (decide ((0:Int)<=x1.int/\x1.int<(x0.rows.length:Int)))
  (vQ m ((x0.rows.getD (Int.toNat x1.int) []).getD 0 dflt) ((x0.rows.getD (Int.toNat x1.int) []).getD 1 dflt)
  (fun y0 y1=>cond (decide ((0:Int)<=x1.int/\x1.int<(x2.rows.length:Int)))
  (cond (decide ((Int.toNat x1.int)<x2.rows.length))
  (gM m n x0 (T.i (IntKind.i64.wrap (x1.int+1))) (T.l (x2.rows.set (Int.toNat x1.int) (((x2.rows.getD (Int.toNat x1.int) []).set 0 y0).set 1 y1))) k0)
  (.bad))
  (.bad)))
  (.bad))
  (k0 (T.l x2.rows))
noncomputable def tL:Nat->T->(T->An)->An
 | 0,_,_=>.bad
 | m+1,x0,k0 =>
  cond (decide (0<=(x0.rows.length:Int)/\(x0.rows.length:Int)<=(x0.rows.length:Int)))
  (cond (decide ((x0.rows.length:Int) * ((16:Nat):Int)<=(aK:Int)))
  (gM m m (T.l x0.rows) (T.i 0) (T.l (List.replicate (Int.toNat (x0.rows.length:Int)) [(T.i 0),(T.b false)]))
  (fun y2=>k0 (T.l y2.rows)))
  (.bad))
  (.bad)
noncomputable def u7:Fs:=⟨62,[.one (.dz tC [])],fun m vs k=>ap 1 (tL m) vs (lm 1 fun z=>k (bg ⟨[.one (.own (KR 0 0) tC m2 [])],[[none]],[none]⟩ z))⟩
noncomputable def Pw:List Ls:=[⟨[0,1,0,1,1],⟨[(0,.one (LD tC)),(3,.one (LA (KI 1) tC)),(4,.one (LI))],[([4000000],.gone),((KI 1),.row tC m2 [])]⟩,fun m n vs k=>ap 3 (gM m n) vs (lm 1 fun z=>k (.exit 0) (aB ⟨[(3,.one (LA (KI 0) tC))],[((KI 0),.row tC m2 [])]⟩ z))⟩]
noncomputable def Ef:List Fs:=u7::GR
theorem Px:aF CX av Ef/\aW CX av u7:=dP Rt.1 u7 Tryz.f62 ⟨62,1,23,4⟩ Pw (fun _ _=>rfl) (fun _ _ _=>by kernel_rfl) ⟨fun _ _ _=>rfl,trivial⟩ ⟨fun _ _ _ _ _ _=>by kernel_rfl,trivial⟩ (fun _ _ _ _ _=>by kernel_rfl)
noncomputable def yF:Nat->T->T->T->T->T->T->(T->T->T->T->T->T->An)->An
 | 0,_,_,_,_,_,_,_=>.bad
 | m+1,x0,x1,x2,x3,x4,x5,k0 =>
  BI m (T.l x3.rows)
  (fun y0=>tL m (T.l x4.rows)
  (fun y1=>k0 x0 x1 x2 (T.l y0.rows) (T.l y1.rows) x5))
noncomputable def zT:Fs:=⟨26,[.agg [AI,AI,AI,.dz tJ [],.dz tC [],AI]],fun m vs k=>ap 6 (yF m) vs (lm 6 fun z=>k (bg ⟨[.agg [RI,RI,RI,.own (KR 0 3) tJ [.F,.O m3,.F,.O [.F]] [],.own (KR 0 4) tC m2 [],RI]],[[none,none,none,none,none,none]],[none]⟩ z))⟩
noncomputable def IX:List Fs:=zT::Ef
theorem UR:aF CX av IX/\aW CX av zT:=dP Px.1 zT Tryz.f26 ⟨26,1,25,4⟩ [] (fun _ _=>rfl) (fun _ _ _=>by kernel_rfl) trivial trivial (fun _ _ _ _ _=>by kernel_rfl)
noncomputable def FL:Nat->T->T->T->(T->T->T->An)->An
 | 0,_,_,_,_=>.bad
 | m+1,x0,x1,x2,k0 =>
  rF m (T.l x2.rows)
  (fun y0=>k0 x0 x1 (T.l y0.rows))
noncomputable def FM:Fs:=⟨147,[.agg [AI,AI,.dz tO []]],fun m vs k=>ap 3 (FL m) vs (lm 3 fun z=>k (bg ⟨[.agg [RI,RI,.own (KR 0 2) tO m3 []]],[[none,none,none]],[none]⟩ z))⟩
noncomputable def NZ:List Fs:=FM::IX
theorem Z8:aF CX av NZ/\aW CX av FM:=dP UR.1 FM Tryz.f147 ⟨147,1,15,4⟩ [] (fun _ _=>rfl) (fun _ _ _=>by kernel_rfl) trivial trivial (fun _ _ _ _ _=>by kernel_rfl)
noncomputable def kU (m:Nat):Nat->T->T->T->(T->An)->An
 | 0,_,_,_,_=>.bad
 | n+1,x0,x1,x2,k0 =>
  cond (decide (x1.int<(x0.rows.length:Int)))
  (cond (decide ((0:Int)<=x1.int/\x1.int<(x0.rows.length:Int)))
  (FL m ((x0.rows.getD (Int.toNat x1.int) []).getD 0 dflt) ((x0.rows.getD (Int.toNat x1.int) []).getD 1 dflt) (T.l ((x0.rows.getD (Int.toNat x1.int) []).getD 2 dflt).rows)
  (fun y0 y1 y2=>cond (decide ((0:Int)<=x1.int/\x1.int<(x2.rows.length:Int)))
  (cond (decide ((Int.toNat x1.int)<x2.rows.length))
  (kU m n x0 (T.i (IntKind.i64.wrap (x1.int+1))) (T.l (x2.rows.set (Int.toNat x1.int) ((((x2.rows.getD (Int.toNat x1.int) []).set 0 y0).set 1 y1).set 2 (T.l y2.rows)))) k0)
  (.bad))
  (.bad)))
  (.bad))
  (k0 (T.l x2.rows))
noncomputable def wM:Nat->T->(T->An)->An
 | 0,_,_=>.bad
 | m+1,x0,k0 =>
  cond (decide (0<=(x0.rows.length:Int)/\(x0.rows.length:Int)<=(x0.rows.length:Int)))
  (cond (decide ((x0.rows.length:Int) * ((40:Nat):Int)<=(aK:Int)))
  (kU m m (T.l x0.rows) (T.i 0) (T.l (List.replicate (Int.toNat (x0.rows.length:Int)) [(T.i 0),(T.i 0),(T.l [])]))
  (fun y3=>k0 (T.l y3.rows)))
  (.bad))
  (.bad)
noncomputable def Dh:Fs:=⟨109,[.one (.dz tR [])],fun m vs k=>ap 1 (wM m) vs (lm 1 fun z=>k (bg ⟨[.one (.own (KR 0 0) tR [.F,.F,.O m3] [])],[[none]],[none]⟩ z))⟩
noncomputable def WV:List Ls:=[⟨[0,1,0,1,1],⟨[(0,.one (LD tR)),(3,.one (LA (KI 1) tR)),(4,.one (LI))],[([4000000],.gone),((KI 1),.row tR [.F,.F,.O m3] [])]⟩,fun m n vs k=>ap 3 (kU m n) vs (lm 1 fun z=>k (.exit 0) (aB ⟨[(3,.one (LA (KI 0) tR))],[((KI 0),.row tR [.F,.F,.O m3] [])]⟩ z))⟩]
noncomputable def K5:List Fs:=Dh::NZ
theorem WW:aF CX av K5/\aW CX av Dh:=dP Z8.1 Dh Tryz.f109 ⟨109,1,23,4⟩ WV (fun _ _=>rfl) (fun _ _ _=>by kernel_rfl) ⟨fun _ _ _=>rfl,trivial⟩ ⟨fun _ _ _ _ _ _=>by kernel_rfl,trivial⟩ (fun _ _ _ _ _=>by kernel_rfl)
noncomputable def BJ:Nat->T->T->(T->T->An)->An
 | 0,_,_,_=>.bad
 | m+1,x0,x1,k0 =>
  k0 x0 x1
noncomputable def Di:Fs:=⟨148,[.agg [AS,AS]],fun m vs k=>ap 2 (BJ m) vs (lm 2 fun z=>k (bg ⟨[.agg [RS,RS]],[[none,none]],[none]⟩ z))⟩
noncomputable def K6:List Fs:=Di::K5
theorem WX:aF CX av K6/\aW CX av Di:=dP WW.1 Di Tryz.f148 ⟨148,1,11,4⟩ [] (fun _ _=>rfl) (fun _ _ _=>by kernel_rfl) trivial trivial (fun _ _ _ _ _=>by kernel_rfl)
noncomputable def jK (m:Nat):Nat->T->T->T->(T->An)->An
 | 0,_,_,_,_=>.bad
 | n+1,x0,x1,x2,k0 =>
  cond (decide (x1.int<(x0.rows.length:Int)))
  (cond (decide ((0:Int)<=x1.int/\x1.int<(x0.rows.length:Int)))
  (BJ m ((x0.rows.getD (Int.toNat x1.int) []).getD 0 dflt) ((x0.rows.getD (Int.toNat x1.int) []).getD 1 dflt)
  (fun y0 y1=>cond (decide ((0:Int)<=x1.int/\x1.int<(x2.rows.length:Int)))
  (cond (decide ((Int.toNat x1.int)<x2.rows.length))
  (jK m n x0 (T.i (IntKind.i64.wrap (x1.int+1))) (T.l (x2.rows.set (Int.toNat x1.int) (((x2.rows.getD (Int.toNat x1.int) []).set 0 y0).set 1 y1))) k0)
  (.bad))
  (.bad)))
  (.bad))
  (k0 (T.l x2.rows))
noncomputable def yG:Nat->T->(T->An)->An
 | 0,_,_=>.bad
 | m+1,x0,k0 =>
  cond (decide (0<=(x0.rows.length:Int)/\(x0.rows.length:Int)<=(x0.rows.length:Int)))
  (cond (decide ((x0.rows.length:Int) * ((32:Nat):Int)<=(aK:Int)))
  (jK m m (T.l x0.rows) (T.i 0) (T.l (List.replicate (Int.toNat (x0.rows.length:Int)) [(T.s (⟨#[]⟩:ByteArray)),(T.s (⟨#[]⟩:ByteArray))]))
  (fun y2=>k0 (T.l y2.rows)))
  (.bad))
  (.bad)
noncomputable def zU:Fs:=⟨110,[.one (.dz tP [])],fun m vs k=>ap 1 (yG m) vs (lm 1 fun z=>k (bg ⟨[.one (.own (KR 0 0) tP m2 [])],[[none]],[none]⟩ z))⟩
noncomputable def UU:List Ls:=[⟨[0,1,0,1,1],⟨[(0,.one (LD tP)),(3,.one (LA (KI 1) tP)),(4,.one (LI))],[([4000000],.gone),((KI 1),.row tP m2 [])]⟩,fun m n vs k=>ap 3 (jK m n) vs (lm 1 fun z=>k (.exit 0) (aB ⟨[(3,.one (LA (KI 0) tP))],[((KI 0),.row tP m2 [])]⟩ z))⟩]
noncomputable def IY:List Fs:=zU::K6
theorem UW:aF CX av IY/\aW CX av zU:=dP WX.1 zU Tryz.f110 ⟨110,1,23,4⟩ UU (fun _ _=>rfl) (fun _ _ _=>by kernel_rfl) ⟨fun _ _ _=>rfl,trivial⟩ ⟨fun _ _ _ _ _ _=>by kernel_rfl,trivial⟩ (fun _ _ _ _ _=>by kernel_rfl)
noncomputable def yH:Nat->T->T->T->T->T->(T->T->T->T->T->An)->An
 | 0,_,_,_,_,_,_=>.bad
 | m+1,x0,x1,x2,x3,x4,k0 =>
  wM m (T.l x1.rows)
  (fun y0=>yG m (T.l x3.rows)
  (fun y1=>wM m (T.l x4.rows)
  (fun y2=>k0 x0 (T.l y0.rows) x2 (T.l y1.rows) (T.l y2.rows))))
noncomputable def zV:Fs:=⟨63,[.agg [AI,.dz tR [],AI,.dz tP [],.dz tR []]],fun m vs k=>ap 5 (yH m) vs (lm 5 fun z=>k (bg ⟨[.agg [RI,.own (KR 0 1) tR [.F,.F,.O m3] [],RI,.own (KR 0 3) tP m2 [],.own (KR 0 4) tR [.F,.F,.O m3] []]],[[none,none,none,none,none]],[none]⟩ z))⟩
noncomputable def I6:List Fs:=zV::IY
theorem UY:aF CX av I6/\aW CX av zV:=dP UW.1 zV Tryz.f63 ⟨63,1,23,4⟩ [] (fun _ _=>rfl) (fun _ _ _=>by kernel_rfl) trivial trivial (fun _ _ _ _ _=>by kernel_rfl)
noncomputable def iO (m:Nat):Nat->T->T->T->(T->An)->An
 | 0,_,_,_,_=>.bad
 | n+1,x0,x1,x2,k0 =>
  cond (decide (x1.int<(x0.rows.length:Int)))
  (cond (decide ((0:Int)<=x1.int/\x1.int<(x0.rows.length:Int)))
  (yH m ((x0.rows.getD (Int.toNat x1.int) []).getD 0 dflt) (T.l ((x0.rows.getD (Int.toNat x1.int) []).getD 1 dflt).rows) ((x0.rows.getD (Int.toNat x1.int) []).getD 2 dflt) (T.l ((x0.rows.getD (Int.toNat x1.int) []).getD 3 dflt).rows) (T.l ((x0.rows.getD (Int.toNat x1.int) []).getD 4 dflt).rows)
  (fun y0 y1 y2 y3 y4=>cond (decide ((0:Int)<=x1.int/\x1.int<(x2.rows.length:Int)))
  (cond (decide ((Int.toNat x1.int)<x2.rows.length))
  (iO m n x0 (T.i (IntKind.i64.wrap (x1.int+1))) (T.l (x2.rows.set (Int.toNat x1.int) ((((((x2.rows.getD (Int.toNat x1.int) []).set 0 y0).set 1 (T.l y1.rows)).set 2 y2).set 3 (T.l y3.rows)).set 4 (T.l y4.rows)))) k0)
  (.bad))
  (.bad)))
  (.bad))
  (k0 (T.l x2.rows))
noncomputable def vR:Nat->T->(T->An)->An
 | 0,_,_=>.bad
 | m+1,x0,k0 =>
  cond (decide (0<=(x0.rows.length:Int)/\(x0.rows.length:Int)<=(x0.rows.length:Int)))
  (cond (decide ((x0.rows.length:Int) * ((88:Nat):Int)<=(aK:Int)))
  (iO m m (T.l x0.rows) (T.i 0) (T.l (List.replicate (Int.toNat (x0.rows.length:Int)) [(T.i 0),(T.l []),(T.i 0),(T.l []),(T.l [])]))
  (fun y5=>k0 (T.l y5.rows)))
  (.bad))
  (.bad)
noncomputable def xC:Fs:=⟨27,[.one (.dz tS [])],fun m vs k=>ap 1 (vR m) vs (lm 1 fun z=>k (bg ⟨[.one (.own (KR 0 0) tS [.F,.O [.F,.F,.O m3],.F,.O m2,.O [.F,.F,.O m3]] [])],[[none]],[none]⟩ z))⟩
noncomputable def Ru:List Ls:=[⟨[0,1,0,1,1],⟨[(0,.one (LD tS)),(3,.one (LA (KI 1) tS)),(4,.one (LI))],[([4000000],.gone),((KI 1),.row tS [.F,.O [.F,.F,.O m3],.F,.O m2,.O [.F,.F,.O m3]] [])]⟩,fun m n vs k=>ap 3 (iO m n) vs (lm 1 fun z=>k (.exit 0) (aB ⟨[(3,.one (LA (KI 0) tS))],[((KI 0),.row tS [.F,.O [.F,.F,.O m3],.F,.O m2,.O [.F,.F,.O m3]] [])]⟩ z))⟩]
noncomputable def GU:List Fs:=xC::I6
theorem Rv:aF CX av GU/\aW CX av xC:=dP UY.1 xC Tryz.f27 ⟨27,1,23,4⟩ Ru (fun _ _=>rfl) (fun _ _ _=>by kernel_rfl) ⟨fun _ _ _=>rfl,trivial⟩ ⟨fun _ _ _ _ _ _=>by kernel_rfl,trivial⟩ (fun _ _ _ _ _=>by kernel_rfl)
noncomputable def BK:Nat->T->T->T->T->T->(T->T->T->T->T->An)->An
 | 0,_,_,_,_,_,_=>.bad
 | m+1,x0,x1,x2,x3,x4,k0 =>
  rF m (T.l x3.rows)
  (fun y0=>k0 x0 x1 x2 (T.l y0.rows) x4)
noncomputable def Dj:Fs:=⟨64,[.agg [AI,AI,AI,.dz tO [],AB]],fun m vs k=>ap 5 (BK m) vs (lm 5 fun z=>k (bg ⟨[.agg [RI,RI,RI,.own (KR 0 3) tO m3 [],RB]],[[none,none,none,none,none]],[none]⟩ z))⟩
noncomputable def K7:List Fs:=Dj::GU
theorem WY:aF CX av K7/\aW CX av Dj:=dP Rv.1 Dj Tryz.f64 ⟨64,1,21,4⟩ [] (fun _ _=>rfl) (fun _ _ _=>by kernel_rfl) trivial trivial (fun _ _ _ _ _=>by kernel_rfl)
noncomputable def jL (m:Nat):Nat->T->T->T->(T->An)->An
 | 0,_,_,_,_=>.bad
 | n+1,x0,x1,x2,k0 =>
  cond (decide (x1.int<(x0.rows.length:Int)))
  (cond (decide ((0:Int)<=x1.int/\x1.int<(x0.rows.length:Int)))
  (BK m ((x0.rows.getD (Int.toNat x1.int) []).getD 0 dflt) ((x0.rows.getD (Int.toNat x1.int) []).getD 1 dflt) ((x0.rows.getD (Int.toNat x1.int) []).getD 2 dflt) (T.l ((x0.rows.getD (Int.toNat x1.int) []).getD 3 dflt).rows) ((x0.rows.getD (Int.toNat x1.int) []).getD 4 dflt)
  (fun y0 y1 y2 y3 y4=>cond (decide ((0:Int)<=x1.int/\x1.int<(x2.rows.length:Int)))
  (cond (decide ((Int.toNat x1.int)<x2.rows.length))
  (jL m n x0 (T.i (IntKind.i64.wrap (x1.int+1))) (T.l (x2.rows.set (Int.toNat x1.int) ((((((x2.rows.getD (Int.toNat x1.int) []).set 0 y0).set 1 y1).set 2 y2).set 3 (T.l y3.rows)).set 4 y4))) k0)
  (.bad))
  (.bad)))
  (.bad))
  (k0 (T.l x2.rows))
noncomputable def tN:Nat->T->(T->An)->An
 | 0,_,_=>.bad
 | m+1,x0,k0 =>
  cond (decide (0<=(x0.rows.length:Int)/\(x0.rows.length:Int)<=(x0.rows.length:Int)))
  (cond (decide ((x0.rows.length:Int) * ((56:Nat):Int)<=(aK:Int)))
  (jL m m (T.l x0.rows) (T.i 0) (T.l (List.replicate (Int.toNat (x0.rows.length:Int)) [(T.i 0),(T.i 0),(T.i 0),(T.l []),(T.b false)]))
  (fun y5=>k0 (T.l y5.rows)))
  (.bad))
  (.bad)
noncomputable def zW:Fs:=⟨28,[.one (.dz tW [])],fun m vs k=>ap 1 (tN m) vs (lm 1 fun z=>k (bg ⟨[.one (.own (KR 0 0) tW [.F,.F,.F,.O m3,.F] [])],[[none]],[none]⟩ z))⟩
noncomputable def UZ:List Ls:=[⟨[0,1,0,1,1],⟨[(0,.one (LD tW)),(3,.one (LA (KI 1) tW)),(4,.one (LI))],[([4000000],.gone),((KI 1),.row tW [.F,.F,.F,.O m3,.F] [])]⟩,fun m n vs k=>ap 3 (jL m n) vs (lm 1 fun z=>k (.exit 0) (aB ⟨[(3,.one (LA (KI 0) tW))],[((KI 0),.row tW [.F,.F,.F,.O m3,.F] [])]⟩ z))⟩]
noncomputable def I7:List Fs:=zW::K7
theorem U0:aF CX av I7/\aW CX av zW:=dP WY.1 zW Tryz.f28 ⟨28,1,23,4⟩ UZ (fun _ _=>rfl) (fun _ _ _=>by kernel_rfl) ⟨fun _ _ _=>rfl,trivial⟩ ⟨fun _ _ _ _ _ _=>by kernel_rfl,trivial⟩ (fun _ _ _ _ _=>by kernel_rfl)
noncomputable def yI:Nat->T->T->(T->T->An)->An
 | 0,_,_,_=>.bad
 | m+1,x0,x1,k0 =>
  rF m (T.l x1.rows)
  (fun y0=>k0 x0 (T.l y0.rows))
noncomputable def zX:Fs:=⟨65,[.agg [AI,.dz tO []]],fun m vs k=>ap 2 (yI m) vs (lm 2 fun z=>k (bg ⟨[.agg [RI,.own (KR 0 1) tO m3 []]],[[none,none]],[none]⟩ z))⟩
noncomputable def I8:List Fs:=zX::I7
theorem U1:aF CX av I8/\aW CX av zX:=dP U0.1 zX Tryz.f65 ⟨65,1,12,4⟩ [] (fun _ _=>rfl) (fun _ _ _=>by kernel_rfl) trivial trivial (fun _ _ _ _ _=>by kernel_rfl)
noncomputable def iP (m:Nat):Nat->T->T->T->(T->An)->An
 | 0,_,_,_,_=>.bad
 | n+1,x0,x1,x2,k0 =>
  cond (decide (x1.int<(x0.rows.length:Int)))
  (cond (decide ((0:Int)<=x1.int/\x1.int<(x0.rows.length:Int)))
  (yI m ((x0.rows.getD (Int.toNat x1.int) []).getD 0 dflt) (T.l ((x0.rows.getD (Int.toNat x1.int) []).getD 1 dflt).rows)
  (fun y0 y1=>cond (decide ((0:Int)<=x1.int/\x1.int<(x2.rows.length:Int)))
  (cond (decide ((Int.toNat x1.int)<x2.rows.length))
  (iP m n x0 (T.i (IntKind.i64.wrap (x1.int+1))) (T.l (x2.rows.set (Int.toNat x1.int) (((x2.rows.getD (Int.toNat x1.int) []).set 0 y0).set 1 (T.l y1.rows)))) k0)
  (.bad))
  (.bad)))
  (.bad))
  (k0 (T.l x2.rows))
noncomputable def vS:Nat->T->(T->An)->An
 | 0,_,_=>.bad
 | m+1,x0,k0 =>
  cond (decide (0<=(x0.rows.length:Int)/\(x0.rows.length:Int)<=(x0.rows.length:Int)))
  (cond (decide ((x0.rows.length:Int) * ((32:Nat):Int)<=(aK:Int)))
  (iP m m (T.l x0.rows) (T.i 0) (T.l (List.replicate (Int.toNat (x0.rows.length:Int)) [(T.i 0),(T.l [])]))
  (fun y2=>k0 (T.l y2.rows)))
  (.bad))
  (.bad)
noncomputable def xD:Fs:=⟨29,[.one (.dz tB [])],fun m vs k=>ap 1 (vS m) vs (lm 1 fun z=>k (bg ⟨[.one (.own (KR 0 0) tB [.F,.O m3] [])],[[none]],[none]⟩ z))⟩
noncomputable def Rw:List Ls:=[⟨[0,1,0,1,1],⟨[(0,.one (LD tB)),(3,.one (LA (KI 1) tB)),(4,.one (LI))],[([4000000],.gone),((KI 1),.row tB [.F,.O m3] [])]⟩,fun m n vs k=>ap 3 (iP m n) vs (lm 1 fun z=>k (.exit 0) (aB ⟨[(3,.one (LA (KI 0) tB))],[((KI 0),.row tB [.F,.O m3] [])]⟩ z))⟩]
noncomputable def GV:List Fs:=xD::I8
theorem Rx:aF CX av GV/\aW CX av xD:=dP U1.1 xD Tryz.f29 ⟨29,1,23,4⟩ Rw (fun _ _=>rfl) (fun _ _ _=>by kernel_rfl) ⟨fun _ _ _=>rfl,trivial⟩ ⟨fun _ _ _ _ _ _=>by kernel_rfl,trivial⟩ (fun _ _ _ _ _=>by kernel_rfl)
noncomputable def qx:Nat->T->T->T->T->T->T->T->T->T->T->(T->T->T->T->T->T->T->T->T->T->An)->An
 | 0,_,_,_,_,_,_,_,_,_,_,_=>.bad
 | m+1,x0,x1,x2,x3,x4,x5,x6,x7,x8,x9,k0 =>
  yF m x0 x1 x2 (T.l x3.rows) (T.l x4.rows) x5
  (fun y0 y1 y2 y3 y4 y5=>vR m (T.l x6.rows)
  (fun y6=>tN m (T.l x7.rows)
  (fun y7=>tN m (T.l x8.rows)
  (fun y8=>vS m (T.l x9.rows)
  (fun y9=>k0 y0 y1 y2 (T.l y3.rows) (T.l y4.rows) y5 (T.l y6.rows) (T.l y7.rows) (T.l y8.rows) (T.l y9.rows))))))
noncomputable def zY:Fs:=⟨7,[.agg [AI,AI,AI,.dz tJ [],.dz tC [],AI,.dz tS [],.dz tW [],.dz tW [],.dz tB []]],fun m vs k=>ap 10 (qx m) vs (lm 10 fun z=>k (bg ⟨[.agg [RI,RI,RI,.own (KR 0 3) tJ [.F,.O m3,.F,.O [.F]] [],.own (KR 0 4) tC m2 [],RI,.own (KR 0 6) tS [.F,.O [.F,.F,.O m3],.F,.O m2,.O [.F,.F,.O m3]] [],.own (KR 0 7) tW [.F,.F,.F,.O m3,.F] [],.own (KR 0 8) tW [.F,.F,.F,.O m3,.F] [],.own (KR 0 9) tB [.F,.O m3] []]],[[none,none,none,none,none,none,none,none,none,none]],[none]⟩ z))⟩
noncomputable def I9:List Fs:=zY::GV
theorem U2:aF CX av I9/\aW CX av zY:=dP Rx.1 zY Tryz.f7 ⟨7,1,25,4⟩ [] (fun _ _=>rfl) (fun _ _ _=>by kernel_rfl) trivial trivial (fun _ _ _ _ _=>by kernel_rfl)
noncomputable def bZ:Nat->T->T->T->(T->An)->An
 | 0,_,_,_,_=>.bad
 | m+1,x0,x1,x2,k0 =>
  cond ((decide (x0.int>=x1.int))==true)
  (k0 (T.b (decide (x0.int<=x2.int))))
  (k0 (T.b false))
noncomputable def Ja:Fs:=⟨97,[.one (AI),.one (AI),.one (AI)],fun m vs k=>ap 3 (bZ m) vs (lm 1 fun z=>k (bg ⟨[.one (RB)],[[none],[none],[none]],[none,none,none]⟩ z))⟩
noncomputable def QF:List Fs:=Ja::I9
theorem ab2:aF CX av QF/\aW CX av Ja:=dP U2.1 Ja Tryz.f97 ⟨97,3,15,64⟩ [] (fun _ _=>rfl) (fun _ _ _=>by kernel_rfl) trivial trivial (fun _ _ _ _ _=>by kernel_rfl)
noncomputable def gN (m:Nat):Nat->T->T->T->T->T->T->T->T->T->(T->An)->An->An
 | 0,_,_,_,_,_,_,_,_,_,_,_=>.bad
 | n+1,x0,x1,x2,x3,x4,x5,x6,x7,x8,k0,k1 =>
  cond (decide (x2.int<(x7.rows.length:Int)))
  (cond (decide ((0:Int)<=x2.int/\x2.int<(x7.rows.length:Int)))
  (cond (((x7.rows.getD (Int.toNat x2.int) []).getD 0 dflt).int==x0.int)
  (k0 x2)
  (gN m n x0 (T.i (x1.int.toNat:Int)) (T.i (IntKind.i64.wrap (x2.int+1))) x3 x4 x5 x6 x7 x8 k0 k1))
  (.bad))
  (k1 )
noncomputable def lS:Nat->T->T->T->T->T->T->T->(T->An)->An
 | 0,_,_,_,_,_,_,_,_=>.bad
 | m+1,x0,x1,x2,x3,x4,x5,x6,k0 =>
  gN m m x6 (T.i 0) (T.i 0) x0 x1 x2 (T.l x3.rows) (T.l x4.rows) x5
  (fun y0=>k0 y0)
  (k0 (T.i (-1)))
noncomputable def vg:Fs:=⟨98,[.agg [AI,AI,AI,.dz tJ [],.dz tC [],AI],.one (AI)],fun m vs k=>ap 7 (lS m) vs (lm 1 fun z=>k (bg ⟨[.one (RI)],[[none,none,none,none,none,none],[none]],[none,none]⟩ z))⟩
noncomputable def Py:List Ls:=[⟨[0,1,0,1],⟨[(1,.one (LI)),(2,EP 0),(5,.one (LI))],[((KI 0),.box [LI,LI,LI,LD tJ,LD tC,LI]),([4000000],.gone)]⟩,fun m n vs k=>ap 9 (gN m n) vs (lm 1 fun z=>k .ret (aB ⟨[(4,.one (LI))],[]⟩ z)) (lm 0 fun z=>k (.exit 0) (aB ⟨[],[]⟩ z))⟩]
noncomputable def Eh:List Fs:=vg::QF
theorem Pz:aF CX av Eh/\aW CX av vg:=dP ab2.1 vg Tryz.f98 ⟨98,2,22,16⟩ Py (fun _ _=>rfl) (fun _ _ _=>by kernel_rfl) ⟨fun _ _ _=>rfl,trivial⟩ ⟨fun _ _ _ _ _ _=>by kernel_rfl,trivial⟩ (fun _ _ _ _ _=>by kernel_rfl)
noncomputable def kg (m:Nat):Nat->T->T->(T->An)->(T->An)->An
 | 0,_,_,_,_=>.bad
 | n+1,x0,x1,k0,k1 =>
  cond (decide (x1.int<(x0.str.size:Int)))
  (cond (decide ((0:Int)<=x1.int/\x1.int<(x0.str.size:Int)))
  (bZ m (T.i (IntKind.i64.wrap ((x0.str.data.toList.getD (Int.toNat x1.int) 0).toNat:Int))) (T.i 97) (T.i 122)
  (fun y0=>cond ((!y0.bool)==true)
  (cond (decide ((0:Int)<=x1.int/\x1.int<(x0.str.size:Int)))
  (bZ m (T.i (IntKind.i64.wrap ((x0.str.data.toList.getD (Int.toNat x1.int) 0).toNat:Int))) (T.i 48) (T.i 57)
  (fun y1=>cond (!y1.bool)
  (k0 (T.b false))
  (kg m n x0 (T.i (IntKind.i64.wrap (x1.int+1))) k0 k1)))
  (.bad))
  (kg m n x0 (T.i (IntKind.i64.wrap (x1.int+1))) k0 k1)))
  (.bad))
  (k1 x0)
noncomputable def FN:Nat->T->(T->An)->An
 | 0,_,_=>.bad
 | m+1,x0,k0 =>
  kg m m x0 (T.i 0)
  (fun y3=>k0 y3)
  (fun y4=>bZ m (T.i (y4.str.size:Int)) (T.i 1) (T.i 12)
  (fun y5=>k0 y5))
noncomputable def FP:Fs:=⟨191,[.one (AS)],fun m vs k=>ap 1 (FN m) vs (lm 1 fun z=>k (bg ⟨[.one (RB)],[[none]],[none]⟩ z))⟩
noncomputable def Z9:List Ls:=[⟨[0,1,0,1],⟨[(0,.one (LS)),(3,.one (LI))],[]⟩,fun m n vs k=>ap 2 (kg m n) vs (lm 1 fun z=>k .ret (aB ⟨[(2,.one (LB))],[]⟩ z)) (lm 1 fun z=>k (.exit 0) (aB ⟨[(0,.one (LS))],[]⟩ z))⟩]
noncomputable def N7:List Fs:=FP::Eh
theorem aac:aF CX av N7/\aW CX av FP:=dP Pz.1 FP Tryz.f191 ⟨191,1,27,4⟩ Z9 (fun _ _=>rfl) (fun _ _ _=>by kernel_rfl) ⟨fun _ _ _=>rfl,trivial⟩ ⟨fun _ _ _ _ _ _=>by kernel_rfl,trivial⟩ (fun _ _ _ _ _=>by kernel_rfl)
noncomputable def Ki:Nat->T->T->T->(T->An)->An
 | 0,_,_,_,_=>.bad
 | m+1,x0,x1,x2,k0 =>
  bZ m x0 (T.i 1) (T.i 3)
  (fun y0=>cond ((!y0.bool)==false)
  (cond ((x0.int==2)==true)
  (cond (!(x2.str.toList==(⟨#[]⟩:ByteArray).toList))
  (k0 (T.b false))
  (FN m x1
  (fun y6=>cond (y6.bool==true)
  (k0 (T.b (decide ((x2.str.size:Int)<=20))))
  (k0 (T.b false)))))
  (FN m x1
  (fun y8=>cond (y8.bool==true)
  (k0 (T.b (decide ((x2.str.size:Int)<=20))))
  (k0 (T.b false)))))
  (k0 (T.b false)))
noncomputable def Jb:Fs:=⟨142,[.agg [AI,AS,AS]],fun m vs k=>ap 3 (Ki m) vs (lm 1 fun z=>k (bg ⟨[.one (RB)],[[none,none,none]],[none]⟩ z))⟩
noncomputable def QG:List Fs:=Jb::N7
theorem ab3:aF CX av QG/\aW CX av Jb:=dP aac.1 Jb Tryz.f142 ⟨142,1,26,4⟩ [] (fun _ _=>rfl) (fun _ _ _=>by kernel_rfl) trivial trivial (fun _ _ _ _ _=>by kernel_rfl)
noncomputable def kr (m:Nat):Nat->T->T->(T->An)->(T->An)->An
 | 0,_,_,_,_=>.bad
 | n+1,x0,x1,k0,k1 =>
  cond (decide (x1.int<(x0.rows.length:Int)))
  (cond (decide ((0:Int)<=x1.int/\x1.int<(x0.rows.length:Int)))
  (Ki m ((x0.rows.getD (Int.toNat x1.int) []).getD 0 dflt) ((x0.rows.getD (Int.toNat x1.int) []).getD 1 dflt) ((x0.rows.getD (Int.toNat x1.int) []).getD 2 dflt)
  (fun y0=>cond ((!y0.bool)==false)
  (cond ((decide (x1.int > 0))==true)
  (cond (decide ((0:Int)<=(IntKind.i64.wrap (x1.int-1))/\(IntKind.i64.wrap (x1.int-1))<(x0.rows.length:Int)))
  (cond (decide ((0:Int)<=x1.int/\x1.int<(x0.rows.length:Int)))
  (cond (!(Op.bytesLess (((x0.rows.getD (Int.toNat (IntKind.i64.wrap (x1.int-1))) []).drop 1).getD 0 dflt).str.toList (((x0.rows.getD (Int.toNat x1.int) []).drop 1).getD 0 dflt).str.toList))
  (k0 (T.b false))
  (kr m n x0 (T.i (IntKind.i64.wrap (x1.int+1))) k0 k1))
  (.bad))
  (.bad))
  (kr m n x0 (T.i (IntKind.i64.wrap (x1.int+1))) k0 k1))
  (k0 (T.b false))))
  (.bad))
  (k1 x0)
noncomputable def og:Nat->T->(T->An)->An
 | 0,_,_=>.bad
 | m+1,x0,k0 =>
  kr m m (T.l x0.rows) (T.i 0)
  (fun y2=>k0 y2)
  (fun y3=>bZ m (T.i (y3.rows.length:Int)) (T.i 1) (T.i 8)
  (fun y4=>k0 y4))
noncomputable def FQ:Fs:=⟨101,[.one (.dz tO [])],fun m vs k=>ap 1 (og m) vs (lm 1 fun z=>k (bg ⟨[.one (RB)],[[none]],[none]⟩ z))⟩
noncomputable def aad:List Ls:=[⟨[0,1,0,1],⟨[(0,.one (LD tO)),(3,.one (LI))],[([4000000],.gone)]⟩,fun m n vs k=>ap 2 (kr m n) vs (lm 1 fun z=>k .ret (aB ⟨[(2,.one (LB))],[]⟩ z)) (lm 1 fun z=>k (.exit 0) (aB ⟨[(0,.one (LD tO))],[([4000000],.gone)]⟩ z))⟩]
noncomputable def N8:List Fs:=FQ::QG
theorem aae:aF CX av N8/\aW CX av FQ:=dP ab3.1 FQ Tryz.f101 ⟨101,1,37,4⟩ aad (fun _ _=>rfl) (fun _ _ _=>by kernel_rfl) ⟨fun _ _ _=>rfl,trivial⟩ ⟨fun _ _ _ _ _ _=>by kernel_rfl,trivial⟩ (fun _ _ _ _ _=>by kernel_rfl)
noncomputable def nP (m:Nat):Nat->T->T->T->(T->An)->An
 | 0,_,_,_,_=>.bad
 | n+1,x0,x1,x2,k0 =>
  cond (decide (x2.int<(x0.str.size:Int)))
  (cond (decide ((0:Int)<=x2.int/\x2.int<(x0.str.size:Int)))
  (nP m n x0 (uR .i64 (BitVec.ofInt IntKind.i64.bits (IntKind.i64.wrap ((uR .i64 (BitVec.ofInt IntKind.i64.bits x1.int ^^^ BitVec.ofInt IntKind.i64.bits (IntKind.i64.wrap ((x0.str.data.toList.getD (Int.toNat x2.int) 0).toNat:Int)))).int * 16777619)) &&& BitVec.ofInt IntKind.i64.bits 4294967295)) (T.i (IntKind.i64.wrap (x2.int+1))) k0)
  (.bad))
  (k0 x1)
noncomputable def PD:Nat->T->(T->An)->An
 | 0,_,_=>.bad
 | m+1,x0,k0 =>
  nP m m x0 (T.i 2166136261) (T.i 0)
  (fun y0=>k0 y0)
noncomputable def Jc:Fs:=⟨144,[.one (AS)],fun m vs k=>ap 1 (PD m) vs (lm 1 fun z=>k (bg ⟨[.one (RI)],[[none]],[none]⟩ z))⟩
noncomputable def ab4:List Ls:=[⟨[0,1,0,1,1],⟨[(0,.one (LS)),(3,.one (LI)),(4,.one (LI))],[]⟩,fun m n vs k=>ap 3 (nP m n) vs (lm 1 fun z=>k (.exit 0) (aB ⟨[(3,.one (LI))],[]⟩ z))⟩]
noncomputable def QH:List Fs:=Jc::N8
theorem ab5:aF CX av QH/\aW CX av Jc:=dP aae.1 Jc Tryz.f144 ⟨144,1,20,4⟩ ab4 (fun _ _=>rfl) (fun _ _ _=>by kernel_rfl) ⟨fun _ _ _=>rfl,trivial⟩ ⟨fun _ _ _ _ _ _=>by kernel_rfl,trivial⟩ (fun _ _ _ _ _=>by kernel_rfl)
noncomputable def qy:Nat->T->T->(T->An)->An
 | 0,_,_,_=>.bad
 | m+1,x0,x1,k0 =>
  cond (decide (x1.int<1))
  (k0 (T.i 0))
  (PD m x0
  (fun y0=>cond (!decide (x1.int=0))
  (k0 (T.i (Int.tmod y0.int x1.int)))
  (.bad)))
noncomputable def zZ:Fs:=⟨105,[.one (AS),.one (AI)],fun m vs k=>ap 2 (qy m) vs (lm 1 fun z=>k (bg ⟨[.one (RI)],[[none],[none]],[none,none]⟩ z))⟩
noncomputable def Jd:List Fs:=zZ::QH
theorem U3:aF CX av Jd/\aW CX av zZ:=dP ab5.1 zZ Tryz.f105 ⟨105,2,11,16⟩ [] (fun _ _=>rfl) (fun _ _ _=>by kernel_rfl) trivial trivial (fun _ _ _ _ _=>by kernel_rfl)
noncomputable def mP (m:Nat):Nat->T->T->T->(T->An)->An->An
 | 0,_,_,_,_,_=>.bad
 | n+1,x0,x1,x2,k0,k1 =>
  cond (decide (x2.int<(x0.rows.length:Int)))
  (cond (decide ((0:Int)<=x2.int/\x2.int<(x0.rows.length:Int)))
  (cond (((x0.rows.getD (Int.toNat x2.int) []).getD 0 dflt).int==x1.int)
  (k0 (T.b true))
  (mP m n x0 x1 (T.i (IntKind.i64.wrap (x2.int+1))) k0 k1))
  (.bad))
  (k1 )
noncomputable def vk:Nat->T->T->(T->An)->An
 | 0,_,_,_=>.bad
 | m+1,x0,x1,k0 =>
  mP m m (T.l x0.rows) x1 (T.i 0)
  (fun y0=>k0 y0)
  (k0 (T.b false))
noncomputable def FR:Fs:=⟨141,[.one (.dz tI []),.one (AI)],fun m vs k=>ap 2 (vk m) vs (lm 1 fun z=>k (bg ⟨[.one (RB)],[[none],[none]],[none,none]⟩ z))⟩
noncomputable def aaf:List Ls:=[⟨[0,1,0,1],⟨[(0,.one (LD tI)),(1,.one (LI)),(5,.one (LI))],[([4000000],.gone)]⟩,fun m n vs k=>ap 3 (mP m n) vs (lm 1 fun z=>k .ret (aB ⟨[(4,.one (LB))],[]⟩ z)) (lm 0 fun z=>k (.exit 0) (aB ⟨[],[]⟩ z))⟩]
noncomputable def N9:List Fs:=FR::Jd
theorem aag:aF CX av N9/\aW CX av FR:=dP U3.1 FR Tryz.f141 ⟨141,2,18,16⟩ aaf (fun _ _=>rfl) (fun _ _ _=>by kernel_rfl) ⟨fun _ _ _=>rfl,trivial⟩ ⟨fun _ _ _ _ _ _=>by kernel_rfl,trivial⟩ (fun _ _ _ _ _=>by kernel_rfl)
noncomputable def mQ (m:Nat):Nat->T->T->T->(T->T->T->An)->An
 | 0,_,_,_,_=>.bad
 | n+1,x0,x1,x2,k0 =>
  jn (fun (j2:An) =>
  cond ((decide (x1.int > 0))==true)
  (cond (decide ((0:Int)<=(IntKind.i64.wrap (x1.int-1))/\(IntKind.i64.wrap (x1.int-1))<(x2.rows.length:Int)))
  (cond (decide ((Int.toNat (IntKind.i64.wrap (x1.int-1)))<x2.rows.length))
  (cond (decide (((x2.rows.getD (Int.toNat (IntKind.i64.wrap (x1.int-1))) []).getD 0 dflt).int > x0.int))
  (j2)
  (k0 x0 x1 (T.l x2.rows)))
  (.bad))
  (.bad))
  (k0 x0 x1 (T.l x2.rows)))
  (cond (decide ((0:Int)<=(IntKind.i64.wrap (x1.int-1))/\(IntKind.i64.wrap (x1.int-1))<(x2.rows.length:Int)))
  (cond (decide ((Int.toNat (IntKind.i64.wrap (x1.int-1)))<x2.rows.length))
  (cond (decide ((0:Int)<=x1.int/\x1.int<(x2.rows.length:Int)))
  (cond (decide ((Int.toNat x1.int)<x2.rows.length))
  (mQ m n x0 (T.i (IntKind.i64.wrap (x1.int-1))) (T.l (x2.rows.set (Int.toNat x1.int) ((x2.rows.getD (Int.toNat x1.int) []).set 0 ((x2.rows.getD (Int.toNat (IntKind.i64.wrap (x1.int-1))) []).getD 0 dflt)))) k0)
  (.bad))
  (.bad))
  (.bad))
  (.bad))
noncomputable def z8:Nat->T->T->(T->An)->An
 | 0,_,_,_=>.bad
 | m+1,x0,x1,k0 =>
  vk m (T.l x0.rows) x1
  (fun y0=>cond y0.bool
  (k0 (T.l x0.rows))
  (cond (decide ((0+x0.rows.length) * 1<=aS))
  (cond (decide ((x0.rows.length+1) * 1<=aS))
  (mQ m m x1 (T.i (IntKind.i64.wrap (((x0.rows++[[x1]]).length:Int)-1))) (T.l (x0.rows++[[x1]]))
  (fun y3 y4 y5=>cond (decide ((0:Int)<=y4.int/\y4.int<(y5.rows.length:Int)))
  (cond (decide ((Int.toNat y4.int)<y5.rows.length))
  (k0 (T.l (y5.rows.set (Int.toNat y4.int) ((y5.rows.getD (Int.toNat y4.int) []).set 0 y3))))
  (.bad))
  (.bad)))
  (.bad))
  (.bad)))
noncomputable def FT:Fs:=⟨145,[.one (.fz tI []),.one (AI)],fun m vs k=>ap 2 (z8 m) vs (lm 1 fun z=>k (bg ⟨[.one (.fz tI [])],[[none],[none]],[none,none]⟩ z))⟩
noncomputable def aah:List Ls:=[⟨[0,0,1,1,1,1],⟨[(1,.one (LI)),(5,.one (LA (KI 0) tI)),(6,.one (LI))],[((KI 0),.row tI [.F] [])]⟩,fun m n vs k=>ap 3 (mQ m n) vs (lm 3 fun z=>k (.exit 0) (aB ⟨[(1,.one (LI)),(5,.one (LA (KI 0) tI)),(6,.one (LI))],[((KI 0),.row tI [.F] [])]⟩ z))⟩]
noncomputable def Oa:List Fs:=FT::N9
theorem aai:aF CX av Oa/\aW CX av FT:=dP aag.1 FT Tryz.f145 ⟨145,2,46,16⟩ aah (fun _ _=>rfl) (fun _ _ _=>by kernel_rfl) ⟨fun _ _ _=>rfl,trivial⟩ ⟨fun _ _ _ _ _ _=>by kernel_rfl,trivial⟩ (fun _ _ _ _ _=>by kernel_rfl)
noncomputable def iQ (m:Nat):Nat->T->T->T->T->(T->An)->(T->An)->An
 | 0,_,_,_,_,_,_=>.bad
 | n+1,x0,x1,x2,x3,k0,k1 =>
  cond (decide (x3.int<(x0.rows.length:Int)))
  (cond (decide ((0:Int)<=x3.int/\x3.int<(x0.rows.length:Int)))
  (qy m (((x0.rows.getD (Int.toNat x3.int) []).drop 1).getD 0 dflt) x1
  (fun y2=>z8 m (T.l x2.rows) y2
  (fun y3=>iQ m n x0 x1 (T.l y3.rows) (T.i (IntKind.i64.wrap (x3.int+1))) k0 k1)))
  (.bad))
  (k0 x2)
noncomputable def oh (m:Nat):Nat->T->T->T->T->(T->An)->(T->An)->An
 | 0,_,_,_,_,_,_=>.bad
 | n+1,x0,x1,x2,x3,k0,k1 =>
  cond (decide (x2.int<(x0.rows.length:Int)))
  (cond (decide ((0:Int)<=x2.int/\x2.int<(x0.rows.length:Int)))
  (qy m (((x0.rows.getD (Int.toNat x2.int) []).drop 1).getD 0 dflt) x1
  (fun y0=>z8 m (T.l x3.rows) y0
  (fun y1=>iQ m n x0 x1 (T.l y1.rows) (T.i (IntKind.i64.wrap (x2.int+1))) k0 k1)))
  (.bad))
  (k1 (T.l x3.rows))
def Aa:Pack:=⟨[(5,.one (LZ tI))],[]⟩
def Ab:Pack:=⟨[(5,.one (LA (KI 0) tI))],[((KI 0),.fz tI [])]⟩
noncomputable def nA:Nat->T->T->(T->An)->An
 | 0,_,_,_=>.bad
 | m+1,x0,x1,k0 =>
  oh m m (T.l x0.rows) x1 (T.i 0) (T.l [])
  (fun y4=>k0 (T.l y4.rows))
  (fun y5=>k0 (T.l y5.rows))
noncomputable def xE:Fs:=⟨106,[.one (.dz tO []),.one (AI)],fun m vs k=>ap 2 (nA m) vs (lm 1 fun z=>k (bg ⟨[.one (.fz tI [])],[[none],[none]],[none,none]⟩ z))⟩
noncomputable def Ry:List Ls:=[⟨[0,1,0,1,1],⟨[(0,.one (LD tO)),(1,.one (LI)),(5,.one (LZ tI)),(6,.one (LI))],[([4000000],.gone)]⟩,fun m n vs k=>ap 4 (iQ m n) vs (lm 1 fun z=>k (.exit 0) (aB Aa z)) (lm 1 fun z=>k (.exit 0) (aB Ab z))⟩,⟨[0,1,0,1,1],⟨[(0,.one (LD tO)),(1,.one (LI)),(5,.one (LA (KI 1) tI)),(6,.one (LI))],[([4000000],.gone),((KI 1),.fz tI [])]⟩,fun m n vs k=>ap 4 (oh m n) vs (lm 1 fun z=>k (.exit 0) (aB Aa z)) (lm 1 fun z=>k (.exit 0) (aB Ab z))⟩]
noncomputable def GX:List Fs:=xE::Oa
theorem Rz:aF CX av GX/\aW CX av xE:=dP aai.1 xE Tryz.f106 ⟨106,2,24,16⟩ Ry (fun _ _=>rfl) (fun _ _ _=>by kernel_rfl) ⟨fun _ _ _=>rfl,fun _ _ _=>rfl,trivial⟩ ⟨fun _ _ _ _ _ _=>by kernel_rfl,fun _ _ _ _ _ _=>by kernel_rfl,trivial⟩ (fun _ _ _ _ _=>by kernel_rfl)
noncomputable def iR (m:Nat):Nat->T->T->T->T->T->T->T->T->T->T->T->T->T->T->(T->An)->(T->T->T->T->T->T->T->T->T->T->T->T->An)->An
 | 0,_,_,_,_,_,_,_,_,_,_,_,_,_,_,_,_=>.bad
 | n+1,x0,x1,x2,x3,x4,x5,x6,x7,x8,x9,x10,gy,o9,pU,k0,k1 =>
  cond (decide (x3.int<(pU.rows.length:Int)))
  ((fun (j17:An) =>
  cond (decide ((0:Int)<=x3.int/\x3.int<(pU.rows.length:Int)))
  (vk m (T.l x2.rows) ((pU.rows.getD (Int.toNat x3.int) []).getD 0 dflt)
  (fun O3=>cond ((!O3.bool)==false)
  (cond ((decide (x3.int > 0))==true)
  (cond (decide ((0:Int)<=(IntKind.i64.wrap (x3.int-1))/\(IntKind.i64.wrap (x3.int-1))<(pU.rows.length:Int)))
  (cond (decide ((0:Int)<=x3.int/\x3.int<(pU.rows.length:Int)))
  (cond (decide (((pU.rows.getD (Int.toNat (IntKind.i64.wrap (x3.int-1))) []).getD 0 dflt).int>=((pU.rows.getD (Int.toNat x3.int) []).getD 0 dflt).int))
  (k0 (T.b false))
  (j17))
  (.bad))
  (.bad))
  (j17))
  (k0 (T.b false))))
  (.bad))
  (iR m n (T.i (x0.int.toNat:Int)) (T.i (x1.int.toNat:Int)) x2 (T.i (IntKind.i64.wrap (x3.int+1))) x4 x5 x6 x7 x8 x9 x10 gy o9 pU k0 k1))
  (k1 (T.i (x0.int.toNat:Int)) (T.i (x1.int.toNat:Int)) x4 x5 x6 x7 x8 x9 x10 gy o9 pU)
noncomputable def BL:Nat->T->T->T->T->T->T->T->(T->An)->An
 | 0,_,_,_,_,_,_,_,_=>.bad
 | m+1,x0,x1,x2,x3,x4,x5,x6,k0 =>
  cond (decide ((0:Int)<=x6.int/\x6.int<(x3.rows.length:Int)))
  (jn (fun (j33:T->T->T->T->An) =>
  bZ m ((x3.rows.getD (Int.toNat x6.int) []).getD 0 dflt) (T.i (IntKind.i64.wrap (x1.int * 1000))) (T.i (IntKind.i64.wrap ((IntKind.i64.wrap ((IntKind.i64.wrap (x1.int * 1000))+x2.int))-1)))
  (fun y0=>cond ((!y0.bool)==false)
  (cond ((decide (x6.int > 0))==true)
  (cond (decide ((0:Int)<=(IntKind.i64.wrap (x6.int-1))/\(IntKind.i64.wrap (x6.int-1))<(x3.rows.length:Int)))
  (cond ((decide (((x3.rows.getD (Int.toNat (IntKind.i64.wrap (x6.int-1))) []).getD 0 dflt).int>=((x3.rows.getD (Int.toNat x6.int) []).getD 0 dflt).int))==false)
  (og m (T.l ((x3.rows.getD (Int.toNat x6.int) []).getD 1 dflt).rows)
  (fun y1=>cond ((!y1.bool)==false)
  (bZ m ((x3.rows.getD (Int.toNat x6.int) []).getD 2 dflt) (T.i 1) (T.i 3)
  (fun y2=>cond (!y2.bool)
  (k0 (T.b false))
  (j33 ((x3.rows.getD (Int.toNat x6.int) []).getD 0 dflt) ((x3.rows.getD (Int.toNat x6.int) []).getD 1 dflt) ((x3.rows.getD (Int.toNat x6.int) []).getD 2 dflt) ((x3.rows.getD (Int.toNat x6.int) []).getD 3 dflt))))
  (k0 (T.b false))))
  (k0 (T.b false)))
  (.bad))
  (og m (T.l ((x3.rows.getD (Int.toNat x6.int) []).getD 1 dflt).rows)
  (fun y3=>cond ((!y3.bool)==false)
  (bZ m ((x3.rows.getD (Int.toNat x6.int) []).getD 2 dflt) (T.i 1) (T.i 3)
  (fun y4=>cond (!y4.bool)
  (k0 (T.b false))
  (j33 ((x3.rows.getD (Int.toNat x6.int) []).getD 0 dflt) ((x3.rows.getD (Int.toNat x6.int) []).getD 1 dflt) ((x3.rows.getD (Int.toNat x6.int) []).getD 2 dflt) ((x3.rows.getD (Int.toNat x6.int) []).getD 3 dflt))))
  (k0 (T.b false)))))
  (k0 (T.b false))))
  (fun Ku Kj DX y13=>nA m (T.l Kj.rows) x0
  (fun Je=>iR m m (T.i 0) (T.i 0) (T.l Je.rows) (T.i 0) x0 x1 x2 (T.l x3.rows) (T.l x4.rows) x5 Ku Kj DX y13
  (fun Hy=>k0 Hy)
  (fun y19 y20 y21 y22 y23 y24 y25 y26 y27 y28 y29 y30=>lS m y21 y22 y23 (T.l y24.rows) (T.l y25.rows) y26 y27
  (fun y31=>cond (decide (y31.int<0))
  (k0 (T.b (y29.int==1)))
  (cond ((y29.int==2)==true)
  (cond (decide ((0:Int)<=y31.int/\y31.int<(y25.rows.length:Int)))
  (cond ((((y25.rows.getD (Int.toNat y31.int) []).drop 1).getD 0 dflt).bool==false)
  (cond ((y29.int==3)==true)
  (cond (decide ((0:Int)<=y31.int/\y31.int<(y25.rows.length:Int)))
  (k0 (T.b (!(((y25.rows.getD (Int.toNat y31.int) []).drop 1).getD 0 dflt).bool)))
  (.bad))
  (k0 (T.b false)))
  (k0 (T.b true)))
  (.bad))
  (cond ((y29.int==3)==true)
  (cond (decide ((0:Int)<=y31.int/\y31.int<(y25.rows.length:Int)))
  (k0 (T.b (!(((y25.rows.getD (Int.toNat y31.int) []).drop 1).getD 0 dflt).bool)))
  (.bad))
  (k0 (T.b false)))))))))
  (.bad)
noncomputable def Dk:Fs:=⟨99,[.agg [AI,AI,AI,.dz tJ [],.dz tC [],AI],.one (AI)],fun m vs k=>ap 7 (BL m) vs (lm 1 fun z=>k (bg ⟨[.one (RB)],[[none,none,none,none,none,none],[none]],[none,none]⟩ z))⟩
noncomputable def WZ:List Ls:=[⟨[0,1,0,1,1,1,1],⟨[(2,EP 0),(5,EP 1),(6,.one (LZ tI)),(7,.one (LI))],[((KI 0),.box [LI,LI,LI,LD tJ,LD tC,LI]),((KI 1),.box [LI,LD tO,LI,LD tI]),([4000000],.gone)]⟩,fun m n vs k=>ap 14 (iR m n) vs (lm 1 fun z=>k .ret (aB ⟨[(4,.one (LB))],[]⟩ z)) (lm 12 fun z=>k (.exit 0) (aB ⟨[(2,EP 0),(5,EP 1)],[((KI 0),.box [LI,LI,LI,LD tJ,LD tC,LI]),((KI 1),.box [LI,LD tO,LI,LD tI]),([4000000],.gone)]⟩ z))⟩]
noncomputable def K8:List Fs:=Dk::GX
theorem W9:aF CX av K8/\aW CX av Dk:=dP Rz.1 Dk Tryz.f99 ⟨99,2,128,16⟩ WZ (fun _ _=>rfl) (fun _ _ _=>by kernel_rfl) ⟨fun _ _ _=>rfl,trivial⟩ ⟨fun _ _ _ _ _ _=>by kernel_rfl,trivial⟩ (fun _ _ _ _ _=>by kernel_rfl)
noncomputable def jM (m:Nat):Nat->T->T->T->T->T->T->T->T->(T->An)->An->An
 | 0,_,_,_,_,_,_,_,_,_,_=>.bad
 | n+1,x0,x1,x2,x3,x4,x5,x6,x7,k0,k1 =>
  cond (decide (x1.int<(x5.rows.length:Int)))
  (BL m x2 x3 x4 (T.l x5.rows) (T.l x6.rows) x7 x1
  (fun K9=>cond (!K9.bool)
  (k0 (T.b false))
  (jM m n (T.i (x0.int.toNat:Int)) (T.i (IntKind.i64.wrap (x1.int+1))) x2 x3 x4 x5 x6 x7 k0 k1)))
  (k1 )
noncomputable def jN (m:Nat):Nat->T->T->T->T->T->T->T->T->(T->An)->(T->T->T->T->T->T->T->An)->An
 | 0,_,_,_,_,_,_,_,_,_,_=>.bad
 | n+1,x0,x1,x2,x3,x4,x5,x6,x7,k0,k1 =>
  cond (decide (x1.int<(x6.rows.length:Int)))
  (cond (decide ((0:Int)<=x1.int/\x1.int<(x6.rows.length:Int)))
  (bZ m ((x6.rows.getD (Int.toNat x1.int) []).getD 0 dflt) (T.i 1000) (T.i (IntKind.i64.wrap ((IntKind.i64.wrap ((IntKind.i64.wrap (x3.int * 1000))+x4.int))-1)))
  (fun y5=>cond ((!y5.bool)==false)
  (cond (decide ((0:Int)<=x1.int/\x1.int<(x6.rows.length:Int)))
  (lS m x2 x3 x4 (T.l x5.rows) (T.l x6.rows) x7 ((x6.rows.getD (Int.toNat x1.int) []).getD 0 dflt)
  (fun y6=>cond (y6.int != x1.int)
  (k0 (T.b false))
  (jN m n (T.i (x0.int.toNat:Int)) (T.i (IntKind.i64.wrap (x1.int+1))) x2 x3 x4 x5 x6 x7 k0 k1)))
  (.bad))
  (k0 (T.b false))))
  (.bad))
  (k1 (T.i (x0.int.toNat:Int)) x2 x3 x4 x5 x6 x7)
noncomputable def yJ:Nat->T->T->T->T->T->T->(T->An)->An
 | 0,_,_,_,_,_,_,_=>.bad
 | m+1,x0,x1,x2,x3,x4,x5,k0 =>
  jn (fun (j18:An) =>
  bZ m x0 (T.i 1) (T.i 8)
  (fun y0=>cond ((!y0.bool)==false)
  (bZ m x1 (T.i 1) (T.i 900)
  (fun y1=>cond ((!y1.bool)==false)
  (bZ m x2 (T.i 0) (T.i 999)
  (fun y2=>cond ((!y2.bool)==false)
  (cond ((decide ((x4.rows.length:Int) > 1000))==false)
  (bZ m x5 (T.i 0) (T.i (x4.rows.length:Int))
  (fun y3=>cond (!y3.bool)
  (k0 (T.b false))
  (j18)))
  (k0 (T.b false)))
  (k0 (T.b false))))
  (k0 (T.b false))))
  (k0 (T.b false))))
  (jN m m (T.i 0) (T.i 0) x0 x1 x2 (T.l x3.rows) (T.l x4.rows) x5
  (fun y8=>k0 y8)
  (fun y9 Ku Kj DX y13 Je O3=>jM m m (T.i (y9.int.toNat:Int)) (T.i 0) Ku Kj DX y13 Je O3
  (fun MN=>k0 MN)
  (k0 (T.b true))))
noncomputable def Ac:Fs:=⟨51,[.agg [AI,AI,AI,.dz tJ [],.dz tC [],AI]],fun m vs k=>ap 6 (yJ m) vs (lm 1 fun z=>k (bg ⟨[.one (RB)],[[none,none,none,none,none,none]],[none]⟩ z))⟩
noncomputable def U4:List Ls:=[⟨[0,1,0,1,1,1],⟨[(1,EP 0),(4,.one (LI))],[((KI 0),.box [LI,LI,LI,LD tJ,LD tC,LI]),([4000000],.gone)]⟩,fun m n vs k=>ap 8 (jM m n) vs (lm 1 fun z=>k .ret (aB ⟨[(2,.one (LB))],[]⟩ z)) (lm 0 fun z=>k (.exit 2) (aB ⟨[],[]⟩ z))⟩,⟨[0,1,0,1,1],⟨[(1,EP 0),(3,.one (LI))],[((KI 0),.box [LI,LI,LI,LD tJ,LD tC,LI]),([4000000],.gone)]⟩,fun m n vs k=>ap 8 (jN m n) vs (lm 1 fun z=>k .ret (aB ⟨[(2,.one (LB))],[]⟩ z)) (lm 7 fun z=>k (.exit 0) (aB ⟨[(1,EP 0)],[((KI 0),.box [LI,LI,LI,LD tJ,LD tC,LI]),([4000000],.gone)]⟩ z))⟩]
noncomputable def Jf:List Fs:=Ac::K8
theorem U5:aF CX av Jf/\aW CX av Ac:=dP W9.1 Ac Tryz.f51 ⟨51,1,81,4⟩ U4 (fun _ _=>rfl) (fun _ _ _=>by kernel_rfl) ⟨fun _ _ _=>rfl,fun _ _ _=>rfl,trivial⟩ ⟨fun _ _ _ _ _ _=>by kernel_rfl,fun _ _ _ _ _ _=>by kernel_rfl,trivial⟩ (fun _ _ _ _ _=>by kernel_rfl)
noncomputable def BM:Nat->T->T->T->T->T->(T->An)->An
 | 0,_,_,_,_,_,_=>.bad
 | m+1,x0,x1,x2,x3,x4,k0 =>
  jn (fun (j8:An) =>
  bZ m x1 (T.i 0) (T.i 7)
  (fun y0=>cond ((!y0.bool)==false)
  (bZ m x2 (T.i 1) (T.i 1000000)
  (fun y1=>cond (!y1.bool)
  (k0 (T.b false))
  (j8)))
  (k0 (T.b false))))
  (cond (x0.int==1)
  (og m (T.l x3.rows)
  (fun y3=>cond (y3.bool==true)
  (k0 (T.b (!x4.bool)))
  (k0 (T.b false))))
  ((fun (j7:T->An) =>
  cond (x0.int==2)
  (j7 (T.b true))
  (j7 (T.b (x0.int==3))))
  (fun y5=>cond y5.bool
  (k0 (T.b ((x3.rows.length:Int)==0)))
  (cond (x0.int==4)
  (cond (((x3.rows.length:Int)==0)==true)
  (k0 (T.b (!x4.bool)))
  (k0 (T.b false)))
  (k0 (T.b false))))))
noncomputable def Dl:Fs:=⟨100,[.agg [AI,AI,AI,.dz tO [],AB]],fun m vs k=>ap 5 (BM m) vs (lm 1 fun z=>k (bg ⟨[.one (RB)],[[none,none,none,none,none]],[none]⟩ z))⟩
noncomputable def La:List Fs:=Dl::Jf
theorem Xa:aF CX av La/\aW CX av Dl:=dP U5.1 Dl Tryz.f100 ⟨100,1,43,4⟩ [] (fun _ _=>rfl) (fun _ _ _=>by kernel_rfl) trivial trivial (fun _ _ _ _ _=>by kernel_rfl)
noncomputable def iT (m:Nat):Nat->T->T->T->T->T->T->T->T->T->T->T->T->T->(T->An)->(T->An)->An
 | 0,_,_,_,_,_,_,_,_,_,_,_,_,_,_,_=>.bad
 | n+1,x0,x1,x2,x3,x4,x5,x6,x7,x8,x9,x10,gy,o9,k0,k1 =>
  cond (decide (x2.int<(x0.rows.length:Int)))
  ((fun (j2:An) =>
  cond (decide ((0:Int)<=x2.int/\x2.int<(x0.rows.length:Int)))
  (BM m ((x0.rows.getD (Int.toNat x2.int) []).getD 0 dflt) ((x0.rows.getD (Int.toNat x2.int) []).getD 1 dflt) ((x0.rows.getD (Int.toNat x2.int) []).getD 2 dflt) (T.l ((x0.rows.getD (Int.toNat x2.int) []).getD 3 dflt).rows) ((x0.rows.getD (Int.toNat x2.int) []).getD 4 dflt)
  (fun y0=>cond ((!y0.bool)==false)
  (cond (decide ((0:Int)<=x2.int/\x2.int<(x0.rows.length:Int)))
  (cond (decide ((((x0.rows.getD (Int.toNat x2.int) []).drop 1).getD 0 dflt).int>=(x9.rows.length:Int)))
  (k0 (T.b false))
  (j2))
  (.bad))
  (k0 (T.b false))))
  (.bad))
  (iT m n x0 (T.i (x1.int.toNat:Int)) (T.i (IntKind.i64.wrap (x2.int+1))) x3 x4 x5 x6 x7 x8 x9 x10 gy o9 k0 k1))
  (k1 x0)
noncomputable def qO:Nat->T->T->T->T->T->T->T->T->T->T->T->(T->An)->An
 | 0,_,_,_,_,_,_,_,_,_,_,_,_=>.bad
 | m+1,x0,x1,x2,x3,x4,x5,x6,x7,x8,x9,x10,k0 =>
  iT m m (T.l x10.rows) (T.i 0) (T.i 0) x0 x1 x2 (T.l x3.rows) (T.l x4.rows) x5 (T.l x6.rows) (T.l x7.rows) (T.l x8.rows) (T.l x9.rows)
  (fun y3=>k0 y3)
  (fun y4=>k0 (T.b (decide ((y4.rows.length:Int)<=400))))
noncomputable def xG:Fs:=⟨52,[.agg [AI,AI,AI,.dz tJ [],.dz tC [],AI,.dz tS [],.dz tW [],.dz tW [],.dz tB []],.one (.dz tW [])],fun m vs k=>ap 11 (qO m) vs (lm 1 fun z=>k (bg ⟨[.one (RB)],[[none,none,none,none,none,none,none,none,none,none],[none]],[none,none]⟩ z))⟩
noncomputable def RA:List Ls:=[⟨[0,1,0,1],⟨[(1,.one (LD tW)),(2,EP 1),(5,.one (LI))],[([4000000],.gone),((KI 1),.box [LI,LI,LI,LD tJ,LD tC,LI,LD tS,LD tW,LD tW,LD tB])]⟩,fun m n vs k=>ap 13 (iT m n) vs (lm 1 fun z=>k .ret (aB ⟨[(4,.one (LB))],[]⟩ z)) (lm 1 fun z=>k (.exit 0) (aB ⟨[(1,.one (LD tW))],[([4000000],.gone)]⟩ z))⟩]
noncomputable def GY:List Fs:=xG::La
theorem RD:aF CX av GY/\aW CX av xG:=dP Xa.1 xG Tryz.f52 ⟨52,2,32,16⟩ RA (fun _ _=>rfl) (fun _ _ _=>by kernel_rfl) ⟨fun _ _ _=>rfl,trivial⟩ ⟨fun _ _ _ _ _ _=>by kernel_rfl,trivial⟩ (fun _ _ _ _ _=>by kernel_rfl)
noncomputable def iU (m:Nat):Nat->T->T->T->T->T->T->T->T->T->T->T->T->T->(T->An)->An->An
 | 0,_,_,_,_,_,_,_,_,_,_,_,_,_,_,_=>.bad
 | n+1,x0,x1,x2,x3,x4,x5,x6,x7,x8,x9,x10,gy,o9,k0,k1 =>
  cond (decide (x2.int<(o9.rows.length:Int)))
  (cond (decide ((0:Int)<=x2.int/\x2.int<(o9.rows.length:Int)))
  (cond (((o9.rows.getD (Int.toNat x2.int) []).getD 0 dflt).int==x0.int)
  (k0 x2)
  (iU m n x0 (T.i (x1.int.toNat:Int)) (T.i (IntKind.i64.wrap (x2.int+1))) x3 x4 x5 x6 x7 x8 x9 x10 gy o9 k0 k1))
  (.bad))
  (k1 )
noncomputable def kM:Nat->T->T->T->T->T->T->T->T->T->T->T->(T->An)->An
 | 0,_,_,_,_,_,_,_,_,_,_,_,_=>.bad
 | m+1,x0,x1,x2,x3,x4,x5,x6,x7,x8,x9,x10,k0 =>
  iU m m x10 (T.i 0) (T.i 0) x0 x1 x2 (T.l x3.rows) (T.l x4.rows) x5 (T.l x6.rows) (T.l x7.rows) (T.l x8.rows) (T.l x9.rows)
  (fun y0=>k0 y0)
  (k0 (T.i (-1)))
noncomputable def xH:Fs:=⟨57,[.agg [AI,AI,AI,.dz tJ [],.dz tC [],AI,.dz tS [],.dz tW [],.dz tW [],.dz tB []],.one (AI)],fun m vs k=>ap 11 (kM m) vs (lm 1 fun z=>k (bg ⟨[.one (RI)],[[none,none,none,none,none,none,none,none,none,none],[none]],[none,none]⟩ z))⟩
noncomputable def RF:List Ls:=[⟨[0,1,0,1],⟨[(1,.one (LI)),(2,EP 0),(5,.one (LI))],[((KI 0),.box [LI,LI,LI,LD tJ,LD tC,LI,LD tS,LD tW,LD tW,LD tB]),([4000000],.gone)]⟩,fun m n vs k=>ap 13 (iU m n) vs (lm 1 fun z=>k .ret (aB ⟨[(4,.one (LI))],[]⟩ z)) (lm 0 fun z=>k (.exit 0) (aB ⟨[],[]⟩ z))⟩]
noncomputable def GZ:List Fs:=xH::GY
theorem RG:aF CX av GZ/\aW CX av xH:=dP RD.1 xH Tryz.f57 ⟨57,2,22,16⟩ RF (fun _ _=>rfl) (fun _ _ _=>by kernel_rfl) ⟨fun _ _ _=>rfl,trivial⟩ ⟨fun _ _ _ _ _ _=>by kernel_rfl,trivial⟩ (fun _ _ _ _ _=>by kernel_rfl)
noncomputable def gP (m:Nat):Nat->T->T->T->(T->An)->An->An
 | 0,_,_,_,_,_=>.bad
 | n+1,x0,x1,x2,k0,k1 =>
  cond (decide (x2.int<(x0.rows.length:Int)))
  (cond (decide ((0:Int)<=x2.int/\x2.int<(x0.rows.length:Int)))
  (cond (decide ((0:Int)<=x2.int/\x2.int<(x1.rows.length:Int)))
  (cond (!((((x0.rows.getD (Int.toNat x2.int) []).getD 0 dflt).int==((x1.rows.getD (Int.toNat x2.int) []).getD 0 dflt).int)&&((((x0.rows.getD (Int.toNat x2.int) []).getD 1 dflt).str.toList==((x1.rows.getD (Int.toNat x2.int) []).getD 1 dflt).str.toList)&&((((x0.rows.getD (Int.toNat x2.int) []).getD 2 dflt).str.toList==((x1.rows.getD (Int.toNat x2.int) []).getD 2 dflt).str.toList)&&true))))
  (k0 (T.b false))
  (gP m n x0 x1 (T.i (IntKind.i64.wrap (x2.int+1))) k0 k1))
  (.bad))
  (.bad))
  (k1 )
noncomputable def lT:Nat->T->T->(T->An)->An
 | 0,_,_,_=>.bad
 | m+1,x0,x1,k0 =>
  cond ((x0.rows.length:Int) != (x1.rows.length:Int))
  (k0 (T.b false))
  (gP m m (T.l x0.rows) (T.l x1.rows) (T.i 0)
  (fun y0=>k0 y0)
  (k0 (T.b true)))
noncomputable def vv:Fs:=⟨58,[.one (.dz tO []),.one (.dz tO [])],fun m vs k=>ap 2 (lT m) vs (lm 1 fun z=>k (bg ⟨[.one (RB)],[[none],[none]],[none,none]⟩ z))⟩
noncomputable def PE:List Ls:=[⟨[0,1,0,1,1],⟨[(0,.one (LD tO)),(1,.one (LD tO)),(5,.one (LI))],[([4000000],.gone)]⟩,fun m n vs k=>ap 3 (gP m n) vs (lm 1 fun z=>k .ret (aB ⟨[(4,.one (LB))],[]⟩ z)) (lm 0 fun z=>k (.exit 0) (aB ⟨[],[]⟩ z))⟩]
noncomputable def Ei:List Fs:=vv::GZ
theorem PG:aF CX av Ei/\aW CX av vv:=dP RG.1 vv Tryz.f58 ⟨58,2,26,16⟩ PE (fun _ _=>rfl) (fun _ _ _=>by kernel_rfl) ⟨fun _ _ _=>rfl,trivial⟩ ⟨fun _ _ _ _ _ _=>by kernel_rfl,trivial⟩ (fun _ _ _ _ _=>by kernel_rfl)
noncomputable def gQ (m:Nat):Nat->T->T->T->T->T->T->T->T->T->T->T->T->(T->An)->(T->T->T->T->T->T->T->T->T->T->T->An)->An
 | 0,_,_,_,_,_,_,_,_,_,_,_,_,_,_=>.bad
 | n+1,x0,x1,x2,x3,x4,x5,x6,x7,x8,x9,x10,gy,k0,k1 =>
  cond (decide (x1.int<(x6.rows.length:Int)))
  (cond (decide ((0:Int)<=x1.int/\x1.int<(x6.rows.length:Int)))
  (kM m x2 x3 x4 (T.l x5.rows) (T.l x6.rows) x7 (T.l x8.rows) (T.l x9.rows) (T.l x10.rows) (T.l gy.rows) ((x6.rows.getD (Int.toNat x1.int) []).getD 0 dflt)
  (fun y33=>cond (decide (y33.int<0))
  (k0 (T.b false))
  (gQ m n (T.i (x0.int.toNat:Int)) (T.i (IntKind.i64.wrap (x1.int+1))) x2 x3 x4 x5 x6 x7 x8 x9 x10 gy k0 k1)))
  (.bad))
  (k1 (T.i (x0.int.toNat:Int)) x2 x3 x4 x5 x6 x7 x8 x9 x10 gy)
noncomputable def gT (m:Nat):Nat->T->T->T->T->T->T->T->T->T->T->T->T->(T->An)->(T->T->T->T->T->T->T->T->T->T->T->An)->An
 | 0,_,_,_,_,_,_,_,_,_,_,_,_,_,_=>.bad
 | n+1,x0,x1,x2,x3,x4,x5,x6,x7,x8,x9,x10,gy,k0,k1 =>
  cond (decide (x1.int<(x5.rows.length:Int)))
  ((fun (j20:An) =>
  cond (decide ((0:Int)<=x1.int/\x1.int<(x5.rows.length:Int)))
  (kM m x2 x3 x4 (T.l x5.rows) (T.l x6.rows) x7 (T.l x8.rows) (T.l x9.rows) (T.l x10.rows) (T.l gy.rows) ((x5.rows.getD (Int.toNat x1.int) []).getD 0 dflt)
  (fun MN=>cond ((decide (MN.int<0))==false)
  (cond (decide ((0:Int)<=MN.int/\MN.int<(gy.rows.length:Int)))
  (cond (decide ((0:Int)<=x1.int/\x1.int<(x5.rows.length:Int)))
  (lT m (T.l (((gy.rows.getD (Int.toNat MN.int) []).drop 1).getD 0 dflt).rows) (T.l (((x5.rows.getD (Int.toNat x1.int) []).drop 1).getD 0 dflt).rows)
  (fun Hy=>cond (!Hy.bool)
  (k0 (T.b false))
  (j20)))
  (.bad))
  (.bad))
  (k0 (T.b false))))
  (.bad))
  (gT m n (T.i (x0.int.toNat:Int)) (T.i (IntKind.i64.wrap (x1.int+1))) x2 x3 x4 x5 x6 x7 x8 x9 x10 gy k0 k1))
  (k1 (T.i (x0.int.toNat:Int)) x2 x3 x4 x5 x6 x7 x8 x9 x10 gy)
noncomputable def gU (m:Nat):Nat->T->T->T->T->T->T->T->T->T->T->T->T->(T->An)->(T->T->T->T->T->T->T->T->T->T->T->An)->An
 | 0,_,_,_,_,_,_,_,_,_,_,_,_,_,_=>.bad
 | n+1,x0,x1,x2,x3,x4,x5,x6,x7,x8,x9,x10,gy,k0,k1 =>
  cond (decide (x1.int<(gy.rows.length:Int)))
  ((fun (j4:An) =>
  cond (decide ((0:Int)<=x1.int/\x1.int<(gy.rows.length:Int)))
  (og m (T.l (((gy.rows.getD (Int.toNat x1.int) []).drop 1).getD 0 dflt).rows)
  (fun y0=>cond ((!y0.bool)==false)
  (cond (decide ((0:Int)<=x1.int/\x1.int<(gy.rows.length:Int)))
  (kM m x2 x3 x4 (T.l x5.rows) (T.l x6.rows) x7 (T.l x8.rows) (T.l x9.rows) (T.l x10.rows) (T.l gy.rows) ((gy.rows.getD (Int.toNat x1.int) []).getD 0 dflt)
  (fun y1=>cond ((y1.int != x1.int)==false)
  (cond (decide ((0:Int)<=x1.int/\x1.int<(gy.rows.length:Int)))
  (bZ m ((gy.rows.getD (Int.toNat x1.int) []).getD 0 dflt) (T.i 1000) (T.i (IntKind.i64.wrap ((IntKind.i64.wrap ((IntKind.i64.wrap (x3.int * 1000))+x4.int))-1)))
  (fun y2=>cond (!y2.bool)
  (k0 (T.b false))
  (j4)))
  (.bad))
  (k0 (T.b false))))
  (.bad))
  (k0 (T.b false))))
  (.bad))
  (gU m n (T.i (x0.int.toNat:Int)) (T.i (IntKind.i64.wrap (x1.int+1))) x2 x3 x4 x5 x6 x7 x8 x9 x10 gy k0 k1))
  (k1 (T.i (x0.int.toNat:Int)) x2 x3 x4 x5 x6 x7 x8 x9 x10 gy)
noncomputable def tQ:Nat->T->T->T->T->T->T->T->T->T->T->(T->An)->An
 | 0,_,_,_,_,_,_,_,_,_,_,_=>.bad
 | m+1,x0,x1,x2,x3,x4,x5,x6,x7,x8,x9,k0 =>
  gU m m (T.i 0) (T.i 0) x0 x1 x2 (T.l x3.rows) (T.l x4.rows) x5 (T.l x6.rows) (T.l x7.rows) (T.l x8.rows) (T.l x9.rows)
  (fun y5=>k0 y5)
  (fun y6 y7 y8 y9 Ku Kj DX y13 Je O3 K9=>gT m m (T.i (y6.int.toNat:Int)) (T.i 0) y7 y8 y9 Ku Kj DX y13 Je O3 K9
  (fun y21=>k0 y21)
  (fun y22 y23 y24 y25 y26 y27 y28 y29 y30 y31 y32=>gQ m m (T.i (y22.int.toNat:Int)) (T.i 0) y23 y24 y25 y26 y27 y28 y29 y30 y31 y32
  (fun y34=>k0 y34)
  (fun y35 y36 y37 y38 y39 y40 y41 y42 y43 y44 y45=>k0 (T.b (decide ((y45.rows.length:Int)<=1000))))))
noncomputable def vw:Fs:=⟨53,[.agg [AI,AI,AI,.dz tJ [],.dz tC [],AI,.dz tS [],.dz tW [],.dz tW [],.dz tB []]],fun m vs k=>ap 10 (tQ m) vs (lm 1 fun z=>k (bg ⟨[.one (RB)],[[none,none,none,none,none,none,none,none,none,none]],[none]⟩ z))⟩
noncomputable def PI:List Ls:=[⟨[0,1,0,1,1,1],⟨[(1,EP 0),(6,.one (LI))],[((KI 0),.box [LI,LI,LI,LD tJ,LD tC,LI,LD tS,LD tW,LD tW,LD tB]),([4000000],.gone)]⟩,fun m n vs k=>ap 12 (gQ m n) vs (lm 1 fun z=>k .ret (aB ⟨[(2,.one (LB))],[]⟩ z)) (lm 11 fun z=>k (.exit 4) (aB ⟨[(1,EP 0)],[((KI 0),.box [LI,LI,LI,LD tJ,LD tC,LI,LD tS,LD tW,LD tW,LD tB]),([4000000],.gone)]⟩ z))⟩,⟨[0,1,0,1,1],⟨[(1,EP 0),(4,.one (LI))],[((KI 0),.box [LI,LI,LI,LD tJ,LD tC,LI,LD tS,LD tW,LD tW,LD tB]),([4000000],.gone)]⟩,fun m n vs k=>ap 12 (gT m n) vs (lm 1 fun z=>k .ret (aB ⟨[(2,.one (LB))],[]⟩ z)) (lm 11 fun z=>k (.exit 2) (aB ⟨[(1,EP 0)],[((KI 0),.box [LI,LI,LI,LD tJ,LD tC,LI,LD tS,LD tW,LD tW,LD tB]),([4000000],.gone)]⟩ z))⟩,⟨[0,1,0,1],⟨[(1,EP 0),(3,.one (LI))],[((KI 0),.box [LI,LI,LI,LD tJ,LD tC,LI,LD tS,LD tW,LD tW,LD tB]),([4000000],.gone)]⟩,fun m n vs k=>ap 12 (gU m n) vs (lm 1 fun z=>k .ret (aB ⟨[(2,.one (LB))],[]⟩ z)) (lm 11 fun z=>k (.exit 0) (aB ⟨[(1,EP 0)],[((KI 0),.box [LI,LI,LI,LD tJ,LD tC,LI,LD tS,LD tW,LD tW,LD tB]),([4000000],.gone)]⟩ z))⟩]
noncomputable def Ej:List Fs:=vw::Ei
theorem PK:aF CX av Ej/\aW CX av vw:=dP PG.1 vw Tryz.f53 ⟨53,1,111,4⟩ PI (fun _ _=>rfl) (fun _ _ _=>by kernel_rfl) ⟨fun _ _ _=>rfl,fun _ _ _=>rfl,fun _ _ _=>rfl,trivial⟩ ⟨fun _ _ _ _ _ _=>by kernel_rfl,fun _ _ _ _ _ _=>by kernel_rfl,fun _ _ _ _ _ _=>by kernel_rfl,trivial⟩ (fun _ _ _ _ _=>by kernel_rfl)
noncomputable def nQ (m:Nat):Nat->T->T->T->(T->An)->An->An
 | 0,_,_,_,_,_=>.bad
 | n+1,x0,x1,x2,k0,k1 =>
  cond (decide (x2.int<(x0.rows.length:Int)))
  (cond (decide ((0:Int)<=x2.int/\x2.int<(x0.rows.length:Int)))
  (cond ((((x0.rows.getD (Int.toNat x2.int) []).drop 1).getD 0 dflt).int==x1.int)
  (k0 x2)
  (nQ m n x0 x1 (T.i (IntKind.i64.wrap (x2.int+1))) k0 k1))
  (.bad))
  (k1 )
noncomputable def Kk:Nat->T->T->(T->An)->An
 | 0,_,_,_=>.bad
 | m+1,x0,x1,k0 =>
  nQ m m (T.l x0.rows) x1 (T.i 0)
  (fun y0=>k0 y0)
  (k0 (T.i (-1)))
noncomputable def Jg:Fs:=⟨192,[.one (.dz tR []),.one (AI)],fun m vs k=>ap 2 (Kk m) vs (lm 1 fun z=>k (bg ⟨[.one (RI)],[[none],[none]],[none,none]⟩ z))⟩
noncomputable def ab6:List Ls:=[⟨[0,1,0,1],⟨[(0,.one (LD tR)),(1,.one (LI)),(5,.one (LI))],[([4000000],.gone)]⟩,fun m n vs k=>ap 3 (nQ m n) vs (lm 1 fun z=>k .ret (aB ⟨[(4,.one (LI))],[]⟩ z)) (lm 0 fun z=>k (.exit 0) (aB ⟨[],[]⟩ z))⟩]
noncomputable def QI:List Fs:=Jg::Ej
theorem ab7:aF CX av QI/\aW CX av Jg:=dP PK.1 Jg Tryz.f192 ⟨192,2,20,16⟩ ab6 (fun _ _=>rfl) (fun _ _ _=>by kernel_rfl) ⟨fun _ _ _=>rfl,trivial⟩ ⟨fun _ _ _ _ _ _=>by kernel_rfl,trivial⟩ (fun _ _ _ _ _=>by kernel_rfl)
noncomputable def FU:Nat->T->T->T->(T->An)->An
 | 0,_,_,_,_=>.bad
 | m+1,x0,x1,x2,k0 =>
  bZ m x1 (T.i 1) (T.i 1000000)
  (fun y0=>cond (!y0.bool)
  (k0 (T.b false))
  (cond (x0.int==1)
  (og m (T.l x2.rows)
  (fun y1=>k0 y1))
  (cond (x0.int==2)
  (k0 (T.b ((x2.rows.length:Int)==0)))
  (cond (x0.int==3)
  (k0 (T.b ((x2.rows.length:Int)==0)))
  (k0 (T.b false))))))
noncomputable def FV:Fs:=⟨193,[.agg [AI,AI,.dz tO []]],fun m vs k=>ap 3 (FU m) vs (lm 1 fun z=>k (bg ⟨[.one (RB)],[[none,none,none]],[none]⟩ z))⟩
noncomputable def Ob:List Fs:=FV::QI
theorem aaj:aF CX av Ob/\aW CX av FV:=dP ab7.1 FV Tryz.f193 ⟨193,1,21,4⟩ [] (fun _ _=>rfl) (fun _ _ _=>by kernel_rfl) trivial trivial (fun _ _ _ _ _=>by kernel_rfl)
noncomputable def iV (m:Nat):Nat->T->T->T->T->T->(T->An)->(T->T->T->T->An)->An
 | 0,_,_,_,_,_,_,_=>.bad
 | n+1,x0,x1,x2,x3,x4,k0,k1 =>
  cond (decide (x4.int<(x1.rows.length:Int)))
  (cond (decide ((0:Int)<=x2.int/\x2.int<(x0.rows.length:Int)))
  (cond (decide ((0:Int)<=x3.int/\x3.int<((((x0.rows.getD (Int.toNat x2.int) []).drop 2).getD 0 dflt).rows.length:Int)))
  (cond (decide ((0:Int)<=x4.int/\x4.int<(x1.rows.length:Int)))
  (cond (((((((x0.rows.getD (Int.toNat x2.int) []).drop 2).getD 0 dflt).rows.getD (Int.toNat x3.int) []).drop 1).getD 0 dflt).str.toList==(((x1.rows.getD (Int.toNat x4.int) []).drop 1).getD 0 dflt).str.toList)
  (k0 (T.b true))
  (iV m n x0 x1 x2 x3 (T.i (IntKind.i64.wrap (x4.int+1))) k0 k1))
  (.bad))
  (.bad))
  (.bad))
  (k1 x0 x1 x2 x3)
noncomputable def iW (m:Nat):Nat->T->T->T->T->(T->An)->(T->T->T->An)->An
 | 0,_,_,_,_,_,_=>.bad
 | n+1,x0,x1,x2,x3,k0,k1 =>
  cond (decide ((0:Int)<=x2.int/\x2.int<(x0.rows.length:Int)))
  (cond (decide (x3.int<((((x0.rows.getD (Int.toNat x2.int) []).drop 2).getD 0 dflt).rows.length:Int)))
  (iV m n x0 x1 x2 x3 (T.i 0)
  (fun y0=>k0 y0)
  (fun y1 y2 y3 y4=>iW m n y1 y2 y3 (T.i (IntKind.i64.wrap (y4.int+1))) k0 k1))
  (k1 x0 x1 x2))
  (.bad)
noncomputable def iX (m:Nat):Nat->T->T->T->(T->An)->An->An
 | 0,_,_,_,_,_=>.bad
 | n+1,x0,x1,x2,k0,k1 =>
  cond (decide (x2.int<(x0.rows.length:Int)))
  (iW m n x0 x1 x2 (T.i 0)
  (fun y5=>k0 y5)
  (fun y6 y7 y8=>iX m n y6 y7 (T.i (IntKind.i64.wrap (y8.int+1))) k0 k1))
  (k1 )
noncomputable def vT:Nat->T->T->(T->An)->An
 | 0,_,_,_=>.bad
 | m+1,x0,x1,k0 =>
  iX m m (T.l x0.rows) (T.l x1.rows) (T.i 0)
  (fun y9=>k0 y9)
  (k0 (T.b false))
noncomputable def xI:Fs:=⟨194,[.one (.dz tR []),.one (.dz tO [])],fun m vs k=>ap 2 (vT m) vs (lm 1 fun z=>k (bg ⟨[.one (RB)],[[none],[none]],[none,none]⟩ z))⟩
noncomputable def RH:List Ls:=[⟨[0,1,0,0,1,0,0,1,0,0,1,0,0,1,0,1],⟨[(0,.one (LD tR)),(1,.one (LD tO)),(5,.one (LI)),(6,.one (LI)),(7,.one (LI))],[([4000000],.gone)]⟩,fun m n vs k=>ap 5 (iV m n) vs (lm 1 fun z=>k .ret (aB ⟨[(4,.one (LB))],[]⟩ z)) (lm 4 fun z=>k (.exit 4) (aB ⟨[(0,.one (LD tR)),(1,.one (LD tO)),(5,.one (LI)),(6,.one (LI))],[([4000000],.gone)]⟩ z))⟩,⟨[0,1,0,0,1,0,0,1,0,1],⟨[(0,.one (LD tR)),(1,.one (LD tO)),(5,.one (LI)),(6,.one (LI))],[([4000000],.gone)]⟩,fun m n vs k=>ap 4 (iW m n) vs (lm 1 fun z=>k .ret (aB ⟨[(4,.one (LB))],[]⟩ z)) (lm 3 fun z=>k (.exit 2) (aB ⟨[(0,.one (LD tR)),(1,.one (LD tO)),(5,.one (LI))],[([4000000],.gone)]⟩ z))⟩,⟨[0,1,0,1],⟨[(0,.one (LD tR)),(1,.one (LD tO)),(5,.one (LI))],[([4000000],.gone)]⟩,fun m n vs k=>ap 3 (iX m n) vs (lm 1 fun z=>k .ret (aB ⟨[(4,.one (LB))],[]⟩ z)) (lm 0 fun z=>k (.exit 0) (aB ⟨[],[]⟩ z))⟩]
noncomputable def G5:List Fs:=xI::Ob
theorem RJ:aF CX av G5/\aW CX av xI:=dP aaj.1 xI Tryz.f194 ⟨194,2,45,16⟩ RH (fun _ _=>rfl) (fun _ _ _=>by kernel_rfl) ⟨fun _ _ _=>rfl,fun _ _ _=>rfl,fun _ _ _=>rfl,trivial⟩ ⟨fun _ _ _ _ _ _=>by kernel_rfl,fun _ _ _ _ _ _=>by kernel_rfl,fun _ _ _ _ _ _=>by kernel_rfl,trivial⟩ (fun _ _ _ _ _=>by kernel_rfl)
noncomputable def kV (m:Nat):Nat->T->T->T->(T->T->An)->An->An
 | 0,_,_,_,_,_=>.bad
 | n+1,x0,x1,x2,k0,k1 =>
  cond (decide (x2.int<(x0.rows.length:Int)))
  (cond (decide ((0:Int)<=x2.int/\x2.int<(x0.rows.length:Int)))
  (cond (((x0.rows.getD (Int.toNat x2.int) []).getD 0 dflt).str.toList==x1.str.toList)
  (cond (decide ((0:Int)<=x2.int/\x2.int<(x0.rows.length:Int)))
  (k0 (((x0.rows.getD (Int.toNat x2.int) []).drop 1).getD 0 dflt) (T.b true))
  (.bad))
  (kV m n x0 x1 (T.i (IntKind.i64.wrap (x2.int+1))) k0 k1))
  (.bad))
  (k1 )
noncomputable def BN:Nat->T->T->(T->T->An)->An
 | 0,_,_,_=>.bad
 | m+1,x0,x1,k0 =>
  kV m m (T.l x0.rows) x1 (T.i 0)
  (fun y0 y1=>k0 y0 y1)
  (k0 (T.s (⟨#[]⟩:ByteArray)) (T.b false))
noncomputable def Dm:Fs:=⟨223,[.one (.dz tP []),.one (AS)],fun m vs k=>ap 2 (BN m) vs (lm 2 fun z=>k (bg ⟨[.one (RS),.one (RB)],[[none],[none]],[none,none]⟩ z))⟩
noncomputable def Xb:List Ls:=[⟨[0,1,0,1],⟨[(0,.one (LD tP)),(1,.one (LS)),(6,.one (LI))],[([4000000],.gone)]⟩,fun m n vs k=>ap 3 (kV m n) vs (lm 2 fun z=>k .ret (aB ⟨[(4,.one (LS)),(5,.one (LB))],[]⟩ z)) (lm 0 fun z=>k (.exit 0) (aB ⟨[],[]⟩ z))⟩]
noncomputable def Lb:List Fs:=Dm::G5
theorem Xc:aF CX av Lb/\aW CX av Dm:=dP RJ.1 Dm Tryz.f223 ⟨223,2,25,48⟩ Xb (fun _ _=>rfl) (fun _ _ _=>by kernel_rfl) ⟨fun _ _ _=>rfl,trivial⟩ ⟨fun _ _ _ _ _ _=>by kernel_rfl,trivial⟩ (fun _ _ _ _ _=>by kernel_rfl)
noncomputable def ku (m:Nat):Nat->T->T->T->(T->An)->An->An
 | 0,_,_,_,_,_=>.bad
 | n+1,x0,x1,x2,k0,k1 =>
  cond (decide (x2.int<(x1.rows.length:Int)))
  (cond (decide ((0:Int)<=x2.int/\x2.int<(x1.rows.length:Int)))
  (cond (((x1.rows.getD (Int.toNat x2.int) []).getD 0 dflt).int != 3)
  (ku m n x0 x1 (T.i (IntKind.i64.wrap (x2.int+1))) k0 k1)
  (cond (decide ((0:Int)<=x2.int/\x2.int<(x1.rows.length:Int)))
  (BN m (T.l x0.rows) (((x1.rows.getD (Int.toNat x2.int) []).drop 1).getD 0 dflt)
  (fun y0 y1=>cond (decide ((0:Int)<=x2.int/\x2.int<(x1.rows.length:Int)))
  (cond ((!(y1.bool==(!((((x1.rows.getD (Int.toNat x2.int) []).drop 2).getD 0 dflt).str.toList==(⟨#[]⟩:ByteArray).toList))))==false)
  (cond (decide ((0:Int)<=x2.int/\x2.int<(x1.rows.length:Int)))
  (cond (!(y0.str.toList==(((x1.rows.getD (Int.toNat x2.int) []).drop 2).getD 0 dflt).str.toList))
  (k0 (T.b false))
  (ku m n x0 x1 (T.i (IntKind.i64.wrap (x2.int+1))) k0 k1))
  (.bad))
  (k0 (T.b false)))
  (.bad)))
  (.bad)))
  (.bad))
  (k1 )
noncomputable def FW:Nat->T->T->(T->An)->An
 | 0,_,_,_=>.bad
 | m+1,x0,x1,k0 =>
  ku m m (T.l x0.rows) (T.l x1.rows) (T.i 0)
  (fun y3=>k0 y3)
  (k0 (T.b true))
noncomputable def FX:Fs:=⟨195,[.one (.dz tP []),.one (.dz tO [])],fun m vs k=>ap 2 (FW m) vs (lm 1 fun z=>k (bg ⟨[.one (RB)],[[none],[none]],[none,none]⟩ z))⟩
noncomputable def aak:List Ls:=[⟨[0,1,0,1],⟨[(0,.one (LD tP)),(1,.one (LD tO)),(5,.one (LI))],[([4000000],.gone)]⟩,fun m n vs k=>ap 3 (ku m n) vs (lm 1 fun z=>k .ret (aB ⟨[(4,.one (LB))],[]⟩ z)) (lm 0 fun z=>k (.exit 0) (aB ⟨[],[]⟩ z))⟩]
noncomputable def Oc:List Fs:=FX::Lb
theorem aal:aF CX av Oc/\aW CX av FX:=dP Xc.1 FX Tryz.f195 ⟨195,2,47,16⟩ aak (fun _ _=>rfl) (fun _ _ _=>by kernel_rfl) ⟨fun _ _ _=>rfl,trivial⟩ ⟨fun _ _ _ _ _ _=>by kernel_rfl,trivial⟩ (fun _ _ _ _ _=>by kernel_rfl)
noncomputable def tV:Nat->T->(T->An)->An
 | 0,_,_=>.bad
 | m+1,x0,k0 =>
  cond (decide ((0+x0.rows.length) * 3<=aS))
  (k0 (T.l x0.rows))
  (.bad)
noncomputable def vB:Fs:=⟨166,[.one (.dz tO [])],fun m vs k=>ap 1 (tV m) vs (lm 1 fun z=>k (bg ⟨[.one (.own (KR 0 0) tO m3 [])],[[none]],[none]⟩ z))⟩
noncomputable def El:List Fs:=vB::Oc
theorem PL:aF CX av El/\aW CX av vB:=dP aal.1 vB Tryz.f166 ⟨166,1,6,4⟩ [] (fun _ _=>rfl) (fun _ _ _=>by kernel_rfl) trivial trivial (fun _ _ _ _ _=>by kernel_rfl)
noncomputable def tX:Nat->T->T->T->(T->T->T->An)->An
 | 0,_,_,_,_=>.bad
 | m+1,x0,x1,x2,k0 =>
  tV m (T.l x2.rows)
  (fun y0=>k0 x0 x1 (T.l y0.rows))
noncomputable def vC:Fs:=⟨196,[.agg [AI,AI,.dz tO []]],fun m vs k=>ap 3 (tX m) vs (lm 3 fun z=>k (bg ⟨[.agg [RI,RI,.own (KR 0 2) tO m3 []]],[[none,none,none]],[none]⟩ z))⟩
noncomputable def Em:List Fs:=vC::El
theorem PN:aF CX av Em/\aW CX av vC:=dP PL.1 vC Tryz.f196 ⟨196,1,8,4⟩ [] (fun _ _=>rfl) (fun _ _ _=>by kernel_rfl) trivial trivial (fun _ _ _ _ _=>by kernel_rfl)
noncomputable def kX (m:Nat):Nat->T->T->T->T->(T->T->T->T->An)->An
 | 0,_,_,_,_,_=>.bad
 | n+1,x0,x1,x2,x3,k0 =>
  cond ((decide (x3.int<(x0.rows.length:Int)))==true)
  (cond (decide ((0:Int)<=x3.int/\x3.int<(x0.rows.length:Int)))
  (cond ((Op.bytesLess ((x0.rows.getD (Int.toNat x3.int) []).getD 0 dflt).str.toList x1.str.toList)||(((x0.rows.getD (Int.toNat x3.int) []).getD 0 dflt).str.toList==x1.str.toList))
  (kX m n x0 x1 x2 (T.i (IntKind.i64.wrap (x3.int+1))) k0)
  (k0 x0 x1 x2 x3))
  (.bad))
  (k0 x0 x1 x2 x3)
noncomputable def kY (m:Nat):Nat->T->T->T->T->T->(T->An)->(T->T->T->An)->An
 | 0,_,_,_,_,_,_,_=>.bad
 | n+1,x0,x1,x2,x3,x4,k0,k1 =>
  cond (decide (x3.int<(x4.rows.length:Int)))
  (cond (decide ((0:Int)<=x3.int/\x3.int<(x4.rows.length:Int)))
  (cond (decide ((Int.toNat x3.int)<x4.rows.length))
  (cond (((x4.rows.getD (Int.toNat x3.int) []).getD 0 dflt).str.toList==x1.str.toList)
  (cond (decide ((0:Int)<=x3.int/\x3.int<(x4.rows.length:Int)))
  (cond (decide ((Int.toNat x3.int)<x4.rows.length))
  (k0 (T.l (x4.rows.set (Int.toNat x3.int) ((x4.rows.getD (Int.toNat x3.int) []).set 1 x2))))
  (.bad))
  (.bad))
  (kY m n x0 x1 x2 (T.i (IntKind.i64.wrap (x3.int+1))) (T.l x4.rows) k0 k1))
  (.bad))
  (.bad))
  (k1 x0 x1 x2)
noncomputable def BO:Nat->T->T->T->(T->An)->An
 | 0,_,_,_,_=>.bad
 | m+1,x0,x1,x2,k0 =>
  cond (decide ((0+x0.rows.length) * 2<=aS))
  (kY m m (T.l x0.rows) x1 x2 (T.i 0) (T.l x0.rows)
  (fun y0=>k0 (T.l y0.rows))
  (fun y1 y2 y3=>kX m m y1 y2 y3 (T.i 0)
  (fun y5 y6 y7 y8=>cond (decide ((0:Int)<=y8.int/\y8.int<=(y5.rows.length:Int)))
  (cond (decide ((0:Int)<=0/\0<=y8.int))
  (cond (decide ((0+(y5.rows.take (Int.toNat y8.int)).length) * 2<=aS))
  (cond (decide (((y5.rows.take (Int.toNat y8.int)).length+1) * 2<=aS))
  (cond (decide ((0:Int)<=(y5.rows.length:Int)/\(y5.rows.length:Int)<=(y5.rows.length:Int)))
  (cond (decide ((0:Int)<=y8.int/\y8.int<=(y5.rows.length:Int)))
  (cond (decide ((((y5.rows.take (Int.toNat y8.int))++[[y6,y7]]).length+((y5.rows.take (Int.toNat (y5.rows.length:Int))).drop (Int.toNat y8.int)).length) * 2<=aS))
  (k0 (T.l (((y5.rows.take (Int.toNat y8.int))++[[y6,y7]])++((y5.rows.take (Int.toNat (y5.rows.length:Int))).drop (Int.toNat y8.int)))))
  (.bad))
  (.bad))
  (.bad))
  (.bad))
  (.bad))
  (.bad))
  (.bad))))
  (.bad)
noncomputable def Dn:Fs:=⟨224,[.one (.dz tP []),.one (AS),.one (AS)],fun m vs k=>ap 3 (BO m) vs (lm 1 fun z=>k (bg ⟨[.one (.own (KR 0 0) tP m2 [])],[[none],[none],[none]],[none,none,none]⟩ z))⟩
noncomputable def Xd:List Ls:=[⟨[0,0,1,1,1,1],⟨[(0,.one (LD tP)),(1,.one (LS)),(2,.one (LS)),(9,.one (LI))],[([4000000],.gone)]⟩,fun m n vs k=>ap 4 (kX m n) vs (lm 4 fun z=>k (.exit 2) (aB ⟨[(0,.one (LD tP)),(1,.one (LS)),(2,.one (LS)),(9,.one (LI))],[([4000000],.gone)]⟩ z))⟩,⟨[0,1,0,1,1],⟨[(0,.one (LD tP)),(1,.one (LS)),(2,.one (LS)),(7,.one (LA (KI 1) tP)),(8,.one (LI))],[([4000000],.gone),((KI 1),.row tP m2 [])]⟩,fun m n vs k=>ap 5 (kY m n) vs (lm 1 fun z=>k .ret (aB ⟨[(6,.one (LA (KI 0) tP))],[((KI 0),.row tP m2 [])]⟩ z)) (lm 3 fun z=>k (.exit 0) (aB ⟨[(0,.one (LD tP)),(1,.one (LS)),(2,.one (LS))],[([4000000],.gone)]⟩ z))⟩]
noncomputable def Lc:List Fs:=Dn::Em
theorem Xe:aF CX av Lc/\aW CX av Dn:=dP PN.1 Dn Tryz.f224 ⟨224,3,62,64⟩ Xd (fun _ _=>rfl) (fun _ _ _=>by kernel_rfl) ⟨fun _ _ _=>rfl,fun _ _ _=>rfl,trivial⟩ ⟨fun _ _ _ _ _ _=>by kernel_rfl,fun _ _ _ _ _ _=>by kernel_rfl,trivial⟩ (fun _ _ _ _ _=>by kernel_rfl)
noncomputable def iY (m:Nat):Nat->T->T->T->T->(T->An)->An
 | 0,_,_,_,_,_=>.bad
 | n+1,x0,x1,x2,x3,k0 =>
  cond (decide (x2.int<(x0.rows.length:Int)))
  (cond (decide ((0:Int)<=x2.int/\x2.int<(x0.rows.length:Int)))
  (cond (!(((x0.rows.getD (Int.toNat x2.int) []).getD 0 dflt).str.toList==x1.str.toList))
  (cond (decide ((0:Int)<=x2.int/\x2.int<(x0.rows.length:Int)))
  (cond (decide ((x3.rows.length+1) * 2<=aS))
  (iY m n x0 x1 (T.i (IntKind.i64.wrap (x2.int+1))) (T.l (x3.rows++[[((x0.rows.getD (Int.toNat x2.int) []).getD 0 dflt),((x0.rows.getD (Int.toNat x2.int) []).getD 1 dflt)]])) k0)
  (.bad))
  (.bad))
  (iY m n x0 x1 (T.i (IntKind.i64.wrap (x2.int+1))) (T.l x3.rows) k0))
  (.bad))
  (k0 (T.l x3.rows))
noncomputable def BP:Nat->T->T->(T->An)->An
 | 0,_,_,_=>.bad
 | m+1,x0,x1,k0 =>
  iY m m (T.l x0.rows) x1 (T.i 0) (T.l [])
  (fun y2=>k0 (T.l y2.rows))
noncomputable def Dp:Fs:=⟨225,[.one (.dz tP []),.one (AS)],fun m vs k=>ap 2 (BP m) vs (lm 1 fun z=>k (bg ⟨[.one (.own (KR 0 0) tP m2 [])],[[none],[none]],[none,none]⟩ z))⟩
noncomputable def Xf:List Ls:=[⟨[0,1,0,1,1],⟨[(0,.one (LD tP)),(1,.one (LS)),(5,.one (LA (KI 1) tP)),(6,.one (LI))],[([4000000],.gone),((KI 1),.row tP m2 [])]⟩,fun m n vs k=>ap 4 (iY m n) vs (lm 1 fun z=>k (.exit 0) (aB ⟨[(5,.one (LA (KI 0) tP))],[((KI 0),.row tP m2 [])]⟩ z))⟩]
noncomputable def Ld:List Fs:=Dp::Lc
theorem Xg:aF CX av Ld/\aW CX av Dp:=dP Xe.1 Dp Tryz.f225 ⟨225,2,29,16⟩ Xf (fun _ _=>rfl) (fun _ _ _=>by kernel_rfl) ⟨fun _ _ _=>rfl,trivial⟩ ⟨fun _ _ _ _ _ _=>by kernel_rfl,trivial⟩ (fun _ _ _ _ _=>by kernel_rfl)
noncomputable def ig (m:Nat):Nat->T->T->T->(T->An)->An
 | 0,_,_,_,_=>.bad
 | n+1,x0,x1,x2,k0 =>
  cond (decide (x1.int<(x0.rows.length:Int)))
  (cond (decide ((0:Int)<=x1.int/\x1.int<(x0.rows.length:Int)))
  (cond (((x0.rows.getD (Int.toNat x1.int) []).getD 0 dflt).int==1)
  (cond (decide ((0:Int)<=x1.int/\x1.int<(x0.rows.length:Int)))
  (cond (decide ((0:Int)<=x1.int/\x1.int<(x0.rows.length:Int)))
  (BO m (T.l x2.rows) (((x0.rows.getD (Int.toNat x1.int) []).drop 1).getD 0 dflt) (((x0.rows.getD (Int.toNat x1.int) []).drop 2).getD 0 dflt)
  (fun y0=>ig m n x0 (T.i (IntKind.i64.wrap (x1.int+1))) (T.l y0.rows) k0))
  (.bad))
  (.bad))
  (cond (((x0.rows.getD (Int.toNat x1.int) []).getD 0 dflt).int==2)
  (cond (decide ((0:Int)<=x1.int/\x1.int<(x0.rows.length:Int)))
  (BP m (T.l x2.rows) (((x0.rows.getD (Int.toNat x1.int) []).drop 1).getD 0 dflt)
  (fun y1=>ig m n x0 (T.i (IntKind.i64.wrap (x1.int+1))) (T.l y1.rows) k0))
  (.bad))
  (ig m n x0 (T.i (IntKind.i64.wrap (x1.int+1))) (T.l x2.rows) k0)))
  (.bad))
  (k0 (T.l x2.rows))
noncomputable def FY:Nat->T->T->(T->An)->An
 | 0,_,_,_=>.bad
 | m+1,x0,x1,k0 =>
  cond (decide ((0+x0.rows.length) * 2<=aS))
  (ig m m (T.l x1.rows) (T.i 0) (T.l x0.rows)
  (fun y5=>k0 (T.l y5.rows)))
  (.bad)
noncomputable def FZ:Fs:=⟨197,[.one (.dz tP []),.one (.dz tO [])],fun m vs k=>ap 2 (FY m) vs (lm 1 fun z=>k (bg ⟨[.one (.own (KR 0 0) tP m2 [])],[[none],[none]],[none,none]⟩ z))⟩
noncomputable def aam:List Ls:=[⟨[0,1,0,1,1],⟨[(1,.one (LD tO)),(5,.one (LA (KI 1) tP)),(6,.one (LI))],[([4000000],.gone),((KI 1),.row tP m2 [])]⟩,fun m n vs k=>ap 3 (ig m n) vs (lm 1 fun z=>k (.exit 0) (aB ⟨[(5,.one (LA (KI 0) tP))],[((KI 0),.row tP m2 [])]⟩ z))⟩]
noncomputable def Od:List Fs:=FZ::Ld
theorem aan:aF CX av Od/\aW CX av FZ:=dP Xg.1 FZ Tryz.f197 ⟨197,2,45,16⟩ aam (fun _ _=>rfl) (fun _ _ _=>by kernel_rfl) ⟨fun _ _ _=>rfl,trivial⟩ ⟨fun _ _ _ _ _ _=>by kernel_rfl,trivial⟩ (fun _ _ _ _ _=>by kernel_rfl)
noncomputable def F3:Nat->T->T->T->T->T->T->(T->T->T->T->An)->(T->T->T->T->T->An)->An
 | 0,_,_,_,_,_,_,_,_=>.bad
 | m+1,x0,x1,x2,x3,x4,x5,k0,k1 =>
  Kk m (T.l x1.rows) x4
  (fun y0=>FU m x3 x4 (T.l x5.rows)
  (fun y1=>cond (!y1.bool)
  (k0 (T.b false) (T.l x0.rows) (T.l x1.rows) (T.l x2.rows))
  (cond (x3.int==1)
  (jn (fun (j9:An) =>
  vk m (T.l x2.rows) x4
  (fun y2=>cond (y2.bool==false)
  (vT m (T.l x1.rows) (T.l x5.rows)
  (fun y3=>cond (y3.bool==false)
  (FW m (T.l x0.rows) (T.l x5.rows)
  (fun y4=>cond (!y4.bool)
  (k0 (T.b false) (T.l x0.rows) (T.l x1.rows) (T.l x2.rows))
  (j9)))
  (k0 (T.b false) (T.l x0.rows) (T.l x1.rows) (T.l x2.rows))))
  (k0 (T.b false) (T.l x0.rows) (T.l x1.rows) (T.l x2.rows))))
  (tX m x3 x4 (T.l x5.rows)
  (fun y6 y7 y8=>cond (decide ((x1.rows.length+1) * 3<=aS))
  (cond (decide ((x2.rows.length+1) * 1<=aS))
  (k0 (T.b true) (T.l x0.rows) (T.l (x1.rows++[[y6,y7,(T.l y8.rows)]])) (T.l (x2.rows++[[x4]])))
  (.bad))
  (.bad))))
  (cond (decide (y0.int<0))
  (cond ((x3.int==3)==true)
  (vk m (T.l x2.rows) x4
  (fun Ku=>cond (decide ((x2.rows.length+1) * 1<=aS))
  (k0 (T.b (!Ku.bool)) (T.l x0.rows) (T.l x1.rows) (T.l (x2.rows++[[x4]])))
  (.bad)))
  (cond (decide ((x2.rows.length+1) * 1<=aS))
  (k0 (T.b false) (T.l x0.rows) (T.l x1.rows) (T.l (x2.rows++[[x4]])))
  (.bad)))
  (cond (x3.int==2)
  (cond (decide ((0:Int)<=y0.int/\y0.int<(x1.rows.length:Int)))
  (cond (decide ((Int.toNat y0.int)<x1.rows.length))
  (FY m (T.l x0.rows) (T.l ((x1.rows.getD (Int.toNat y0.int) []).getD 2 dflt).rows)
  (fun DX=>cond (decide ((0:Int)<=y0.int/\y0.int<=(x1.rows.length:Int)))
  (cond (decide ((0:Int)<=0/\0<=y0.int))
  (cond (decide ((0+(x1.rows.take (Int.toNat y0.int)).length) * 3<=aS))
  (cond (decide ((0:Int)<=(x1.rows.length:Int)/\(x1.rows.length:Int)<=(x1.rows.length:Int)))
  (cond (decide ((0:Int)<=(IntKind.i64.wrap (y0.int+1))/\(IntKind.i64.wrap (y0.int+1))<=(x1.rows.length:Int)))
  (cond (decide (((x1.rows.take (Int.toNat y0.int)).length+((x1.rows.take (Int.toNat (x1.rows.length:Int))).drop (Int.toNat (IntKind.i64.wrap (y0.int+1)))).length) * 3<=aS))
  (k1 (T.b (decide ((DX.rows.length:Int)<=60))) (T.l x0.rows) (T.l DX.rows) (T.l ((x1.rows.take (Int.toNat y0.int))++((x1.rows.take (Int.toNat (x1.rows.length:Int))).drop (Int.toNat (IntKind.i64.wrap (y0.int+1)))))) (T.l x2.rows))
  (.bad))
  (.bad))
  (.bad))
  (.bad))
  (.bad))
  (.bad)))
  (.bad))
  (.bad))
  (cond (decide ((0:Int)<=y0.int/\y0.int<=(x1.rows.length:Int)))
  (cond (decide ((0:Int)<=0/\0<=y0.int))
  (cond (decide ((0+(x1.rows.take (Int.toNat y0.int)).length) * 3<=aS))
  (cond (decide ((0:Int)<=(x1.rows.length:Int)/\(x1.rows.length:Int)<=(x1.rows.length:Int)))
  (cond (decide ((0:Int)<=(IntKind.i64.wrap (y0.int+1))/\(IntKind.i64.wrap (y0.int+1))<=(x1.rows.length:Int)))
  (cond (decide (((x1.rows.take (Int.toNat y0.int)).length+((x1.rows.take (Int.toNat (x1.rows.length:Int))).drop (Int.toNat (IntKind.i64.wrap (y0.int+1)))).length) * 3<=aS))
  (k0 (T.b (decide ((x0.rows.length:Int)<=60))) (T.l x0.rows) (T.l ((x1.rows.take (Int.toNat y0.int))++((x1.rows.take (Int.toNat (x1.rows.length:Int))).drop (Int.toNat (IntKind.i64.wrap (y0.int+1)))))) (T.l x2.rows))
  (.bad))
  (.bad))
  (.bad))
  (.bad))
  (.bad))
  (.bad)))))))
noncomputable def F4:Fs:=⟨143,[.bx [.own tP m2 [],.own tR m3 [],.own tI [.F] []],.agg [AI,AI,.dz tO []]],fun m vs k=>ap 6 (F3 m) vs (lm 4 fun z=>k (bg ⟨[.one (RB)],[[none,none,none],[none,none,none]],[some [.own (KR 1000 0) tP m2 [],.own (KR 1000 1) tR m3 [],.own (KR 1000 2) tI [.F] []],none]⟩ z)) (lm 5 fun z=>k (bg ⟨[.one (RB)],[[some (tP,m2,[]),none,none],[none,none,none]],[some [.own (KR 1000 0) tP m2 [],.own (KR 1000 1) tR m3 [],.own (KR 1000 2) tI [.F] []],none]⟩ z))⟩
noncomputable def Oe:List Fs:=F4::Od
theorem aao:aF CX av Oe/\aW CX av F4:=dP aan.1 F4 Tryz.f143 ⟨143,2,139,17⟩ [] (fun _ _=>rfl) (fun _ _ _=>by kernel_rfl) trivial trivial (fun _ _ _ _ _=>by kernel_rfl)
noncomputable def eO (m:Nat):Nat->T->T->T->T->T->T->(T->T->T->An)->(T->T->T->T->An)->An
 | 0,_,_,_,_,_,_,_,_=>.bad
 | n+1,x0,x1,x2,x3,x4,x5,k0,k1 =>
  cond (decide (x2.int<(x0.rows.length:Int)))
  ((fun (j19:T->T->T->An) =>
  cond (decide ((0:Int)<=x2.int/\x2.int<(x0.rows.length:Int)))
  (F3 m (T.l x3.rows) (T.l x4.rows) (T.l x5.rows) ((x0.rows.getD (Int.toNat x2.int) []).getD 0 dflt) ((x0.rows.getD (Int.toNat x2.int) []).getD 1 dflt) (T.l ((x0.rows.getD (Int.toNat x2.int) []).getD 2 dflt).rows)
  (fun y0 y1 y2 y3=>cond (!y0.bool)
  (k0 (T.b false) (T.l []) (T.l []))
  (j19 (T.l y1.rows) (T.l y2.rows) (T.l y3.rows)))
  (fun y4 y5 y6 y7 y8=>cond (!y4.bool)
  (k0 (T.b false) (T.l []) (T.l []))
  (j19 (T.l y6.rows) (T.l y7.rows) (T.l y8.rows))))
  (.bad))
  (fun K9 MN Hy=>eO m n x0 (T.i (x1.int.toNat:Int)) (T.i (IntKind.i64.wrap (x2.int+1))) (T.l K9.rows) (T.l MN.rows) (T.l Hy.rows) k0 k1))
  (k1 (T.i (x1.int.toNat:Int)) (T.l x3.rows) (T.l x4.rows) (T.l x5.rows))
noncomputable def qW:Nat->T->(T->T->T->An)->An
 | 0,_,_=>.bad
 | m+1,x0,k0 =>
  eO m m (T.l x0.rows) (T.i 0) (T.i 0) (T.l []) (T.l []) (T.l [])
  (fun y20 y21 y22=>k0 (T.l y21.rows) (T.l y22.rows) y20)
  (fun y23 y24 y25 y26=>k0 (T.l y24.rows) (T.l y25.rows) (T.b true))
noncomputable def tY:Fs:=⟨102,[.one (.dz tR [])],fun m vs k=>ap 1 (qW m) vs (lm 3 fun z=>k (bg ⟨[.one (.own (KR 0 0) tP m2 []),.one (.own (KR 1 0) tR m3 []),.one (RB)],[[none]],[none]⟩ z))⟩
noncomputable def Og:List Ls:=[⟨[0,1,0,1,1],⟨[(0,.one (LD tR)),(5,EP 1),(6,.one (LI))],[([4000000],.gone),((KI 1),.box [LA (KI 2) tP,LA (KI 3) tR,LA (KI 4) tI]),((KI 2),.row tP m2 []),((KI 3),.row tR m3 []),((KI 4),.row tI [.F] [])]⟩,fun m n vs k=>ap 6 (eO m n) vs (lm 3 fun z=>k .ret (aB ⟨[(2,.one (LA (KI 0) tP)),(3,.one (LA (KI 1) tR)),(4,.one (LB))],[((KI 0),.row tP m2 []),((KI 1),.row tR m3 [])]⟩ z)) (lm 4 fun z=>k (.exit 0) (aB ⟨[(5,EP 0)],[((KI 0),.box [LA (KI 1) tP,LA (KI 2) tR,LA (KI 3) tI]),((KI 1),.row tP m2 []),((KI 2),.row tR m3 []),((KI 3),.row tI [.F] [])]⟩ z))⟩]
noncomputable def BQ:List Fs:=tY::Oe
theorem Oh:aF CX av BQ/\aW CX av tY:=dP aao.1 tY Tryz.f102 ⟨102,1,34,28⟩ Og (fun _ _=>rfl) (fun _ _ _=>by kernel_rfl) ⟨fun _ _ _=>rfl,trivial⟩ ⟨fun _ _ _ _ _ _=>by kernel_rfl,trivial⟩ (fun _ _ _ _ _=>by kernel_rfl)
noncomputable def fI (m:Nat):Nat->T->T->T->(T->An)->An->An
 | 0,_,_,_,_,_=>.bad
 | n+1,x0,x1,x2,k0,k1 =>
  cond (decide (x2.int<(x0.rows.length:Int)))
  (cond (decide ((0:Int)<=x2.int/\x2.int<(x0.rows.length:Int)))
  (cond (decide ((0:Int)<=x2.int/\x2.int<(x1.rows.length:Int)))
  (cond (!((((x0.rows.getD (Int.toNat x2.int) []).getD 0 dflt).str.toList==((x1.rows.getD (Int.toNat x2.int) []).getD 0 dflt).str.toList)&&((((x0.rows.getD (Int.toNat x2.int) []).getD 1 dflt).str.toList==((x1.rows.getD (Int.toNat x2.int) []).getD 1 dflt).str.toList)&&true)))
  (k0 (T.b false))
  (fI m n x0 x1 (T.i (IntKind.i64.wrap (x2.int+1))) k0 k1))
  (.bad))
  (.bad))
  (k1 )
noncomputable def qz:Nat->T->T->(T->An)->An
 | 0,_,_,_=>.bad
 | m+1,x0,x1,k0 =>
  cond ((x0.rows.length:Int) != (x1.rows.length:Int))
  (k0 (T.b false))
  (fI m m (T.l x0.rows) (T.l x1.rows) (T.i 0)
  (fun y0=>k0 y0)
  (k0 (T.b true)))
noncomputable def rG:Fs:=⟨103,[.one (.dz tP []),.one (.dz tP [])],fun m vs k=>ap 2 (qz m) vs (lm 1 fun z=>k (bg ⟨[.one (RB)],[[none],[none]],[none,none]⟩ z))⟩
noncomputable def Mv:List Ls:=[⟨[0,1,0,1,1],⟨[(0,.one (LD tP)),(1,.one (LD tP)),(5,.one (LI))],[([4000000],.gone)]⟩,fun m n vs k=>ap 3 (fI m n) vs (lm 1 fun z=>k .ret (aB ⟨[(4,.one (LB))],[]⟩ z)) (lm 0 fun z=>k (.exit 0) (aB ⟨[],[]⟩ z))⟩]
noncomputable def Ad:List Fs:=rG::BQ
theorem Mw:aF CX av Ad/\aW CX av rG:=dP Oh.1 rG Tryz.f103 ⟨103,2,26,16⟩ Mv (fun _ _=>rfl) (fun _ _ _=>by kernel_rfl) ⟨fun _ _ _=>rfl,trivial⟩ ⟨fun _ _ _ _ _ _=>by kernel_rfl,trivial⟩ (fun _ _ _ _ _=>by kernel_rfl)
noncomputable def fV (m:Nat):Nat->T->T->T->(T->An)->An->An
 | 0,_,_,_,_,_=>.bad
 | n+1,x0,x1,x2,k0,k1 =>
  cond (decide (x2.int<(x0.rows.length:Int)))
  (cond (decide ((0:Int)<=x2.int/\x2.int<(x0.rows.length:Int)))
  (cond (decide ((0:Int)<=x2.int/\x2.int<(x1.rows.length:Int)))
  (cond ((((x0.rows.getD (Int.toNat x2.int) []).getD 0 dflt).int != ((x1.rows.getD (Int.toNat x2.int) []).getD 0 dflt).int)==false)
  (cond (decide ((0:Int)<=x2.int/\x2.int<(x0.rows.length:Int)))
  (cond (decide ((0:Int)<=x2.int/\x2.int<(x1.rows.length:Int)))
  (cond (((((x0.rows.getD (Int.toNat x2.int) []).drop 1).getD 0 dflt).int != (((x1.rows.getD (Int.toNat x2.int) []).drop 1).getD 0 dflt).int)==false)
  (cond (decide ((0:Int)<=x2.int/\x2.int<(x0.rows.length:Int)))
  (cond (decide ((0:Int)<=x2.int/\x2.int<(x1.rows.length:Int)))
  (lT m (T.l (((x0.rows.getD (Int.toNat x2.int) []).drop 2).getD 0 dflt).rows) (T.l (((x1.rows.getD (Int.toNat x2.int) []).drop 2).getD 0 dflt).rows)
  (fun y0=>cond (!y0.bool)
  (k0 (T.b false))
  (fV m n x0 x1 (T.i (IntKind.i64.wrap (x2.int+1))) k0 k1)))
  (.bad))
  (.bad))
  (k0 (T.b false)))
  (.bad))
  (.bad))
  (k0 (T.b false)))
  (.bad))
  (.bad))
  (k1 )
noncomputable def qX:Nat->T->T->(T->An)->An
 | 0,_,_,_=>.bad
 | m+1,x0,x1,k0 =>
  cond ((x0.rows.length:Int) != (x1.rows.length:Int))
  (k0 (T.b false))
  (fV m m (T.l x0.rows) (T.l x1.rows) (T.i 0)
  (fun y2=>k0 y2)
  (k0 (T.b true)))
noncomputable def tZ:Fs:=⟨104,[.one (.dz tR []),.one (.dz tR [])],fun m vs k=>ap 2 (qX m) vs (lm 1 fun z=>k (bg ⟨[.one (RB)],[[none],[none]],[none,none]⟩ z))⟩
noncomputable def Oi:List Ls:=[⟨[0,1,0,1,1],⟨[(0,.one (LD tR)),(1,.one (LD tR)),(5,.one (LI))],[([4000000],.gone)]⟩,fun m n vs k=>ap 3 (fV m n) vs (lm 1 fun z=>k .ret (aB ⟨[(4,.one (LB))],[]⟩ z)) (lm 0 fun z=>k (.exit 0) (aB ⟨[],[]⟩ z))⟩]
noncomputable def BR:List Fs:=tZ::Ad
theorem Oj:aF CX av BR/\aW CX av tZ:=dP Mw.1 tZ Tryz.f104 ⟨104,2,55,16⟩ Oi (fun _ _=>rfl) (fun _ _ _=>by kernel_rfl) ⟨fun _ _ _=>rfl,trivial⟩ ⟨fun _ _ _ _ _ _=>by kernel_rfl,trivial⟩ (fun _ _ _ _ _=>by kernel_rfl)
noncomputable def yK:Nat->T->T->T->T->T->(T->An)->An
 | 0,_,_,_,_,_,_=>.bad
 | m+1,x0,x1,x2,x3,x4,k0 =>
  jn (fun (j9:An) =>
  bZ m x0 (T.i 0) (T.i 7)
  (fun y0=>cond ((!y0.bool)==false)
  (cond ((decide ((x1.rows.length:Int) > 300))==false)
  (bZ m x2 (T.i 0) (T.i (x1.rows.length:Int))
  (fun y1=>cond (!y1.bool)
  (k0 (T.b false))
  (j9)))
  (k0 (T.b false)))
  (k0 (T.b false))))
  (qW m (T.l x1.rows)
  (fun y3 y4 y5=>cond (y5.bool==true)
  (qz m (T.l y3.rows) (T.l x3.rows)
  (fun y6=>cond (y6.bool==true)
  (qX m (T.l y4.rows) (T.l x4.rows)
  (fun y7=>cond (y7.bool==true)
  (k0 (T.b (decide ((IntKind.i64.wrap ((x1.rows.length:Int)+(y4.rows.length:Int)))<=300))))
  (k0 (T.b false))))
  (k0 (T.b false))))
  (k0 (T.b false))))
noncomputable def Ae:Fs:=⟨54,[.agg [AI,.dz tR [],AI,.dz tP [],.dz tR []]],fun m vs k=>ap 5 (yK m) vs (lm 1 fun z=>k (bg ⟨[.one (RB)],[[none,none,none,none,none]],[none]⟩ z))⟩
noncomputable def Jh:List Fs:=Ae::BR
theorem U6:aF CX av Jh/\aW CX av Ae:=dP Oj.1 Ae Tryz.f54 ⟨54,1,54,4⟩ [] (fun _ _=>rfl) (fun _ _ _=>by kernel_rfl) trivial trivial (fun _ _ _ _ _=>by kernel_rfl)
noncomputable def jO (m:Nat):Nat->T->T->T->T->T->T->T->T->T->T->T->T->(T->An)->An->An
 | 0,_,_,_,_,_,_,_,_,_,_,_,_,_,_=>.bad
 | n+1,x0,x1,x2,x3,x4,x5,x6,x7,x8,x9,x10,gy,k0,k1 =>
  cond (decide (x1.int<(x8.rows.length:Int)))
  ((fun (j7:An) =>
  cond (decide ((0:Int)<=x1.int/\x1.int<(x8.rows.length:Int)))
  (cond ((((x8.rows.getD (Int.toNat x1.int) []).getD 0 dflt).int != x1.int)==false)
  (cond (decide ((0:Int)<=x1.int/\x1.int<(x8.rows.length:Int)))
  (yK m ((x8.rows.getD (Int.toNat x1.int) []).getD 0 dflt) (T.l ((x8.rows.getD (Int.toNat x1.int) []).getD 1 dflt).rows) ((x8.rows.getD (Int.toNat x1.int) []).getD 2 dflt) (T.l ((x8.rows.getD (Int.toNat x1.int) []).getD 3 dflt).rows) (T.l ((x8.rows.getD (Int.toNat x1.int) []).getD 4 dflt).rows)
  (fun y5=>cond (!y5.bool)
  (k0 (T.b false))
  (j7)))
  (.bad))
  (k0 (T.b false)))
  (.bad))
  (jO m n (T.i (x0.int.toNat:Int)) (T.i (IntKind.i64.wrap (x1.int+1))) x2 x3 x4 x5 x6 x7 x8 x9 x10 gy k0 k1))
  (k1 )
noncomputable def yL:Nat->T->T->T->T->T->T->T->T->T->T->(T->An)->An
 | 0,_,_,_,_,_,_,_,_,_,_,_=>.bad
 | m+1,x0,x1,x2,x3,x4,x5,x6,x7,x8,x9,k0 =>
  (fun (j9:An) =>
  yJ m x0 x1 x2 (T.l x3.rows) (T.l x4.rows) x5
  (fun y0=>cond ((!y0.bool)==false)
  (cond (((x6.rows.length:Int) != x0.int)==false)
  (qO m x0 x1 x2 (T.l x3.rows) (T.l x4.rows) x5 (T.l x6.rows) (T.l x7.rows) (T.l x8.rows) (T.l x9.rows) (T.l x7.rows)
  (fun y1=>cond ((!y1.bool)==false)
  (qO m x0 x1 x2 (T.l x3.rows) (T.l x4.rows) x5 (T.l x6.rows) (T.l x7.rows) (T.l x8.rows) (T.l x9.rows) (T.l x8.rows)
  (fun y2=>cond ((!y2.bool)==false)
  (tQ m x0 x1 x2 (T.l x3.rows) (T.l x4.rows) x5 (T.l x6.rows) (T.l x7.rows) (T.l x8.rows) (T.l x9.rows)
  (fun y3=>cond (!y3.bool)
  (k0 (T.b false))
  (j9)))
  (k0 (T.b false))))
  (k0 (T.b false))))
  (k0 (T.b false)))
  (k0 (T.b false))))
  (jO m m (T.i 0) (T.i 0) x0 x1 x2 (T.l x3.rows) (T.l x4.rows) x5 (T.l x6.rows) (T.l x7.rows) (T.l x8.rows) (T.l x9.rows)
  (fun y8=>k0 y8)
  (k0 (T.b true)))
noncomputable def Af:Fs:=⟨21,[.agg [AI,AI,AI,.dz tJ [],.dz tC [],AI,.dz tS [],.dz tW [],.dz tW [],.dz tB []]],fun m vs k=>ap 10 (yL m) vs (lm 1 fun z=>k (bg ⟨[.one (RB)],[[none,none,none,none,none,none,none,none,none,none]],[none]⟩ z))⟩
noncomputable def U7:List Ls:=[⟨[0,1,0,1,1],⟨[(1,EP 0),(3,.one (LI))],[((KI 0),.box [LI,LI,LI,LD tJ,LD tC,LI,LD tS,LD tW,LD tW,LD tB]),([4000000],.gone)]⟩,fun m n vs k=>ap 12 (jO m n) vs (lm 1 fun z=>k .ret (aB ⟨[(2,.one (LB))],[]⟩ z)) (lm 0 fun z=>k (.exit 0) (aB ⟨[],[]⟩ z))⟩]
noncomputable def Ji:List Fs:=Af::Jh
theorem U8:aF CX av Ji/\aW CX av Af:=dP U6.1 Af Tryz.f21 ⟨21,1,60,4⟩ U7 (fun _ _=>rfl) (fun _ _ _=>by kernel_rfl) ⟨fun _ _ _=>rfl,trivial⟩ ⟨fun _ _ _ _ _ _=>by kernel_rfl,trivial⟩ (fun _ _ _ _ _=>by kernel_rfl)
noncomputable def gH (m:Nat):Nat->T->T->T->T->T->(T->An)->An->An
 | 0,_,_,_,_,_,_,_=>.bad
 | n+1,x0,x1,x2,x3,x4,k0,k1 =>
  jn (fun (j2:An) =>
  cond ((decide (x4.int<x1.int))==true)
  (cond (decide (x4.int<(x0.rows.length:Int)))
  (j2)
  (k1 ))
  (k1 ))
  (cond (decide ((0:Int)<=x4.int/\x4.int<(x0.rows.length:Int)))
  (cond ((((x0.rows.getD (Int.toNat x4.int) []).getD 0 dflt).int==x2.int)==true)
  (cond (decide ((0:Int)<=x4.int/\x4.int<(x0.rows.length:Int)))
  (cond ((((x0.rows.getD (Int.toNat x4.int) []).drop 1).getD 0 dflt).int==x3.int)
  (k0 (T.b true))
  (gH m n x0 x1 x2 x3 (T.i (IntKind.i64.wrap (x4.int+1))) k0 k1))
  (.bad))
  (gH m n x0 x1 x2 x3 (T.i (IntKind.i64.wrap (x4.int+1))) k0 k1))
  (.bad))
noncomputable def qA:Nat->T->T->T->T->(T->An)->An
 | 0,_,_,_,_,_=>.bad
 | m+1,x0,x1,x2,x3,k0 =>
  gH m m (T.l x0.rows) x1 x2 x3 (T.i 0)
  (fun y3=>k0 y3)
  (k0 (T.b false))
noncomputable def Ag:Fs:=⟨55,[.one (.dz tR []),.one (AI),.one (AI),.one (AI)],fun m vs k=>ap 4 (qA m) vs (lm 1 fun z=>k (bg ⟨[.one (RB)],[[none],[none],[none],[none]],[none,none,none,none]⟩ z))⟩
noncomputable def U9:List Ls:=[⟨[0,1,0,1],⟨[(0,.one (LD tR)),(1,.one (LI)),(2,.one (LI)),(3,.one (LI)),(9,.one (LI))],[([4000000],.gone)]⟩,fun m n vs k=>ap 5 (gH m n) vs (lm 1 fun z=>k .ret (aB ⟨[(8,.one (LB))],[]⟩ z)) (lm 0 fun z=>k (.exit 0) (aB ⟨[],[]⟩ z))⟩]
noncomputable def Jj:List Fs:=Ag::Ji
theorem Va:aF CX av Jj/\aW CX av Ag:=dP U8.1 Ag Tryz.f55 ⟨55,4,37,256⟩ U9 (fun _ _=>rfl) (fun _ _ _=>by kernel_rfl) ⟨fun _ _ _=>rfl,trivial⟩ ⟨fun _ _ _ _ _ _=>by kernel_rfl,trivial⟩ (fun _ _ _ _ _=>by kernel_rfl)
noncomputable def jP (m:Nat):Nat->T->T->T->T->T->T->T->T->T->T->T->T->T->T->T->(T->An)->(T->T->T->T->T->T->T->T->T->T->T->T->T->T->An)->An
 | 0,_,_,_,_,_,_,_,_,_,_,_,_,_,_,_,_,_=>.bad
 | n+1,x0,x1,x2,x3,x4,x5,x6,x7,x8,x9,x10,gy,o9,pU,PO,k0,k1 =>
  jn (fun (j2:An) =>
  cond ((decide (x4.int<(gy.rows.length:Int)))==true)
  (cond (decide ((0:Int)<=x3.int/\x3.int<(x2.rows.length:Int)))
  (cond (((x2.rows.getD (Int.toNat x3.int) []).getD 0 dflt).int==2)
  (j2)
  (k1 (T.i (x0.int.toNat:Int)) x1 x2 x3 x5 x6 x7 x8 x9 x10 gy o9 pU PO))
  (.bad))
  (k1 (T.i (x0.int.toNat:Int)) x1 x2 x3 x5 x6 x7 x8 x9 x10 gy o9 pU PO))
  (cond (decide ((0:Int)<=x4.int/\x4.int<(gy.rows.length:Int)))
  (cond (decide ((0:Int)<=x4.int/\x4.int<(gy.rows.length:Int)))
  (cond (decide ((0:Int)<=x3.int/\x3.int<(x2.rows.length:Int)))
  (qA m (T.l (((gy.rows.getD (Int.toNat x4.int) []).drop 1).getD 0 dflt).rows) (T.i ((((gy.rows.getD (Int.toNat x4.int) []).drop 1).getD 0 dflt).rows.length:Int)) (T.i 3) (((x2.rows.getD (Int.toNat x3.int) []).drop 1).getD 0 dflt)
  (fun y1=>cond y1.bool
  (k0 (T.b false))
  (jP m n (T.i (x0.int.toNat:Int)) x1 x2 x3 (T.i (IntKind.i64.wrap (x4.int+1))) x5 x6 x7 x8 x9 x10 gy o9 pU PO k0 k1)))
  (.bad))
  (.bad))
  (.bad))
noncomputable def jQ (m:Nat):Nat->T->T->T->T->T->T->T->T->T->T->T->T->T->T->(T->An)->(T->T->T->T->T->T->T->T->T->T->T->T->An)->An
 | 0,_,_,_,_,_,_,_,_,_,_,_,_,_,_,_,_=>.bad
 | n+1,x0,x1,x2,x3,x4,x5,x6,x7,x8,x9,x10,gy,o9,pU,k0,k1 =>
  cond (decide (x3.int<(x2.rows.length:Int)))
  (jP m n (T.i (x0.int.toNat:Int)) x1 x2 x3 (T.i 0) x4 x5 x6 x7 x8 x9 x10 gy o9 pU
  (fun y3=>k0 y3)
  (fun y4 y5 y6 y7 y8 y9 Ku Kj DX y13 Je O3 K9 MN=>jQ m n (T.i (y4.int.toNat:Int)) y5 y6 (T.i (IntKind.i64.wrap (y7.int+1))) y8 y9 Ku Kj DX y13 Je O3 K9 MN k0 k1))
  (k1 (T.i (x0.int.toNat:Int)) x1 x4 x5 x6 x7 x8 x9 x10 gy o9 pU)
noncomputable def jR (m:Nat):Nat->T->T->T->T->T->T->T->T->T->T->T->T->(T->An)->An->An
 | 0,_,_,_,_,_,_,_,_,_,_,_,_,_,_=>.bad
 | n+1,x0,x1,x2,x3,x4,x5,x6,x7,x8,x9,x10,gy,k0,k1 =>
  cond (decide (x1.int<(x8.rows.length:Int)))
  (cond (decide ((0:Int)<=x1.int/\x1.int<(x8.rows.length:Int)))
  (jQ m n (T.i (x0.int.toNat:Int)) x1 (((x8.rows.getD (Int.toNat x1.int) []).drop 1).getD 0 dflt) (T.i 0) x2 x3 x4 x5 x6 x7 x8 x9 x10 gy
  (fun Hy=>k0 Hy)
  (fun y19 y20 y21 y22 y23 y24 y25 y26 y27 y28 y29 y30=>jR m n (T.i (y19.int.toNat:Int)) (T.i (IntKind.i64.wrap (y20.int+1))) y21 y22 y23 y24 y25 y26 y27 y28 y29 y30 k0 k1))
  (.bad))
  (k1 )
noncomputable def yM:Nat->T->T->T->T->T->T->T->T->T->T->(T->An)->An
 | 0,_,_,_,_,_,_,_,_,_,_,_=>.bad
 | m+1,x0,x1,x2,x3,x4,x5,x6,x7,x8,x9,k0 =>
  jR m m (T.i 0) (T.i 0) x0 x1 x2 (T.l x3.rows) (T.l x4.rows) x5 (T.l x6.rows) (T.l x7.rows) (T.l x8.rows) (T.l x9.rows)
  (fun y31=>k0 y31)
  (k0 (T.b true))
noncomputable def Ah:Fs:=⟨22,[.agg [AI,AI,AI,.dz tJ [],.dz tC [],AI,.dz tS [],.dz tW [],.dz tW [],.dz tB []]],fun m vs k=>ap 10 (yM m) vs (lm 1 fun z=>k (bg ⟨[.one (RB)],[[none,none,none,none,none,none,none,none,none,none]],[none]⟩ z))⟩
noncomputable def Vb:List Ls:=[⟨[0,1,0,0,1,0,0,1,1,0,0,1,0,0,1,0,1],⟨[(1,EP 0),(3,.one (LI)),(4,.one (LD tR)),(5,.one (LI)),(6,.one (LI))],[((KI 0),.box [LI,LI,LI,LD tJ,LD tC,LI,LD tS,LD tW,LD tW,LD tB]),([4000000],.gone)]⟩,fun m n vs k=>ap 15 (jP m n) vs (lm 1 fun z=>k .ret (aB ⟨[(2,.one (LB))],[]⟩ z)) (lm 14 fun z=>k (.exit 4) (aB ⟨[(1,EP 0),(3,.one (LI)),(4,.one (LD tR)),(5,.one (LI))],[((KI 0),.box [LI,LI,LI,LD tJ,LD tC,LI,LD tS,LD tW,LD tW,LD tB]),([4000000],.gone)]⟩ z))⟩,⟨[0,1,1,0,0,1,0,0,1,0,1],⟨[(1,EP 0),(3,.one (LI)),(4,.one (LD tR)),(5,.one (LI))],[((KI 0),.box [LI,LI,LI,LD tJ,LD tC,LI,LD tS,LD tW,LD tW,LD tB]),([4000000],.gone)]⟩,fun m n vs k=>ap 14 (jQ m n) vs (lm 1 fun z=>k .ret (aB ⟨[(2,.one (LB))],[]⟩ z)) (lm 12 fun z=>k (.exit 2) (aB ⟨[(1,EP 0),(3,.one (LI))],[((KI 0),.box [LI,LI,LI,LD tJ,LD tC,LI,LD tS,LD tW,LD tW,LD tB]),([4000000],.gone)]⟩ z))⟩,⟨[0,1,0,1],⟨[(1,EP 0),(3,.one (LI))],[((KI 0),.box [LI,LI,LI,LD tJ,LD tC,LI,LD tS,LD tW,LD tW,LD tB]),([4000000],.gone)]⟩,fun m n vs k=>ap 12 (jR m n) vs (lm 1 fun z=>k .ret (aB ⟨[(2,.one (LB))],[]⟩ z)) (lm 0 fun z=>k (.exit 0) (aB ⟨[],[]⟩ z))⟩]
noncomputable def Jk:List Fs:=Ah::Jj
theorem Vd:aF CX av Jk/\aW CX av Ah:=dP Va.1 Ah Tryz.f22 ⟨22,1,60,4⟩ Vb (fun _ _=>rfl) (fun _ _ _=>by kernel_rfl) ⟨fun _ _ _=>rfl,fun _ _ _=>rfl,fun _ _ _=>rfl,trivial⟩ ⟨fun _ _ _ _ _ _=>by kernel_rfl,fun _ _ _ _ _ _=>by kernel_rfl,fun _ _ _ _ _ _=>by kernel_rfl,trivial⟩ (fun _ _ _ _ _=>by kernel_rfl)
noncomputable def iZ (m:Nat):Nat->T->T->T->T->T->T->T->T->T->(T->An)->An->An
 | 0,_,_,_,_,_,_,_,_,_,_,_=>.bad
 | n+1,x0,x1,x2,x3,x4,x5,x6,x7,x8,k0,k1 =>
  jn (fun (j2:An) =>
  cond ((decide (x2.int<(x7.rows.length:Int)))==true)
  (cond (decide (x2.int<x8.int))
  (j2)
  (k1 ))
  (k1 ))
  (cond (decide ((0:Int)<=x2.int/\x2.int<(x7.rows.length:Int)))
  (cond ((((x7.rows.getD (Int.toNat x2.int) []).getD 0 dflt).int==x0.int)==true)
  (cond (decide ((0:Int)<=x2.int/\x2.int<(x7.rows.length:Int)))
  (cond (((x7.rows.getD (Int.toNat x2.int) []).drop 1).getD 0 dflt).bool
  (k0 (T.b true))
  (iZ m n x0 (T.i (x1.int.toNat:Int)) (T.i (IntKind.i64.wrap (x2.int+1))) x3 x4 x5 x6 x7 x8 k0 k1))
  (.bad))
  (iZ m n x0 (T.i (x1.int.toNat:Int)) (T.i (IntKind.i64.wrap (x2.int+1))) x3 x4 x5 x6 x7 x8 k0 k1))
  (.bad))
noncomputable def BS:Nat->T->T->T->T->T->T->T->(T->An)->An
 | 0,_,_,_,_,_,_,_,_=>.bad
 | m+1,x0,x1,x2,x3,x4,x5,x6,k0 =>
  iZ m m x6 (T.i 0) (T.i 0) x0 x1 x2 (T.l x3.rows) (T.l x4.rows) x5
  (fun y3=>k0 y3)
  (k0 (T.b false))
noncomputable def Dq:Fs:=⟨56,[.agg [AI,AI,AI,.dz tJ [],.dz tC [],AI],.one (AI)],fun m vs k=>ap 7 (BS m) vs (lm 1 fun z=>k (bg ⟨[.one (RB)],[[none,none,none,none,none,none],[none]],[none,none]⟩ z))⟩
noncomputable def Xh:List Ls:=[⟨[0,1,0,1],⟨[(1,.one (LI)),(2,EP 0),(5,.one (LI))],[((KI 0),.box [LI,LI,LI,LD tJ,LD tC,LI]),([4000000],.gone)]⟩,fun m n vs k=>ap 9 (iZ m n) vs (lm 1 fun z=>k .ret (aB ⟨[(4,.one (LB))],[]⟩ z)) (lm 0 fun z=>k (.exit 0) (aB ⟨[],[]⟩ z))⟩]
noncomputable def Le:List Fs:=Dq::Jk
theorem Xi:aF CX av Le/\aW CX av Dq:=dP Vd.1 Dq Tryz.f56 ⟨56,2,35,16⟩ Xh (fun _ _=>rfl) (fun _ _ _=>by kernel_rfl) ⟨fun _ _ _=>rfl,trivial⟩ ⟨fun _ _ _ _ _ _=>by kernel_rfl,trivial⟩ (fun _ _ _ _ _=>by kernel_rfl)
noncomputable def kZ (m:Nat):Nat->T->T->T->T->T->T->T->T->T->T->T->T->T->T->(T->An)->(T->T->T->T->T->T->T->T->T->T->T->T->An)->An
 | 0,_,_,_,_,_,_,_,_,_,_,_,_,_,_,_,_=>.bad
 | n+1,x0,x1,x2,x3,x4,x5,x6,x7,x8,x9,x10,gy,o9,pU,k0,k1 =>
  cond (decide (x3.int<(x2.rows.length:Int)))
  ((fun (j2:An) =>
  cond (decide ((0:Int)<=x3.int/\x3.int<(x2.rows.length:Int)))
  (cond ((((x2.rows.getD (Int.toNat x3.int) []).getD 0 dflt).int==2)==true)
  (cond (decide ((0:Int)<=x3.int/\x3.int<(x2.rows.length:Int)))
  (BS m x4 x5 x6 (T.l x7.rows) (T.l x8.rows) x9 (((x2.rows.getD (Int.toNat x3.int) []).drop 1).getD 0 dflt)
  (fun y0=>cond (!y0.bool)
  (k0 (T.b false))
  (j2)))
  (.bad))
  (j2))
  (.bad))
  (kZ m n (T.i (x0.int.toNat:Int)) x1 x2 (T.i (IntKind.i64.wrap (x3.int+1))) x4 x5 x6 x7 x8 x9 x10 gy o9 pU k0 k1))
  (k1 (T.i (x0.int.toNat:Int)) x1 x4 x5 x6 x7 x8 x9 x10 gy o9 pU)
noncomputable def lg (m:Nat):Nat->T->T->T->T->T->T->T->T->T->T->T->T->(T->An)->An->An
 | 0,_,_,_,_,_,_,_,_,_,_,_,_,_,_=>.bad
 | n+1,x0,x1,x2,x3,x4,x5,x6,x7,x8,x9,x10,gy,k0,k1 =>
  cond (decide (x1.int<(x8.rows.length:Int)))
  (cond (decide ((0:Int)<=x1.int/\x1.int<(x8.rows.length:Int)))
  (kZ m n (T.i (x0.int.toNat:Int)) x1 (((x8.rows.getD (Int.toNat x1.int) []).drop 1).getD 0 dflt) (T.i 0) x2 x3 x4 x5 x6 x7 x8 x9 x10 gy
  (fun y3=>k0 y3)
  (fun y4 y5 y6 y7 y8 y9 Ku Kj DX y13 Je O3=>lg m n (T.i (y4.int.toNat:Int)) (T.i (IntKind.i64.wrap (y5.int+1))) y6 y7 y8 y9 Ku Kj DX y13 Je O3 k0 k1))
  (.bad))
  (k1 )
noncomputable def BU:Nat->T->T->T->T->T->T->T->T->T->T->(T->An)->An
 | 0,_,_,_,_,_,_,_,_,_,_,_=>.bad
 | m+1,x0,x1,x2,x3,x4,x5,x6,x7,x8,x9,k0 =>
  lg m m (T.i 0) (T.i 0) x0 x1 x2 (T.l x3.rows) (T.l x4.rows) x5 (T.l x6.rows) (T.l x7.rows) (T.l x8.rows) (T.l x9.rows)
  (fun K9=>k0 K9)
  (k0 (T.b true))
noncomputable def Dr:Fs:=⟨23,[.agg [AI,AI,AI,.dz tJ [],.dz tC [],AI,.dz tS [],.dz tW [],.dz tW [],.dz tB []]],fun m vs k=>ap 10 (BU m) vs (lm 1 fun z=>k (bg ⟨[.one (RB)],[[none,none,none,none,none,none,none,none,none,none]],[none]⟩ z))⟩
noncomputable def Xj:List Ls:=[⟨[0,1,1,0,0,1,0,0,1,0,1],⟨[(1,EP 0),(3,.one (LI)),(4,.one (LD tR)),(5,.one (LI))],[((KI 0),.box [LI,LI,LI,LD tJ,LD tC,LI,LD tS,LD tW,LD tW,LD tB]),([4000000],.gone)]⟩,fun m n vs k=>ap 14 (kZ m n) vs (lm 1 fun z=>k .ret (aB ⟨[(2,.one (LB))],[]⟩ z)) (lm 12 fun z=>k (.exit 2) (aB ⟨[(1,EP 0),(3,.one (LI))],[((KI 0),.box [LI,LI,LI,LD tJ,LD tC,LI,LD tS,LD tW,LD tW,LD tB]),([4000000],.gone)]⟩ z))⟩,⟨[0,1,0,1],⟨[(1,EP 0),(3,.one (LI))],[((KI 0),.box [LI,LI,LI,LD tJ,LD tC,LI,LD tS,LD tW,LD tW,LD tB]),([4000000],.gone)]⟩,fun m n vs k=>ap 12 (lg m n) vs (lm 1 fun z=>k .ret (aB ⟨[(2,.one (LB))],[]⟩ z)) (lm 0 fun z=>k (.exit 0) (aB ⟨[],[]⟩ z))⟩]
noncomputable def Lf:List Fs:=Dr::Le
theorem Xk:aF CX av Lf/\aW CX av Dr:=dP Xi.1 Dr Tryz.f23 ⟨23,1,42,4⟩ Xj (fun _ _=>rfl) (fun _ _ _=>by kernel_rfl) ⟨fun _ _ _=>rfl,fun _ _ _=>rfl,trivial⟩ ⟨fun _ _ _ _ _ _=>by kernel_rfl,fun _ _ _ _ _ _=>by kernel_rfl,trivial⟩ (fun _ _ _ _ _=>by kernel_rfl)
noncomputable def jc (m:Nat):Nat->T->T->T->T->T->(T->An)->An
 | 0,_,_,_,_,_,_=>.bad
 | n+1,x0,x1,x2,x3,x4,k0 =>
  cond (decide (x3.int<(x0.rows.length:Int)))
  (cond (decide ((0:Int)<=x3.int/\x3.int<(x0.rows.length:Int)))
  (qy m (((x0.rows.getD (Int.toNat x3.int) []).drop 1).getD 0 dflt) x2
  (fun y0=>cond (y0.int==x1.int)
  (cond (decide ((0:Int)<=x3.int/\x3.int<(x0.rows.length:Int)))
  (cond (decide ((x4.rows.length+1) * 3<=aS))
  (jc m n x0 x1 x2 (T.i (IntKind.i64.wrap (x3.int+1))) (T.l (x4.rows++[[((x0.rows.getD (Int.toNat x3.int) []).getD 0 dflt),((x0.rows.getD (Int.toNat x3.int) []).getD 1 dflt),((x0.rows.getD (Int.toNat x3.int) []).getD 2 dflt)]])) k0)
  (.bad))
  (.bad))
  (jc m n x0 x1 x2 (T.i (IntKind.i64.wrap (x3.int+1))) (T.l x4.rows) k0)))
  (.bad))
  (k0 (T.l x4.rows))
noncomputable def BX:Nat->T->T->T->(T->An)->An
 | 0,_,_,_,_=>.bad
 | m+1,x0,x1,x2,k0 =>
  jc m m (T.l x0.rows) x1 x2 (T.i 0) (T.l [])
  (fun y3=>k0 (T.l y3.rows))
noncomputable def Dt:Fs:=⟨59,[.one (.dz tO []),.one (AI),.one (AI)],fun m vs k=>ap 3 (BX m) vs (lm 1 fun z=>k (bg ⟨[.one (.own (KR 0 0) tO m3 [])],[[none],[none],[none]],[none,none,none]⟩ z))⟩
noncomputable def Xl:List Ls:=[⟨[0,1,0,1,1],⟨[(0,.one (LD tO)),(1,.one (LI)),(2,.one (LI)),(7,.one (LA (KI 1) tO)),(8,.one (LI))],[([4000000],.gone),((KI 1),.row tO m3 [])]⟩,fun m n vs k=>ap 5 (jc m n) vs (lm 1 fun z=>k (.exit 0) (aB ⟨[(7,.one (LA (KI 0) tO))],[((KI 0),.row tO m3 [])]⟩ z))⟩]
noncomputable def Lg:List Fs:=Dt::Lf
theorem Xm:aF CX av Lg/\aW CX av Dt:=dP Xk.1 Dt Tryz.f59 ⟨59,3,33,64⟩ Xl (fun _ _=>rfl) (fun _ _ _=>by kernel_rfl) ⟨fun _ _ _=>rfl,trivial⟩ ⟨fun _ _ _ _ _ _=>by kernel_rfl,trivial⟩ (fun _ _ _ _ _=>by kernel_rfl)
noncomputable def mR (m:Nat):Nat->T->T->T->T->T->T->T->T->T->T->T->T->T->T->(T->An)->(T->T->T->T->T->T->T->T->T->T->T->T->An)->An
 | 0,_,_,_,_,_,_,_,_,_,_,_,_,_,_,_,_=>.bad
 | n+1,x0,x1,x2,x3,x4,x5,x6,x7,x8,x9,x10,gy,o9,pU,k0,k1 =>
  cond (decide (x3.int<(x2.rows.length:Int)))
  ((fun (j4:An) =>
  cond (decide ((0:Int)<=x3.int/\x3.int<(x2.rows.length:Int)))
  (cond (((x2.rows.getD (Int.toNat x3.int) []).getD 0 dflt).int != 1)
  (j4)
  (cond (decide ((0:Int)<=x3.int/\x3.int<(x2.rows.length:Int)))
  (kM m x4 x5 x6 (T.l x7.rows) (T.l x8.rows) x9 (T.l x10.rows) (T.l gy.rows) (T.l o9.rows) (T.l pU.rows) (((x2.rows.getD (Int.toNat x3.int) []).drop 1).getD 0 dflt)
  (fun y0=>cond ((decide (y0.int<0))==false)
  (cond (decide ((0:Int)<=x3.int/\x3.int<(x2.rows.length:Int)))
  (cond (decide ((0:Int)<=y0.int/\y0.int<(pU.rows.length:Int)))
  (cond (decide ((0:Int)<=x1.int/\x1.int<(x10.rows.length:Int)))
  (BX m (T.l (((pU.rows.getD (Int.toNat y0.int) []).drop 1).getD 0 dflt).rows) ((x10.rows.getD (Int.toNat x1.int) []).getD 0 dflt) x4
  (fun y1=>lT m (T.l (((x2.rows.getD (Int.toNat x3.int) []).drop 2).getD 0 dflt).rows) (T.l y1.rows)
  (fun y2=>cond (!y2.bool)
  (k0 (T.b false))
  (j4))))
  (.bad))
  (.bad))
  (.bad))
  (k0 (T.b false))))
  (.bad)))
  (.bad))
  (mR m n (T.i (x0.int.toNat:Int)) x1 x2 (T.i (IntKind.i64.wrap (x3.int+1))) x4 x5 x6 x7 x8 x9 x10 gy o9 pU k0 k1))
  (k1 (T.i (x0.int.toNat:Int)) x1 x4 x5 x6 x7 x8 x9 x10 gy o9 pU)
noncomputable def mU (m:Nat):Nat->T->T->T->T->T->T->T->T->T->T->T->T->(T->An)->An->An
 | 0,_,_,_,_,_,_,_,_,_,_,_,_,_,_=>.bad
 | n+1,x0,x1,x2,x3,x4,x5,x6,x7,x8,x9,x10,gy,k0,k1 =>
  cond (decide (x1.int<(x8.rows.length:Int)))
  (cond (decide ((0:Int)<=x1.int/\x1.int<(x8.rows.length:Int)))
  (mR m n (T.i (x0.int.toNat:Int)) x1 (((x8.rows.getD (Int.toNat x1.int) []).drop 1).getD 0 dflt) (T.i 0) x2 x3 x4 x5 x6 x7 x8 x9 x10 gy
  (fun y5=>k0 y5)
  (fun y6 y7 y8 y9 Ku Kj DX y13 Je O3 K9 MN=>mU m n (T.i (y6.int.toNat:Int)) (T.i (IntKind.i64.wrap (y7.int+1))) y8 y9 Ku Kj DX y13 Je O3 K9 MN k0 k1))
  (.bad))
  (k1 )
noncomputable def F5:Nat->T->T->T->T->T->T->T->T->T->T->(T->An)->An
 | 0,_,_,_,_,_,_,_,_,_,_,_=>.bad
 | m+1,x0,x1,x2,x3,x4,x5,x6,x7,x8,x9,k0 =>
  mU m m (T.i 0) (T.i 0) x0 x1 x2 (T.l x3.rows) (T.l x4.rows) x5 (T.l x6.rows) (T.l x7.rows) (T.l x8.rows) (T.l x9.rows)
  (fun Hy=>k0 Hy)
  (k0 (T.b true))
noncomputable def F6:Fs:=⟨24,[.agg [AI,AI,AI,.dz tJ [],.dz tC [],AI,.dz tS [],.dz tW [],.dz tW [],.dz tB []]],fun m vs k=>ap 10 (F5 m) vs (lm 1 fun z=>k (bg ⟨[.one (RB)],[[none,none,none,none,none,none,none,none,none,none]],[none]⟩ z))⟩
noncomputable def aap:List Ls:=[⟨[0,1,1,0,0,1,0,0,1,0,1],⟨[(1,EP 0),(3,.one (LI)),(4,.one (LD tR)),(5,.one (LI))],[((KI 0),.box [LI,LI,LI,LD tJ,LD tC,LI,LD tS,LD tW,LD tW,LD tB]),([4000000],.gone)]⟩,fun m n vs k=>ap 14 (mR m n) vs (lm 1 fun z=>k .ret (aB ⟨[(2,.one (LB))],[]⟩ z)) (lm 12 fun z=>k (.exit 2) (aB ⟨[(1,EP 0),(3,.one (LI))],[((KI 0),.box [LI,LI,LI,LD tJ,LD tC,LI,LD tS,LD tW,LD tW,LD tB]),([4000000],.gone)]⟩ z))⟩,⟨[0,1,0,1],⟨[(1,EP 0),(3,.one (LI))],[((KI 0),.box [LI,LI,LI,LD tJ,LD tC,LI,LD tS,LD tW,LD tW,LD tB]),([4000000],.gone)]⟩,fun m n vs k=>ap 12 (mU m n) vs (lm 1 fun z=>k .ret (aB ⟨[(2,.one (LB))],[]⟩ z)) (lm 0 fun z=>k (.exit 0) (aB ⟨[],[]⟩ z))⟩]
noncomputable def Ol:List Fs:=F6::Lg
theorem aaq:aF CX av Ol/\aW CX av F6:=dP Xm.1 F6 Tryz.f24 ⟨24,1,66,4⟩ aap (fun _ _=>rfl) (fun _ _ _=>by kernel_rfl) ⟨fun _ _ _=>rfl,fun _ _ _=>rfl,trivial⟩ ⟨fun _ _ _ _ _ _=>by kernel_rfl,fun _ _ _ _ _ _=>by kernel_rfl,trivial⟩ (fun _ _ _ _ _=>by kernel_rfl)
noncomputable def jS (m:Nat):Nat->T->T->T->T->T->T->T->T->T->T->T->T->T->T->T->T->(T->An)->An->An
 | 0,_,_,_,_,_,_,_,_,_,_,_,_,_,_,_,_,_,_=>.bad
 | n+1,x0,x1,x2,x3,x4,x5,x6,x7,x8,x9,x10,gy,o9,pU,PO,x15,k0,k1 =>
  cond (decide (x3.int<(x2.rows.length:Int)))
  ((fun (j4:An) =>
  cond (decide ((0:Int)<=x3.int/\x3.int<(x2.rows.length:Int)))
  (cond (decide (((x2.rows.getD (Int.toNat x3.int) []).getD 0 dflt).int>=(x10.rows.length:Int)))
  (k0 (T.b false))
  (cond (decide ((0:Int)<=x3.int/\x3.int<(x2.rows.length:Int)))
  (cond (decide ((0:Int)<=((x2.rows.getD (Int.toNat x3.int) []).getD 0 dflt).int/\((x2.rows.getD (Int.toNat x3.int) []).getD 0 dflt).int<(x10.rows.length:Int)))
  (qA m (T.l ((x10.rows.getD (Int.toNat ((x2.rows.getD (Int.toNat x3.int) []).getD 0 dflt).int) []).getD 1 dflt).rows) ((x10.rows.getD (Int.toNat ((x2.rows.getD (Int.toNat x3.int) []).getD 0 dflt).int) []).getD 2 dflt) (T.i 1) PO
  (fun y1=>cond ((!y1.bool)==true)
  (qA m (T.l ((x10.rows.getD (Int.toNat ((x2.rows.getD (Int.toNat x3.int) []).getD 0 dflt).int) []).getD 1 dflt).rows) ((x10.rows.getD (Int.toNat ((x2.rows.getD (Int.toNat x3.int) []).getD 0 dflt).int) []).getD 2 dflt) (T.i 2) PO
  (fun y2=>cond (!y2.bool)
  (k0 (T.b false))
  (j4)))
  (j4)))
  (.bad))
  (.bad)))
  (.bad))
  (jS m n (T.i (x0.int.toNat:Int)) (T.i (x1.int.toNat:Int)) x2 (T.i (IntKind.i64.wrap (x3.int+1))) x4 x5 x6 x7 x8 x9 x10 gy o9 pU PO x15 k0 k1))
  (k1 )
noncomputable def yN:Nat->T->T->T->T->T->T->T->T->T->T->T->T->(T->An)->An
 | 0,_,_,_,_,_,_,_,_,_,_,_,_,_=>.bad
 | m+1,x0,x1,x2,x3,x4,x5,x6,x7,x8,x9,x10,gy,k0 =>
  nA m (T.l gy.rows) x0
  (fun y0=>jS m m (T.i 0) (T.i 0) (T.l y0.rows) (T.i 0) x0 x1 x2 (T.l x3.rows) (T.l x4.rows) x5 (T.l x6.rows) (T.l x7.rows) (T.l x8.rows) (T.l x9.rows) x10 (T.l gy.rows)
  (fun y5=>k0 y5)
  (k0 (T.b true)))
noncomputable def Ai:Fs:=⟨60,[.agg [AI,AI,AI,.dz tJ [],.dz tC [],AI,.dz tS [],.dz tW [],.dz tW [],.dz tB []],.agg [AI,.dz tO []]],fun m vs k=>ap 12 (yN m) vs (lm 1 fun z=>k (bg ⟨[.one (RB)],[[none,none,none,none,none,none,none,none,none,none],[none,none]],[none,none]⟩ z))⟩
noncomputable def Ve:List Ls:=[⟨[0,1,0,1,1],⟨[(2,EP 0),(3,EP 1),(5,.one (LZ tI)),(6,.one (LI))],[((KI 0),.box [LI,LI,LI,LD tJ,LD tC,LI,LD tS,LD tW,LD tW,LD tB]),((KI 1),.box [LI,LD tO]),([4000000],.gone)]⟩,fun m n vs k=>ap 16 (jS m n) vs (lm 1 fun z=>k .ret (aB ⟨[(4,.one (LB))],[]⟩ z)) (lm 0 fun z=>k (.exit 0) (aB ⟨[],[]⟩ z))⟩]
noncomputable def Jl:List Fs:=Ai::Ol
theorem Vf:aF CX av Jl/\aW CX av Ai:=dP aaq.1 Ai Tryz.f60 ⟨60,2,54,16⟩ Ve (fun _ _=>rfl) (fun _ _ _=>by kernel_rfl) ⟨fun _ _ _=>rfl,trivial⟩ ⟨fun _ _ _ _ _ _=>by kernel_rfl,trivial⟩ (fun _ _ _ _ _=>by kernel_rfl)
noncomputable def jd (m:Nat):Nat->T->T->T->T->T->T->T->T->T->T->T->T->(T->An)->An->An
 | 0,_,_,_,_,_,_,_,_,_,_,_,_,_,_=>.bad
 | n+1,x0,x1,x2,x3,x4,x5,x6,x7,x8,x9,x10,gy,k0,k1 =>
  cond (decide (x1.int<(x6.rows.length:Int)))
  ((fun (j3:An) =>
  cond (decide ((0:Int)<=x1.int/\x1.int<(x6.rows.length:Int)))
  (cond (!(((x6.rows.getD (Int.toNat x1.int) []).drop 1).getD 0 dflt).bool)
  (j3)
  (cond (decide ((0:Int)<=x1.int/\x1.int<(x6.rows.length:Int)))
  (kM m x2 x3 x4 (T.l x5.rows) (T.l x6.rows) x7 (T.l x8.rows) (T.l x9.rows) (T.l x10.rows) (T.l gy.rows) ((x6.rows.getD (Int.toNat x1.int) []).getD 0 dflt)
  (fun y0=>cond ((decide (y0.int<0))==false)
  (cond (decide ((0:Int)<=y0.int/\y0.int<(gy.rows.length:Int)))
  (yN m x2 x3 x4 (T.l x5.rows) (T.l x6.rows) x7 (T.l x8.rows) (T.l x9.rows) (T.l x10.rows) (T.l gy.rows) ((gy.rows.getD (Int.toNat y0.int) []).getD 0 dflt) (T.l ((gy.rows.getD (Int.toNat y0.int) []).getD 1 dflt).rows)
  (fun y1=>cond (!y1.bool)
  (k0 (T.b false))
  (j3)))
  (.bad))
  (k0 (T.b false))))
  (.bad)))
  (.bad))
  (jd m n (T.i (x0.int.toNat:Int)) (T.i (IntKind.i64.wrap (x1.int+1))) x2 x3 x4 x5 x6 x7 x8 x9 x10 gy k0 k1))
  (k1 )
noncomputable def vU:Nat->T->T->T->T->T->T->T->T->T->T->(T->An)->An
 | 0,_,_,_,_,_,_,_,_,_,_,_=>.bad
 | m+1,x0,x1,x2,x3,x4,x5,x6,x7,x8,x9,k0 =>
  jd m m (T.i 0) (T.i 0) x0 x1 x2 (T.l x3.rows) (T.l x4.rows) x5 (T.l x6.rows) (T.l x7.rows) (T.l x8.rows) (T.l x9.rows)
  (fun y4=>k0 y4)
  (k0 (T.b true))
noncomputable def xJ:Fs:=⟨25,[.agg [AI,AI,AI,.dz tJ [],.dz tC [],AI,.dz tS [],.dz tW [],.dz tW [],.dz tB []]],fun m vs k=>ap 10 (vU m) vs (lm 1 fun z=>k (bg ⟨[.one (RB)],[[none,none,none,none,none,none,none,none,none,none]],[none]⟩ z))⟩
noncomputable def RN:List Ls:=[⟨[0,1,0,1],⟨[(1,EP 0),(3,.one (LI))],[((KI 0),.box [LI,LI,LI,LD tJ,LD tC,LI,LD tS,LD tW,LD tW,LD tB]),([4000000],.gone)]⟩,fun m n vs k=>ap 12 (jd m n) vs (lm 1 fun z=>k .ret (aB ⟨[(2,.one (LB))],[]⟩ z)) (lm 0 fun z=>k (.exit 0) (aB ⟨[],[]⟩ z))⟩]
noncomputable def G6:List Fs:=xJ::Jl
theorem RO:aF CX av G6/\aW CX av xJ:=dP Vf.1 xJ Tryz.f25 ⟨25,1,42,4⟩ RN (fun _ _=>rfl) (fun _ _ _=>by kernel_rfl) ⟨fun _ _ _=>rfl,trivial⟩ ⟨fun _ _ _ _ _ _=>by kernel_rfl,trivial⟩ (fun _ _ _ _ _=>by kernel_rfl)
noncomputable def Kl:Nat->T->T->T->T->T->T->T->T->T->T->(T->An)->An
 | 0,_,_,_,_,_,_,_,_,_,_,_=>.bad
 | m+1,x0,x1,x2,x3,x4,x5,x6,x7,x8,x9,k0 =>
  yL m x0 x1 x2 (T.l x3.rows) (T.l x4.rows) x5 (T.l x6.rows) (T.l x7.rows) (T.l x8.rows) (T.l x9.rows)
  (fun y0=>cond (!y0.bool)
  (k0 (T.i 1))
  (yM m x0 x1 x2 (T.l x3.rows) (T.l x4.rows) x5 (T.l x6.rows) (T.l x7.rows) (T.l x8.rows) (T.l x9.rows)
  (fun y1=>cond (!y1.bool)
  (k0 (T.i 2))
  (BU m x0 x1 x2 (T.l x3.rows) (T.l x4.rows) x5 (T.l x6.rows) (T.l x7.rows) (T.l x8.rows) (T.l x9.rows)
  (fun y2=>cond (!y2.bool)
  (k0 (T.i 3))
  (F5 m x0 x1 x2 (T.l x3.rows) (T.l x4.rows) x5 (T.l x6.rows) (T.l x7.rows) (T.l x8.rows) (T.l x9.rows)
  (fun y3=>cond (!y3.bool)
  (k0 (T.i 4))
  (vU m x0 x1 x2 (T.l x3.rows) (T.l x4.rows) x5 (T.l x6.rows) (T.l x7.rows) (T.l x8.rows) (T.l x9.rows)
  (fun y4=>cond (!y4.bool)
  (k0 (T.i 5))
  (k0 (T.i 0)))))))))))
noncomputable def Jm:Fs:=⟨6,[.agg [AI,AI,AI,.dz tJ [],.dz tC [],AI,.dz tS [],.dz tW [],.dz tW [],.dz tB []]],fun m vs k=>ap 10 (Kl m) vs (lm 1 fun z=>k (bg ⟨[.one (RI)],[[none,none,none,none,none,none,none,none,none,none]],[none]⟩ z))⟩
noncomputable def QJ:List Fs:=Jm::G6
theorem ab9:aF CX av QJ/\aW CX av Jm:=dP RO.1 Jm Tryz.f6 ⟨6,1,23,4⟩ [] (fun _ _=>rfl) (fun _ _ _=>by kernel_rfl) trivial trivial (fun _ _ _ _ _=>by kernel_rfl)
noncomputable def dB:Nat->T->T->T->(T->An)->An
 | 0,_,_,_,_=>.bad
 | m+1,x0,x1,x2,k0 =>
  cond ((decide (x0.int>=x1.int))==true)
  (k0 (T.b (decide (x0.int<=x2.int))))
  (k0 (T.b false))
noncomputable def Aj:Fs:=⟨76,[.one (AI),.one (AI),.one (AI)],fun m vs k=>ap 3 (dB m) vs (lm 1 fun z=>k (bg ⟨[.one (RB)],[[none],[none],[none]],[none,none,none]⟩ z))⟩
noncomputable def Jo:List Fs:=Aj::QJ
theorem Vg:aF CX av Jo/\aW CX av Aj:=dP ab9.1 Aj Tryz.f76 ⟨76,3,15,64⟩ [] (fun _ _=>rfl) (fun _ _ _=>by kernel_rfl) trivial trivial (fun _ _ _ _ _=>by kernel_rfl)
noncomputable def jT:Nat->T->(T->An)->An
 | 0,_,_=>.bad
 | m+1,x0,k0 =>
  k0 (T.i (IntKind.i64.wrap ((IntKind.i64.wrap ((((bY x0).drop 1).getD 0 dflt).int * 1000))+(((bY x0).drop 2).getD 0 dflt).int)))
noncomputable def qJ:Fs:=⟨77,[.Kw [.sc (.int .i64),.sc (.int .i64),.sc (.int .i64),.sl tJ,.sl tC,.sc (.int .i64)] []],fun m vs k=>ap 1 (jT m) vs (lm 1 fun z=>k (bg ⟨[.one (RI)],[[]],[none]⟩ z))⟩
noncomputable def xY:List Fs:=qJ::Jo
theorem Kv:aF CX av xY/\aW CX av qJ:=dP Vg.1 qJ Tryz.f77 ⟨77,1,13,4⟩ [] (fun _ _=>rfl) (fun _ _ _=>by kernel_rfl) trivial trivial (fun _ _ _ _ _=>by kernel_rfl)
noncomputable def oO:Nat->T->T->T->(T->An)->An
 | 0,_,_,_,_=>.bad
 | m+1,x0,x1,x2,k0 =>
  k0 (T.b (x0.int==((bY x2).getD 0 dflt).int))
noncomputable def nR:Fs:=⟨128,[.agg [AI,AB],.Kw tI []],fun m vs k=>ap 3 (oO m) vs (lm 1 fun z=>k (bg ⟨[.one (RB)],[[none,none],[]],[none,none]⟩ z))⟩
noncomputable def sG:List Fs:=nR::xY
theorem En:aF CX av sG/\aW CX av nR:=dP Kv.1 nR Tryz.f128 ⟨128,2,8,8⟩ [] (fun _ _=>rfl) (fun _ _ _=>by kernel_rfl) trivial trivial (fun _ _ _ _ _=>by kernel_rfl)
noncomputable def aX (m:Nat):Nat->T->T->T->T->(T->An)->An->An
 | 0,_,_,_,_,_,_=>.bad
 | n+1,x0,x1,x2,x3,k0,k1 =>
  cond (decide (x3.int<x2.int))
  (cond (decide ((0:Int)<=x3.int/\x3.int<(x0.rows.length:Int)))
  (oO m ((x0.rows.getD (Int.toNat x3.int) []).getD 0 dflt) ((x0.rows.getD (Int.toNat x3.int) []).getD 1 dflt) (T.l [(bY x1)])
  (fun y0=>cond y0.bool
  (k0 x3)
  (aX m n x0 (T.l [(bY x1)]) x2 (T.i (IntKind.i64.wrap (x3.int+1))) k0 k1)))
  (.bad))
  (k1 )
noncomputable def dI:Nat->T->T->(T->An)->An
 | 0,_,_,_=>.bad
 | m+1,x0,x1,k0 =>
  aX m m (T.l x0.rows) (T.l [(bY x1)]) (T.i (x0.rows.length:Int)) (T.i 0)
  (fun y1=>k0 y1)
  (k0 (T.i (-1)))
noncomputable def dw:Fs:=⟨127,[.one (.dz tC []),.fn 128 [.Kw tI []]],fun m vs k=>ap 2 (dI m) vs (lm 1 fun z=>k (bg ⟨[.one (RI)],[[none],[]],[none,none]⟩ z))⟩
noncomputable def nJ:List Ls:=[⟨[0,1,0,1],⟨[(0,.one (LD tC)),(1,.fn 128 [.rp [([4000000],0)] tI []]),(7,.one (LI)),(8,.one (LI))],[([4000000],.gone)]⟩,fun m n vs k=>ap 4 (aX m n) vs (lm 1 fun z=>k .ret (aB ⟨[(4,.one (LI))],[]⟩ z)) (lm 0 fun z=>k (.exit 0) (aB ⟨[],[]⟩ z))⟩]
noncomputable def fQ:List Fs:=dw::sG
theorem nK:aF CX av fQ/\aW CX av dw:=dP En.1 dw Tryz.f127 ⟨127,2,19,16⟩ nJ (fun _ _=>rfl) (fun _ _ _=>by kernel_rfl) ⟨fun _ _ _=>rfl,trivial⟩ ⟨fun _ _ _ _ _ _=>by kernel_rfl,trivial⟩ (fun _ _ _ _ _=>by kernel_rfl)
noncomputable def kI:Nat->T->T->(T->An)->An
 | 0,_,_,_=>.bad
 | m+1,x0,x1,k0 =>
  dI m (T.l (((bY x0).drop 4).getD 0 dflt).rows) (T.l [[x1]])
  (fun y0=>k0 y0)
noncomputable def oP:Fs:=⟨78,[.Kw [.sc (.int .i64),.sc (.int .i64),.sc (.int .i64),.sl tJ,.sl tC,.sc (.int .i64)] [],.one (AI)],fun m vs k=>ap 2 (kI m) vs (lm 1 fun z=>k (bg ⟨[.one (RI)],[[],[none]],[none,none]⟩ z))⟩
noncomputable def uM:List Fs:=oP::fQ
theorem Ht:aF CX av uM/\aW CX av oP:=dP nK.1 oP Tryz.f78 ⟨78,2,11,16⟩ [] (fun _ _=>rfl) (fun _ _ _=>by kernel_rfl) trivial trivial (fun _ _ _ _ _=>by kernel_rfl)
noncomputable def uf:Nat->T->(T->An)->An
 | 0,_,_=>.bad
 | m+1,x0,k0 =>
  cond ((decide (x0.int>=97))==true)
  (cond ((decide (x0.int<=122))==false)
  (cond ((decide (x0.int>=48))==true)
  (k0 (T.b (decide (x0.int<=57))))
  (k0 (T.b false)))
  (k0 (T.b true)))
  (cond ((decide (x0.int>=48))==true)
  (k0 (T.b (decide (x0.int<=57))))
  (k0 (T.b false)))
noncomputable def vD:Fs:=⟨239,[.one (.sc (.int .u8) (.l []))],fun m vs k=>ap 1 (uf m) vs (lm 1 fun z=>k (bg ⟨[.one (RB)],[[none]],[none]⟩ z))⟩
noncomputable def Eo:List Fs:=vD::uM
theorem PS:aF CX av Eo/\aW CX av vD:=dP Ht.1 vD Tryz.f239 ⟨239,1,17,4⟩ [] (fun _ _=>rfl) (fun _ _ _=>by kernel_rfl) trivial trivial (fun _ _ _ _ _=>by kernel_rfl)
noncomputable def lq (m:Nat):Nat->T->T->(T->An)->An->An
 | 0,_,_,_,_=>.bad
 | n+1,x0,x1,k0,k1 =>
  cond (decide (x1.int<(x0.str.size:Int)))
  (cond (decide ((0:Int)<=x1.int/\x1.int<(x0.str.size:Int)))
  (uf m (T.i ((x0.str.data.toList.getD (Int.toNat x1.int) 0).toNat:Int))
  (fun y0=>cond (!y0.bool)
  (k0 (T.b false))
  (lq m n x0 (T.i (IntKind.i64.wrap (x1.int+1))) k0 k1)))
  (.bad))
  (k1 )
noncomputable def Jp:Nat->T->(T->An)->An
 | 0,_,_=>.bad
 | m+1,x0,k0 =>
  lq m m x0 (T.i 0)
  (fun y1=>k0 y1)
  (k0 (T.b true))
noncomputable def Du:Fs:=⟨216,[.one (AS)],fun m vs k=>ap 1 (Jp m) vs (lm 1 fun z=>k (bg ⟨[.one (RB)],[[none]],[none]⟩ z))⟩
noncomputable def Xn:List Ls:=[⟨[0,1,0,1],⟨[(0,.one (LS)),(3,.one (LI))],[]⟩,fun m n vs k=>ap 2 (lq m n) vs (lm 1 fun z=>k .ret (aB ⟨[(2,.one (LB))],[]⟩ z)) (lm 0 fun z=>k (.exit 0) (aB ⟨[],[]⟩ z))⟩]
noncomputable def Lh:List Fs:=Du::Eo
theorem Xo:aF CX av Lh/\aW CX av Du:=dP PS.1 Du Tryz.f216 ⟨216,1,15,4⟩ Xn (fun _ _=>rfl) (fun _ _ _=>by kernel_rfl) ⟨fun _ _ _=>rfl,trivial⟩ ⟨fun _ _ _ _ _ _=>by kernel_rfl,trivial⟩ (fun _ _ _ _ _=>by kernel_rfl)
noncomputable def Ak:Nat->T->(T->An)->An
 | 0,_,_=>.bad
 | m+1,x0,k0 =>
  dB m (T.i (x0.str.size:Int)) (T.i 1) (T.i 12)
  (fun y0=>cond (y0.bool==true)
  (Jp m x0
  (fun y1=>k0 (T.b y1.bool)))
  (k0 (T.b false)))
noncomputable def F7:Fs:=⟨179,[.one (AS)],fun m vs k=>ap 1 (Ak m) vs (lm 1 fun z=>k (bg ⟨[.one (RB)],[[none]],[none]⟩ z))⟩
noncomputable def Om:List Fs:=F7::Lh
theorem aar:aF CX av Om/\aW CX av F7:=dP Xo.1 F7 Tryz.f179 ⟨179,1,10,4⟩ [] (fun _ _=>rfl) (fun _ _ _=>by kernel_rfl) trivial trivial (fun _ _ _ _ _=>by kernel_rfl)
noncomputable def Km:Nat->T->T->T->(T->An)->An
 | 0,_,_,_,_=>.bad
 | m+1,x0,x1,x2,k0 =>
  jn (fun (j5:T->An) =>
  cond (x0.int==1)
  (j5 (T.b true))
  (j5 (T.b (x0.int==3))))
  (fun y0=>cond y0.bool
  (Ak m x1
  (fun y1=>cond (y1.bool==true)
  (k0 (T.b (decide ((x2.str.size:Int)<=20))))
  (k0 (T.b false))))
  (cond (x0.int==2)
  (Ak m x1
  (fun y3=>cond (y3.bool==true)
  (k0 (T.b (x2.str.toList==(⟨#[]⟩:ByteArray).toList)))
  (k0 (T.b false))))
  (k0 (T.b false))))
noncomputable def Jq:Fs:=⟨133,[.agg [AI,AS,AS]],fun m vs k=>ap 3 (Km m) vs (lm 1 fun z=>k (bg ⟨[.one (RB)],[[none,none,none]],[none]⟩ z))⟩
noncomputable def QK:List Fs:=Jq::Om
theorem acd:aF CX av QK/\aW CX av Jq:=dP aar.1 Jq Tryz.f133 ⟨133,1,27,4⟩ [] (fun _ _=>rfl) (fun _ _ _=>by kernel_rfl) trivial trivial (fun _ _ _ _ _=>by kernel_rfl)
noncomputable def kC (m:Nat):Nat->T->T->T->T->(T->An)->(T->An)->An
 | 0,_,_,_,_,_,_=>.bad
 | n+1,x0,x1,x2,x3,k0,k1 =>
  cond (decide (x3.int<x2.int))
  (cond (decide ((0:Int)<=x3.int/\x3.int<(x1.rows.length:Int)))
  (Km m ((x1.rows.getD (Int.toNat x3.int) []).getD 0 dflt) ((x1.rows.getD (Int.toNat x3.int) []).getD 1 dflt) ((x1.rows.getD (Int.toNat x3.int) []).getD 2 dflt)
  (fun y0=>cond ((!y0.bool)==false)
  (cond ((decide (x3.int > 0))==true)
  (cond (decide ((0:Int)<=(IntKind.i64.wrap (x3.int-1))/\(IntKind.i64.wrap (x3.int-1))<(x0.rows.length:Int)))
  (cond ((Op.bytesLess ((x1.rows.getD (Int.toNat x3.int) []).getD 1 dflt).str.toList (((x0.rows.getD (Int.toNat (IntKind.i64.wrap (x3.int-1))) []).drop 1).getD 0 dflt).str.toList)||(((x1.rows.getD (Int.toNat x3.int) []).getD 1 dflt).str.toList==(((x0.rows.getD (Int.toNat (IntKind.i64.wrap (x3.int-1))) []).drop 1).getD 0 dflt).str.toList))
  (k0 (T.b false))
  (kC m n x0 x1 x2 (T.i (IntKind.i64.wrap (x3.int+1))) k0 k1))
  (.bad))
  (kC m n x0 x1 x2 (T.i (IntKind.i64.wrap (x3.int+1))) k0 k1))
  (k0 (T.b false))))
  (.bad))
  (k1 x0)
noncomputable def rH:Nat->T->(T->An)->An
 | 0,_,_=>.bad
 | m+1,x0,k0 =>
  kC m m (T.l x0.rows) (T.l x0.rows) (T.i (x0.rows.length:Int)) (T.i 0)
  (fun y2=>k0 y2)
  (fun y3=>dB m (T.i (y3.rows.length:Int)) (T.i 1) (T.i 8)
  (fun y4=>k0 y4))
noncomputable def F8:Fs:=⟨86,[.one (.dz tO [])],fun m vs k=>ap 1 (rH m) vs (lm 1 fun z=>k (bg ⟨[.one (RB)],[[none]],[none]⟩ z))⟩
noncomputable def aas:List Ls:=[⟨[0,1,0,1],⟨[(0,.one (LD tO)),(5,.one (LD tO)),(6,.one (LI)),(7,.one (LI))],[([4000000],.gone)]⟩,fun m n vs k=>ap 4 (kC m n) vs (lm 1 fun z=>k .ret (aB ⟨[(2,.one (LB))],[]⟩ z)) (lm 1 fun z=>k (.exit 0) (aB ⟨[(0,.one (LD tO))],[([4000000],.gone)]⟩ z))⟩]
noncomputable def Oo:List Fs:=F8::QK
theorem aat:aF CX av Oo/\aW CX av F8:=dP acd.1 F8 Tryz.f86 ⟨86,1,34,4⟩ aas (fun _ _=>rfl) (fun _ _ _=>by kernel_rfl) ⟨fun _ _ _=>rfl,trivial⟩ ⟨fun _ _ _ _ _ _=>by kernel_rfl,trivial⟩ (fun _ _ _ _ _=>by kernel_rfl)
noncomputable def nS (m:Nat):Nat->T->T->T->(T->An)->An
 | 0,_,_,_,_=>.bad
 | n+1,x0,x1,x2,k0 =>
  cond (decide (x2.int<(x0.str.size:Int)))
  (cond (decide ((0:Int)<=x2.int/\x2.int<(x0.str.size:Int)))
  (nS m n x0 (T.i (IntKind.u32.wrap ((uR .u32 (BitVec.ofInt IntKind.u32.bits x1.int ^^^ BitVec.ofInt IntKind.u32.bits (IntKind.u32.wrap ((x0.str.data.toList.getD (Int.toNat x2.int) 0).toNat:Int)))).int * 16777619))) (T.i (IntKind.i64.wrap (x2.int+1))) k0)
  (.bad))
  (k0 x1)
noncomputable def PU:Nat->T->(T->An)->An
 | 0,_,_=>.bad
 | m+1,x0,k0 =>
  nS m m x0 (T.i 2166136261) (T.i 0)
  (fun y0=>k0 (T.i (IntKind.i64.wrap y0.int)))
noncomputable def Jr:Fs:=⟨134,[.one (AS)],fun m vs k=>ap 1 (PU m) vs (lm 1 fun z=>k (bg ⟨[.one (RI)],[[none]],[none]⟩ z))⟩
noncomputable def ace:List Ls:=[⟨[0,1,0,1,1],⟨[(0,.one (LS)),(3,.one (⟨.sc,.sc (.int .u32),.l []⟩)),(4,.one (LI))],[]⟩,fun m n vs k=>ap 3 (nS m n) vs (lm 1 fun z=>k (.exit 0) (aB ⟨[(3,.one (⟨.sc,.sc (.int .u32),.l []⟩))],[]⟩ z))⟩]
noncomputable def QL:List Fs:=Jr::Oo
theorem acf:aF CX av QL/\aW CX av Jr:=dP aat.1 Jr Tryz.f134 ⟨134,1,21,4⟩ ace (fun _ _=>rfl) (fun _ _ _=>by kernel_rfl) ⟨fun _ _ _=>rfl,trivial⟩ ⟨fun _ _ _ _ _ _=>by kernel_rfl,trivial⟩ (fun _ _ _ _ _=>by kernel_rfl)
noncomputable def ug:Nat->T->T->(T->An)->An
 | 0,_,_,_=>.bad
 | m+1,x0,x1,k0 =>
  cond (decide (x1.int<1))
  (k0 (T.i 0))
  (PU m x0
  (fun y0=>cond (!decide (x1.int=0))
  (k0 (T.i (Int.tmod y0.int x1.int)))
  (.bad)))
noncomputable def Al:Fs:=⟨89,[.one (AS),.one (AI)],fun m vs k=>ap 2 (ug m) vs (lm 1 fun z=>k (bg ⟨[.one (RI)],[[none],[none]],[none,none]⟩ z))⟩
noncomputable def Js:List Fs:=Al::QL
theorem Vh:aF CX av Js/\aW CX av Al:=dP acf.1 Al Tryz.f89 ⟨89,2,11,16⟩ [] (fun _ _=>rfl) (fun _ _ _=>by kernel_rfl) trivial trivial (fun _ _ _ _ _=>by kernel_rfl)
noncomputable def om:Nat->T->(T->An)->An
 | 0,_,_=>.bad
 | m+1,x0,k0 =>
  cond (decide ((0:Int)<=(x0.rows.length:Int)/\(x0.rows.length:Int)<=(x0.rows.length:Int)/\(x0.rows.length:Int)<=(x0.rows.length:Int)))
  (cond (decide ((0:Int)<=0/\0<=(x0.rows.length:Int)))
  (k0 (T.l (x0.rows.take (Int.toNat (x0.rows.length:Int)))))
  (.bad))
  (.bad)
noncomputable def nC:Fs:=⟨91,[.one (.fz tI [])],fun m vs k=>ap 1 (om m) vs (lm 1 fun z=>k (bg ⟨[.one (.fz tI [])],[[none]],[none]⟩ z))⟩
noncomputable def qP:List Fs:=nC::Js
theorem Dv:aF CX av qP/\aW CX av nC:=dP Vh.1 nC Tryz.f91 ⟨91,1,9,4⟩ [] (fun _ _=>rfl) (fun _ _ _=>by kernel_rfl) trivial trivial (fun _ _ _ _ _=>by kernel_rfl)
noncomputable def je (m:Nat):Nat->T->T->T->T->T->(T->An)->An
 | 0,_,_,_,_,_,_=>.bad
 | n+1,x0,x1,x2,x3,x4,k0 =>
  cond (decide (x3.int<x2.int))
  (cond (decide ((0:Int)<=x3.int/\x3.int<(x1.rows.length:Int)))
  (ug m ((x1.rows.getD (Int.toNat x3.int) []).getD 1 dflt) x0
  (fun y0=>cond (decide ((x4.rows.length+1) * 1<=aS))
  (je m n x0 x1 x2 (T.i (IntKind.i64.wrap (x3.int+1))) (T.l (x4.rows++[[y0]])) k0)
  (.bad)))
  (.bad))
  (k0 (T.l x4.rows))
noncomputable def oM:Nat->T->T->(T->An)->An
 | 0,_,_,_=>.bad
 | m+1,x0,x1,k0 =>
  je m m x1 (T.l x0.rows) (T.i (x0.rows.length:Int)) (T.i 0) (T.l [])
  (fun y1=>Iz m (T.l y1.rows)
  (fun y2=>slices_Compact m (T.l y2.rows)
  (fun y3=>om m (T.l y3.rows)
  (fun y4=>k0 (T.l y4.rows)))))
noncomputable def xK:Fs:=⟨44,[.one (.dz tO []),.one (AI)],fun m vs k=>ap 2 (oM m) vs (lm 1 fun z=>k (bg ⟨[.one (.fz tI [])],[[none],[none]],[none,none]⟩ z))⟩
noncomputable def RP:List Ls:=[⟨[0,1,0,1,1],⟨[(1,.one (LI)),(5,.one (LA (KI 0) tI)),(8,.one (LD tO)),(9,.one (LI)),(10,.one (LI))],[((KI 0),.row tI [.F] []),([4000000],.gone)]⟩,fun m n vs k=>ap 5 (je m n) vs (lm 1 fun z=>k (.exit 0) (aB ⟨[(5,.one (LA (KI 0) tI))],[((KI 0),.row tI [.F] [])]⟩ z))⟩]
noncomputable def G7:List Fs:=xK::qP
theorem RQ:aF CX av G7/\aW CX av xK:=dP Dv.1 xK Tryz.f44 ⟨44,2,27,16⟩ RP (fun _ _=>rfl) (fun _ _ _=>by kernel_rfl) ⟨fun _ _ _=>rfl,trivial⟩ ⟨fun _ _ _ _ _ _=>by kernel_rfl,trivial⟩ (fun _ _ _ _ _=>by kernel_rfl)
noncomputable def cu (m:Nat):Nat->T->T->T->T->(T->An)->An->An
 | 0,_,_,_,_,_,_=>.bad
 | n+1,x0,x1,x2,x3,k0,k1 =>
  cond (decide (x3.int<x2.int))
  (cond (decide ((0:Int)<=x3.int/\x3.int<(x0.rows.length:Int)))
  (cond (x1.int==((x0.rows.getD (Int.toNat x3.int) []).getD 0 dflt).int)
  (k0 x3)
  (cu m n x0 x1 x2 (T.i (IntKind.i64.wrap (x3.int+1))) k0 k1))
  (.bad))
  (k1 )
noncomputable def nT:Nat->T->T->(T->An)->An
 | 0,_,_,_=>.bad
 | m+1,x0,x1,k0 =>
  cu m m (T.l x0.rows) x1 (T.i (x0.rows.length:Int)) (T.i 0)
  (fun y0=>k0 y0)
  (k0 (T.i (-1)))
noncomputable def mI:Fs:=⟨172,[.one (.dz tI []),.one (AI)],fun m vs k=>ap 2 (nT m) vs (lm 1 fun z=>k (bg ⟨[.one (RI)],[[none],[none]],[none,none]⟩ z))⟩
noncomputable def AY:List Ls:=[⟨[0,1,0,1],⟨[(0,.one (LD tI)),(1,.one (LI)),(7,.one (LI)),(8,.one (LI))],[([4000000],.gone)]⟩,fun m n vs k=>ap 4 (cu m n) vs (lm 1 fun z=>k .ret (aB ⟨[(4,.one (LI))],[]⟩ z)) (lm 0 fun z=>k (.exit 0) (aB ⟨[],[]⟩ z))⟩]
noncomputable def qG:List Fs:=mI::G7
theorem AZ:aF CX av qG/\aW CX av mI:=dP RQ.1 mI Tryz.f172 ⟨172,2,19,16⟩ AY (fun _ _=>rfl) (fun _ _ _=>by kernel_rfl) ⟨fun _ _ _=>rfl,trivial⟩ ⟨fun _ _ _ _ _ _=>by kernel_rfl,trivial⟩ (fun _ _ _ _ _=>by kernel_rfl)
noncomputable def gI:Nat->T->T->(T->An)->An
 | 0,_,_,_=>.bad
 | m+1,x0,x1,k0 =>
  nT m (T.l x0.rows) x1
  (fun y0=>k0 (T.b (decide (y0.int>=0))))
noncomputable def kD:Fs:=⟨129,[.one (.dz tI []),.one (AI)],fun m vs k=>ap 2 (gI m) vs (lm 1 fun z=>k (bg ⟨[.one (RB)],[[none],[none]],[none,none]⟩ z))⟩
noncomputable def oI:List Fs:=kD::qG
theorem xL:aF CX av oI/\aW CX av kD:=dP AZ.1 kD Tryz.f129 ⟨129,2,9,16⟩ [] (fun _ _=>rfl) (fun _ _ _=>by kernel_rfl) trivial trivial (fun _ _ _ _ _=>by kernel_rfl)
noncomputable def fJ (m:Nat):Nat->T->T->T->T->T->T->T->T->T->T->(T->An)->(T->T->T->T->T->T->An)->An
 | 0,_,_,_,_,_,_,_,_,_,_,_,_=>.bad
 | n+1,x0,x1,x2,x3,x4,x5,x6,x7,x8,x9,k0,k1 =>
  cond (decide (x5.int<x4.int))
  ((fun (j10:T->An) =>
  cond (decide ((0:Int)<=x5.int/\x5.int<(x3.rows.length:Int)))
  (gI m (T.l x2.rows) ((x3.rows.getD (Int.toNat x5.int) []).getD 0 dflt)
  (fun y6=>cond ((!y6.bool)==false)
  (cond ((decide (x5.int > 0))==true)
  (cond (decide ((0:Int)<=(IntKind.i64.wrap (x5.int-1))/\(IntKind.i64.wrap (x5.int-1))<(x9.rows.length:Int)))
  (cond (decide (((x3.rows.getD (Int.toNat x5.int) []).getD 0 dflt).int<=((x9.rows.getD (Int.toNat (IntKind.i64.wrap (x5.int-1))) []).getD 0 dflt).int))
  (k0 (T.b false))
  (j10 (T.l [(bY x0)])))
  (.bad))
  (j10 (T.l [(bY x0)])))
  (k0 (T.b false))))
  (.bad))
  (fun y9=>fJ m n (T.l [(bY y9)]) (T.i (x1.int.toNat:Int)) x2 x3 x4 (T.i (IntKind.i64.wrap (x5.int+1))) x6 x7 x8 x9 k0 k1))
  (k1 (T.l [(bY x0)]) (T.i (x1.int.toNat:Int)) x6 x7 x8 x9)
noncomputable def qB:Nat->T->T->T->T->T->(T->An)->An
 | 0,_,_,_,_,_,_=>.bad
 | m+1,x0,x1,x2,x3,x4,k0 =>
  jn (fun (j21:T->An) =>
  jT m (T.l [((bY x0).take 6)])
  (fun y0=>dB m x1 (T.i (IntKind.i64.wrap ((((bY x0).drop 1).getD 0 dflt).int * 1000))) (T.i (IntKind.i64.wrap (y0.int-1)))
  (fun y1=>cond ((!y1.bool)==false)
  (rH m (T.l x2.rows)
  (fun y2=>cond (!y2.bool)
  (k0 (T.b false))
  (j21 (T.l [(bY x0)]))))
  (k0 (T.b false)))))
  (fun y4=>oM m (T.l x2.rows) ((bY y4).getD 0 dflt)
  (fun y5=>fJ m m (T.l [(bY y4)]) (T.i 0) (T.l y5.rows) (T.l x4.rows) (T.i (x4.rows.length:Int)) (T.i 0) x1 (T.l x2.rows) x3 (T.l x4.rows)
  (fun Kj=>k0 Kj)
  (fun DX y13 Je O3 K9 MN=>kI m (T.l [((bY DX).take 6)]) Je
  (fun Hy=>cond (K9.int==1)
  (k0 (T.b (decide (Hy.int<0))))
  (cond (K9.int==2)
  (cond ((decide (Hy.int>=0))==true)
  (cond (decide ((0:Int)<=Hy.int/\Hy.int<((((bY DX).drop 4).getD 0 dflt).rows.length:Int)))
  (k0 (T.b ((((((bY DX).drop 4).getD 0 dflt).rows.getD (Int.toNat Hy.int) []).drop 1).getD 0 dflt).bool))
  (.bad))
  (k0 (T.b false)))
  (cond (K9.int==3)
  (cond ((decide (Hy.int>=0))==true)
  (cond (decide ((0:Int)<=Hy.int/\Hy.int<((((bY DX).drop 4).getD 0 dflt).rows.length:Int)))
  (k0 (T.b (!((((((bY DX).drop 4).getD 0 dflt).rows.getD (Int.toNat Hy.int) []).drop 1).getD 0 dflt).bool)))
  (.bad))
  (k0 (T.b false)))
  (k0 (T.b false))))))))
noncomputable def rM:Fs:=⟨79,[.Kw [.sc (.int .i64),.sc (.int .i64),.sc (.int .i64),.sl tJ,.sl tC,.sc (.int .i64)] [],.agg [AI,.dz tO [],AI,.dz tI []]],fun m vs k=>ap 5 (qB m) vs (lm 1 fun z=>k (bg ⟨[.one (RB)],[[],[none,none,none,none]],[none,none]⟩ z))⟩
noncomputable def Mx:List Ls:=[⟨[0,1,0,1,1,1],⟨[(0,.rp [([4000000],0)] [.sc (.int .i64),.sc (.int .i64),.sc (.int .i64),.sl tJ,.sl tC,.sc (.int .i64)] []),(3,EP 1),(5,.one (LZ tI)),(35,.one (LD tI)),(36,.one (LI)),(37,.one (LI))],[([4000000],.gone),((KI 1),.box [LI,LD tO,LI,LD tI])]⟩,fun m n vs k=>ap 10 (fJ m n) vs (lm 1 fun z=>k .ret (aB ⟨[(4,.one (LB))],[]⟩ z)) (lm 6 fun z=>k (.exit 0) (aB ⟨[(0,.rp [([4000000],0)] [.sc (.int .i64),.sc (.int .i64),.sc (.int .i64),.sl tJ,.sl tC,.sc (.int .i64)] []),(3,EP 1)],[([4000000],.gone),((KI 1),.box [LI,LD tO,LI,LD tI])]⟩ z))⟩]
noncomputable def Am:List Fs:=rM::oI
theorem MB:aF CX av Am/\aW CX av rM:=dP xL.1 rM Tryz.f79 ⟨79,2,100,16⟩ Mx (fun _ _=>rfl) (fun _ _ _=>by kernel_rfl) ⟨fun _ _ _=>rfl,trivial⟩ ⟨fun _ _ _ _ _ _=>by kernel_rfl,trivial⟩ (fun _ _ _ _ _=>by kernel_rfl)
noncomputable def gJ (m:Nat):Nat->T->T->T->T->T->T->T->T->T->T->(T->An)->An->An
 | 0,_,_,_,_,_,_,_,_,_,_,_,_=>.bad
 | n+1,x0,x1,x2,x3,x4,x5,x6,x7,x8,x9,k0,k1 =>
  cond (decide (x3.int<x2.int))
  (cond (decide ((0:Int)<=x3.int/\x3.int<(x1.rows.length:Int)))
  (qB m (T.l [[x4,x5,x6,(T.l x7.rows),(T.l x8.rows),x9]]) ((x1.rows.getD (Int.toNat x3.int) []).getD 0 dflt) (T.l ((x1.rows.getD (Int.toNat x3.int) []).getD 1 dflt).rows) ((x1.rows.getD (Int.toNat x3.int) []).getD 2 dflt) (T.l ((x1.rows.getD (Int.toNat x3.int) []).getD 3 dflt).rows)
  (fun MN=>cond ((!MN.bool)==false)
  (cond ((decide (x3.int > 0))==true)
  (cond (decide ((0:Int)<=(IntKind.i64.wrap (x3.int-1))/\(IntKind.i64.wrap (x3.int-1))<(x7.rows.length:Int)))
  (cond (decide (((x1.rows.getD (Int.toNat x3.int) []).getD 0 dflt).int<=((x7.rows.getD (Int.toNat (IntKind.i64.wrap (x3.int-1))) []).getD 0 dflt).int))
  (k0 (T.b false))
  (gJ m n (T.i (x0.int.toNat:Int)) x1 x2 (T.i (IntKind.i64.wrap (x3.int+1))) x4 x5 x6 x7 x8 x9 k0 k1))
  (.bad))
  (gJ m n (T.i (x0.int.toNat:Int)) x1 x2 (T.i (IntKind.i64.wrap (x3.int+1))) x4 x5 x6 x7 x8 x9 k0 k1))
  (k0 (T.b false))))
  (.bad))
  (k1 )
noncomputable def jU (m:Nat):Nat->T->T->T->T->T->T->T->T->T->T->(T->An)->(T->T->T->T->T->T->T->An)->An
 | 0,_,_,_,_,_,_,_,_,_,_,_,_=>.bad
 | n+1,x0,x1,x2,x3,x4,x5,x6,x7,x8,x9,k0,k1 =>
  cond (decide (x3.int<x2.int))
  (cond (decide ((0:Int)<=x3.int/\x3.int<(x1.rows.length:Int)))
  (jT m (T.l [[x4,x5,x6,(T.l x7.rows),(T.l x8.rows),x9]])
  (fun y5=>dB m ((x1.rows.getD (Int.toNat x3.int) []).getD 0 dflt) (T.i 1000) (T.i (IntKind.i64.wrap (y5.int-1)))
  (fun y6=>cond ((!y6.bool)==false)
  (kI m (T.l [[x4,x5,x6,(T.l x7.rows),(T.l x8.rows),x9]]) ((x1.rows.getD (Int.toNat x3.int) []).getD 0 dflt)
  (fun y7=>cond (y7.int != x3.int)
  (k0 (T.b false))
  (jU m n (T.i (x0.int.toNat:Int)) x1 x2 (T.i (IntKind.i64.wrap (x3.int+1))) x4 x5 x6 x7 x8 x9 k0 k1)))
  (k0 (T.b false)))))
  (.bad))
  (k1 (T.i (x0.int.toNat:Int)) x4 x5 x6 x7 x8 x9)
noncomputable def yO:Nat->T->T->T->T->T->T->(T->An)->An
 | 0,_,_,_,_,_,_,_=>.bad
 | m+1,x0,x1,x2,x3,x4,x5,k0 =>
  jn (fun (j20:An) =>
  dB m x0 (T.i 1) (T.i 8)
  (fun y0=>cond ((!y0.bool)==false)
  (dB m x1 (T.i 1) (T.i 900)
  (fun y1=>cond ((!y1.bool)==false)
  (dB m x2 (T.i 0) (T.i 999)
  (fun y2=>cond ((!y2.bool)==false)
  (cond ((decide ((x4.rows.length:Int) > 1000))==false)
  (dB m x5 (T.i 0) (T.i (x4.rows.length:Int))
  (fun y3=>cond (!y3.bool)
  (k0 (T.b false))
  (j20)))
  (k0 (T.b false)))
  (k0 (T.b false))))
  (k0 (T.b false))))
  (k0 (T.b false))))
  (jU m m (T.i 0) (T.l x4.rows) (T.i (x4.rows.length:Int)) (T.i 0) x0 x1 x2 (T.l x3.rows) (T.l x4.rows) x5
  (fun y9=>k0 y9)
  (fun Ku Kj DX y13 Je O3 K9=>gJ m m (T.i (Ku.int.toNat:Int)) Je (T.i (Je.rows.length:Int)) (T.i 0) Kj DX y13 Je O3 K9
  (fun y19=>k0 y19)
  (k0 (T.b true))))
noncomputable def Ao:Fs:=⟨36,[.agg [AI,AI,AI,.dz tJ [],.dz tC [],AI]],fun m vs k=>ap 6 (yO m) vs (lm 1 fun z=>k (bg ⟨[.one (RB)],[[none,none,none,none,none,none]],[none]⟩ z))⟩
noncomputable def Vi:List Ls:=[⟨[0,1,0,1,1,1],⟨[(1,EP 0),(61,.one (LD tJ)),(62,.one (LI)),(63,.one (LI))],[((KI 0),.box [LI,LI,LI,LD tJ,LD tC,LI]),([4000000],.gone)]⟩,fun m n vs k=>ap 10 (gJ m n) vs (lm 1 fun z=>k .ret (aB ⟨[(2,.one (LB))],[]⟩ z)) (lm 0 fun z=>k (.exit 2) (aB ⟨[],[]⟩ z))⟩,⟨[0,1,0,1,1],⟨[(1,EP 0),(39,.one (LD tC)),(40,.one (LI)),(41,.one (LI))],[((KI 0),.box [LI,LI,LI,LD tJ,LD tC,LI]),([4000000],.gone)]⟩,fun m n vs k=>ap 10 (jU m n) vs (lm 1 fun z=>k .ret (aB ⟨[(2,.one (LB))],[]⟩ z)) (lm 7 fun z=>k (.exit 0) (aB ⟨[(1,EP 0)],[((KI 0),.box [LI,LI,LI,LD tJ,LD tC,LI]),([4000000],.gone)]⟩ z))⟩]
noncomputable def Jt:List Fs:=Ao::Am
theorem Vj:aF CX av Jt/\aW CX av Ao:=dP MB.1 Ao Tryz.f36 ⟨36,1,88,4⟩ Vi (fun _ _=>rfl) (fun _ _ _=>by kernel_rfl) ⟨fun _ _ _=>rfl,fun _ _ _=>rfl,trivial⟩ ⟨fun _ _ _ _ _ _=>by kernel_rfl,fun _ _ _ _ _ _=>by kernel_rfl,trivial⟩ (fun _ _ _ _ _=>by kernel_rfl)
noncomputable def vE:Nat->T->(T->An)->An
 | 0,_,_=>.bad
 | m+1,x0,k0 =>
  dB m x0 (T.i 0) (T.i 7)
  (fun y0=>k0 y0)
noncomputable def Ju:Fs:=⟨80,[.one (AI)],fun m vs k=>ap 1 (vE m) vs (lm 1 fun z=>k (bg ⟨[.one (RB)],[[none]],[none]⟩ z))⟩
noncomputable def QM:List Fs:=Ju::Jt
theorem acg:aF CX av QM/\aW CX av Ju:=dP Vj.1 Ju Tryz.f80 ⟨80,1,5,4⟩ [] (fun _ _=>rfl) (fun _ _ _=>by kernel_rfl) trivial trivial (fun _ _ _ _ _=>by kernel_rfl)
noncomputable def qC:Nat->T->(T->An)->An
 | 0,_,_=>.bad
 | m+1,x0,k0 =>
  dB m x0 (T.i 1) (T.i 1000000)
  (fun y0=>k0 y0)
noncomputable def Jv:Fs:=⟨132,[.one (AI)],fun m vs k=>ap 1 (qC m) vs (lm 1 fun z=>k (bg ⟨[.one (RB)],[[none]],[none]⟩ z))⟩
noncomputable def QN:List Fs:=Jv::QM
theorem ach:aF CX av QN/\aW CX av Jv:=dP acg.1 Jv Tryz.f132 ⟨132,1,5,4⟩ [] (fun _ _=>rfl) (fun _ _ _=>by kernel_rfl) trivial trivial (fun _ _ _ _ _=>by kernel_rfl)
noncomputable def F9:Nat->T->T->T->(T->An)->An
 | 0,_,_,_,_=>.bad
 | m+1,x0,x1,x2,k0 =>
  cond (x0.int==1)
  (qC m x1
  (fun y0=>cond (y0.bool==true)
  (rH m (T.l x2.rows)
  (fun y1=>k0 (T.b y1.bool)))
  (k0 (T.b false))))
  (cond (x0.int==2)
  (qC m x1
  (fun y6=>cond (y6.bool==true)
  (k0 (T.b ((x2.rows.length:Int)==0)))
  (k0 (T.b false))))
  (cond (x0.int==3)
  (qC m x1
  (fun y8=>cond (y8.bool==true)
  (k0 (T.b ((x2.rows.length:Int)==0)))
  (k0 (T.b false))))
  (k0 (T.b false))))
noncomputable def Ga:Fs:=⟨130,[.agg [AI,AI,.dz tO []]],fun m vs k=>ap 3 (F9 m) vs (lm 1 fun z=>k (bg ⟨[.one (RB)],[[none,none,none]],[none]⟩ z))⟩
noncomputable def Oq:List Fs:=Ga::QN
theorem aau:aF CX av Oq/\aW CX av Ga:=dP ach.1 Ga Tryz.f130 ⟨130,1,27,4⟩ [] (fun _ _=>rfl) (fun _ _ _=>by kernel_rfl) trivial trivial (fun _ _ _ _ _=>by kernel_rfl)
noncomputable def mV (m:Nat):Nat->T->T->T->(T->An)->An->An
 | 0,_,_,_,_,_=>.bad
 | n+1,x0,x1,x2,k0,k1 =>
  cond (decide (x2.int>=0))
  (cond (decide ((0:Int)<=x2.int/\x2.int<(x0.rows.length:Int)))
  (cond ((((x0.rows.getD (Int.toNat x2.int) []).drop 1).getD 0 dflt).int==x1.int)
  (k0 x2)
  (mV m n x0 x1 (T.i (IntKind.i64.wrap (x2.int-1))) k0 k1))
  (.bad))
  (k1 )
noncomputable def Ap:Nat->T->T->(T->An)->An
 | 0,_,_,_=>.bad
 | m+1,x0,x1,k0 =>
  mV m m (T.l x0.rows) x1 (T.i (IntKind.i64.wrap ((x0.rows.length:Int)-1)))
  (fun y0=>k0 y0)
  (k0 (T.i (-1)))
noncomputable def Gb:Fs:=⟨173,[.one (.dz tR []),.one (AI)],fun m vs k=>ap 2 (Ap m) vs (lm 1 fun z=>k (bg ⟨[.one (RI)],[[none],[none]],[none,none]⟩ z))⟩
noncomputable def aav:List Ls:=[⟨[0,1,0,1],⟨[(0,.one (LD tR)),(1,.one (LI)),(5,.one (LI))],[([4000000],.gone)]⟩,fun m n vs k=>ap 3 (mV m n) vs (lm 1 fun z=>k .ret (aB ⟨[(4,.one (LI))],[]⟩ z)) (lm 0 fun z=>k (.exit 0) (aB ⟨[],[]⟩ z))⟩]
noncomputable def Ot:List Fs:=Gb::Oq
theorem aaw:aF CX av Ot/\aW CX av Gb:=dP aau.1 Gb Tryz.f173 ⟨173,2,21,16⟩ aav (fun _ _=>rfl) (fun _ _ _=>by kernel_rfl) ⟨fun _ _ _=>rfl,trivial⟩ ⟨fun _ _ _ _ _ _=>by kernel_rfl,trivial⟩ (fun _ _ _ _ _=>by kernel_rfl)
noncomputable def gV (m:Nat):Nat->T->T->T->T->T->T->T->T->T->T->T->T->T->T->(T->An)->(T->T->T->T->T->T->T->An)->An
 | 0,_,_,_,_,_,_,_,_,_,_,_,_,_,_,_,_=>.bad
 | n+1,x0,x1,x2,x3,x4,x5,x6,x7,x8,x9,x10,gy,o9,pU,k0,k1 =>
  cond (decide (x10.int<x9.int))
  (cond (decide ((0:Int)<=x10.int/\x10.int<(x8.rows.length:Int)))
  (cond (((x8.rows.getD (Int.toNat x10.int) []).getD 1 dflt).str.toList==o9.str.toList)
  (k0 (T.b true))
  (gV m n x0 (T.i (x1.int.toNat:Int)) x2 x3 x4 x5 x6 x7 x8 x9 (T.i (IntKind.i64.wrap (x10.int+1))) gy o9 pU k0 k1))
  (.bad))
  (k1 x0 x2 x3 x4 x5 x6 x7)
noncomputable def gW (m:Nat):Nat->T->T->T->T->T->T->T->(T->An)->(T->T->T->T->An)->An
 | 0,_,_,_,_,_,_,_,_,_=>.bad
 | n+1,x0,x1,x2,x3,x4,x5,x6,k0,k1 =>
  cond (decide (x6.int<x5.int))
  (cond (decide ((0:Int)<=x6.int/\x6.int<(x4.rows.length:Int)))
  (gV m n x0 (T.i 0) x1 x2 x3 x4 x5 x6 x0 (T.i (x0.rows.length:Int)) (T.i 0) ((x4.rows.getD (Int.toNat x6.int) []).getD 0 dflt) ((x4.rows.getD (Int.toNat x6.int) []).getD 1 dflt) ((x4.rows.getD (Int.toNat x6.int) []).getD 2 dflt)
  (fun y0=>k0 y0)
  (fun y1 y2 y3 y4 y5 y6 y7=>gW m n y1 y2 y3 y4 y5 y6 (T.i (IntKind.i64.wrap (y7.int+1))) k0 k1))
  (.bad))
  (k1 x0 x1 x2 x3)
noncomputable def gX (m:Nat):Nat->T->T->T->T->(T->An)->An->An
 | 0,_,_,_,_,_,_=>.bad
 | n+1,x0,x1,x2,x3,k0,k1 =>
  cond (decide (x3.int<x2.int))
  (cond (decide ((0:Int)<=x3.int/\x3.int<(x1.rows.length:Int)))
  (gW m n x0 x1 x2 x3 ((x1.rows.getD (Int.toNat x3.int) []).getD 2 dflt) (T.i (((x1.rows.getD (Int.toNat x3.int) []).getD 2 dflt).rows.length:Int)) (T.i 0)
  (fun y8=>k0 y8)
  (fun y9 Ku Kj DX=>gX m n y9 Ku Kj (T.i (IntKind.i64.wrap (DX.int+1))) k0 k1))
  (.bad))
  (k1 )
noncomputable def uh:Nat->T->T->(T->An)->An
 | 0,_,_,_=>.bad
 | m+1,x0,x1,k0 =>
  gX m m (T.l x1.rows) (T.l x0.rows) (T.i (x0.rows.length:Int)) (T.i 0)
  (fun y13=>k0 y13)
  (k0 (T.b false))
noncomputable def vF:Fs:=⟨174,[.one (.dz tR []),.one (.dz tO [])],fun m vs k=>ap 2 (uh m) vs (lm 1 fun z=>k (bg ⟨[.one (RB)],[[none],[none]],[none,none]⟩ z))⟩
noncomputable def PV:List Ls:=[⟨[0,1,1,0,0,1,1,0,0,1,1,0,0,1,1,0,0,1,0,1],⟨[(1,.one (LD tO)),(8,EP 1),(11,.one (LD tR)),(12,.one (LI)),(13,.one (LI)),(18,.one (LD tO)),(19,.one (LI)),(20,.one (LI)),(24,.one (LD tO)),(25,.one (LI)),(26,.one (LI))],[([4000000],.gone),((KI 1),.box [LI,LS,LS])]⟩,fun m n vs k=>ap 14 (gV m n) vs (lm 1 fun z=>k .ret (aB ⟨[(4,.one (LB))],[]⟩ z)) (lm 7 fun z=>k (.exit 4) (aB ⟨[(1,.one (LD tO)),(11,.one (LD tR)),(12,.one (LI)),(13,.one (LI)),(18,.one (LD tO)),(19,.one (LI)),(20,.one (LI))],[([4000000],.gone)]⟩ z))⟩,⟨[0,1,1,0,0,1,1,0,0,1,0,1],⟨[(1,.one (LD tO)),(11,.one (LD tR)),(12,.one (LI)),(13,.one (LI)),(18,.one (LD tO)),(19,.one (LI)),(20,.one (LI))],[([4000000],.gone)]⟩,fun m n vs k=>ap 7 (gW m n) vs (lm 1 fun z=>k .ret (aB ⟨[(4,.one (LB))],[]⟩ z)) (lm 4 fun z=>k (.exit 2) (aB ⟨[(1,.one (LD tO)),(11,.one (LD tR)),(12,.one (LI)),(13,.one (LI))],[([4000000],.gone)]⟩ z))⟩,⟨[0,1,0,1],⟨[(1,.one (LD tO)),(11,.one (LD tR)),(12,.one (LI)),(13,.one (LI))],[([4000000],.gone)]⟩,fun m n vs k=>ap 4 (gX m n) vs (lm 1 fun z=>k .ret (aB ⟨[(4,.one (LB))],[]⟩ z)) (lm 0 fun z=>k (.exit 0) (aB ⟨[],[]⟩ z))⟩]
noncomputable def Ep:List Fs:=vF::Ot
theorem PW:aF CX av Ep/\aW CX av vF:=dP aaw.1 vF Tryz.f174 ⟨174,2,38,16⟩ PV (fun _ _=>rfl) (fun _ _ _=>by kernel_rfl) ⟨fun _ _ _=>rfl,fun _ _ _=>rfl,fun _ _ _=>rfl,trivial⟩ ⟨fun _ _ _ _ _ _=>by kernel_rfl,fun _ _ _ _ _ _=>by kernel_rfl,fun _ _ _ _ _ _=>by kernel_rfl,trivial⟩ (fun _ _ _ _ _=>by kernel_rfl)
noncomputable def Dw:Nat->T->T->T->(T->An)->An
 | 0,_,_,_,_=>.bad
 | m+1,x0,x1,x2,k0 =>
  k0 (T.b (x0.str.toList==((bY x2).getD 0 dflt).str.toList))
noncomputable def xM:Fs:=⟨242,[.agg [AS,AS],.Kw tT []],fun m vs k=>ap 3 (Dw m) vs (lm 1 fun z=>k (bg ⟨[.one (RB)],[[none,none],[]],[none,none]⟩ z))⟩
noncomputable def G8:List Fs:=xM::Ep
theorem RU:aF CX av G8/\aW CX av xM:=dP PW.1 xM Tryz.f242 ⟨242,2,8,8⟩ [] (fun _ _=>rfl) (fun _ _ _=>by kernel_rfl) trivial trivial (fun _ _ _ _ _=>by kernel_rfl)
noncomputable def bD (m:Nat):Nat->T->T->T->T->(T->An)->An->An
 | 0,_,_,_,_,_,_=>.bad
 | n+1,x0,x1,x2,x3,k0,k1 =>
  cond (decide (x3.int<x2.int))
  (cond (decide ((0:Int)<=x3.int/\x3.int<(x0.rows.length:Int)))
  (Dw m ((x0.rows.getD (Int.toNat x3.int) []).getD 0 dflt) ((x0.rows.getD (Int.toNat x3.int) []).getD 1 dflt) (T.l [(bY x1)])
  (fun y0=>cond y0.bool
  (k0 x3)
  (bD m n x0 (T.l [(bY x1)]) x2 (T.i (IntKind.i64.wrap (x3.int+1))) k0 k1)))
  (.bad))
  (k1 )
noncomputable def dV:Nat->T->T->(T->An)->An
 | 0,_,_,_=>.bad
 | m+1,x0,x1,k0 =>
  bD m m (T.l x0.rows) (T.l [(bY x1)]) (T.i (x0.rows.length:Int)) (T.i 0)
  (fun y1=>k0 y1)
  (k0 (T.i (-1)))
noncomputable def dL:Fs:=⟨241,[.one (.dz tP []),.fn 242 [.Kw tT []]],fun m vs k=>ap 2 (dV m) vs (lm 1 fun z=>k (bg ⟨[.one (RI)],[[none],[]],[none,none]⟩ z))⟩
noncomputable def oJ:List Ls:=[⟨[0,1,0,1],⟨[(0,.one (LD tP)),(1,.fn 242 [.rp [([4000000],0)] tT []]),(7,.one (LI)),(8,.one (LI))],[([4000000],.gone)]⟩,fun m n vs k=>ap 4 (bD m n) vs (lm 1 fun z=>k .ret (aB ⟨[(4,.one (LI))],[]⟩ z)) (lm 0 fun z=>k (.exit 0) (aB ⟨[],[]⟩ z))⟩]
noncomputable def iq:List Fs:=dL::G8
theorem oK:aF CX av iq/\aW CX av dL:=dP RU.1 dL Tryz.f241 ⟨241,2,19,16⟩ oJ (fun _ _=>rfl) (fun _ _ _=>by kernel_rfl) ⟨fun _ _ _=>rfl,trivial⟩ ⟨fun _ _ _ _ _ _=>by kernel_rfl,trivial⟩ (fun _ _ _ _ _=>by kernel_rfl)
noncomputable def wN:Nat->T->T->(T->An)->An
 | 0,_,_,_=>.bad
 | m+1,x0,x1,k0 =>
  dV m (T.l x0.rows) (T.l [[x1]])
  (fun y0=>k0 y0)
noncomputable def Dx:Fs:=⟨235,[.one (.dz tP []),.one (AS)],fun m vs k=>ap 2 (wN m) vs (lm 1 fun z=>k (bg ⟨[.one (RI)],[[none],[none]],[none,none]⟩ z))⟩
noncomputable def Li:List Fs:=Dx::iq
theorem Xp:aF CX av Li/\aW CX av Dx:=dP oK.1 Dx Tryz.f235 ⟨235,2,8,16⟩ [] (fun _ _=>rfl) (fun _ _ _=>by kernel_rfl) trivial trivial (fun _ _ _ _ _=>by kernel_rfl)
noncomputable def BZ:Nat->T->T->(T->T->An)->An
 | 0,_,_,_=>.bad
 | m+1,x0,x1,k0 =>
  wN m (T.l x0.rows) x1
  (fun y0=>cond (decide (y0.int<0))
  (k0 (T.s (⟨#[]⟩:ByteArray)) (T.b false))
  (cond (decide ((0:Int)<=y0.int/\y0.int<(x0.rows.length:Int)))
  (k0 (((x0.rows.getD (Int.toNat y0.int) []).drop 1).getD 0 dflt) (T.b true))
  (.bad)))
noncomputable def Dy:Fs:=⟨212,[.one (.dz tP []),.one (AS)],fun m vs k=>ap 2 (BZ m) vs (lm 2 fun z=>k (bg ⟨[.one (RS),.one (RB)],[[none],[none]],[none,none]⟩ z))⟩
noncomputable def Lj:List Fs:=Dy::Li
theorem Xq:aF CX av Lj/\aW CX av Dy:=dP Xp.1 Dy Tryz.f212 ⟨212,2,17,48⟩ [] (fun _ _=>rfl) (fun _ _ _=>by kernel_rfl) trivial trivial (fun _ _ _ _ _=>by kernel_rfl)
noncomputable def kE (m:Nat):Nat->T->T->T->T->(T->An)->An->An
 | 0,_,_,_,_,_,_=>.bad
 | n+1,x0,x1,x2,x3,k0,k1 =>
  cond (decide (x3.int<x2.int))
  (cond (decide ((0:Int)<=x3.int/\x3.int<(x1.rows.length:Int)))
  (cond (((x1.rows.getD (Int.toNat x3.int) []).getD 0 dflt).int != 3)
  (kE m n x0 x1 x2 (T.i (IntKind.i64.wrap (x3.int+1))) k0 k1)
  (BZ m (T.l x0.rows) ((x1.rows.getD (Int.toNat x3.int) []).getD 1 dflt)
  (fun y0 y1=>cond ((!(y1.bool==(!(((x1.rows.getD (Int.toNat x3.int) []).getD 2 dflt).str.toList==(⟨#[]⟩:ByteArray).toList))))==false)
  (cond (!(y0.str.toList==((x1.rows.getD (Int.toNat x3.int) []).getD 2 dflt).str.toList))
  (k0 (T.b false))
  (kE m n x0 x1 x2 (T.i (IntKind.i64.wrap (x3.int+1))) k0 k1))
  (k0 (T.b false)))))
  (.bad))
  (k1 )
noncomputable def Gc:Nat->T->T->(T->An)->An
 | 0,_,_,_=>.bad
 | m+1,x0,x1,k0 =>
  kE m m (T.l x0.rows) (T.l x1.rows) (T.i (x1.rows.length:Int)) (T.i 0)
  (fun y3=>k0 y3)
  (k0 (T.b true))
noncomputable def Gd:Fs:=⟨175,[.one (.dz tP []),.one (.dz tO [])],fun m vs k=>ap 2 (Gc m) vs (lm 1 fun z=>k (bg ⟨[.one (RB)],[[none],[none]],[none,none]⟩ z))⟩
noncomputable def aax:List Ls:=[⟨[0,1,0,1],⟨[(0,.one (LD tP)),(9,.one (LD tO)),(10,.one (LI)),(11,.one (LI))],[([4000000],.gone)]⟩,fun m n vs k=>ap 4 (kE m n) vs (lm 1 fun z=>k .ret (aB ⟨[(4,.one (LB))],[]⟩ z)) (lm 0 fun z=>k (.exit 0) (aB ⟨[],[]⟩ z))⟩]
noncomputable def Ou:List Fs:=Gd::Lj
theorem aay:aF CX av Ou/\aW CX av Gd:=dP Xq.1 Gd Tryz.f175 ⟨175,2,37,16⟩ aax (fun _ _=>rfl) (fun _ _ _=>by kernel_rfl) ⟨fun _ _ _=>rfl,trivial⟩ ⟨fun _ _ _ _ _ _=>by kernel_rfl,trivial⟩ (fun _ _ _ _ _=>by kernel_rfl)
noncomputable def lu (m:Nat):Nat->T->T->T->T->(T->T->T->T->An)->An
 | 0,_,_,_,_,_=>.bad
 | n+1,x0,x1,x2,x3,k0 =>
  cond ((decide (x2.int<(x3.rows.length:Int)))==true)
  (cond (decide ((0:Int)<=x2.int/\x2.int<(x3.rows.length:Int)))
  (cond (decide ((Int.toNat x2.int)<x3.rows.length))
  (cond ((Op.bytesLess ((x3.rows.getD (Int.toNat x2.int) []).getD 0 dflt).str.toList x0.str.toList)||(((x3.rows.getD (Int.toNat x2.int) []).getD 0 dflt).str.toList==x0.str.toList))
  (lu m n x0 x1 (T.i (IntKind.i64.wrap (x2.int+1))) (T.l x3.rows) k0)
  (k0 x0 x1 x2 (T.l x3.rows)))
  (.bad))
  (.bad))
  (k0 x0 x1 x2 (T.l x3.rows))
noncomputable def Ca:Nat->T->T->T->(T->An)->An
 | 0,_,_,_,_=>.bad
 | m+1,x0,x1,x2,k0 =>
  wN m (T.l x0.rows) x1
  (fun y0=>cond (decide (y0.int>=0))
  (cond (decide ((0:Int)<=y0.int/\y0.int<(x0.rows.length:Int)))
  (cond (decide ((Int.toNat y0.int)<x0.rows.length))
  (k0 (T.l (x0.rows.set (Int.toNat y0.int) ((x0.rows.getD (Int.toNat y0.int) []).set 1 x2))))
  (.bad))
  (.bad))
  (lu m m x1 x2 (T.i 0) (T.l x0.rows)
  (fun y2 y3 y4 y5=>fE m (T.l y5.rows) y4 (T.l [[y2,y3]])
  (fun y6=>k0 (T.l y6.rows)))))
noncomputable def Dz:Fs:=⟨214,[.one (.own tP m2 []),.one (AS),.one (AS)],fun m vs k=>ap 3 (Ca m) vs (lm 1 fun z=>k (bg ⟨[.one (.own (KR 0 0) tP m2 [])],[[none],[none],[none]],[none,none,none]⟩ z))⟩
noncomputable def Xr:List Ls:=[⟨[0,0,1,1,1],⟨[(0,.one (LA [0,0] tP)),(1,.one (LS)),(2,.one (LS)),(8,.one (LI))],[([0,0],.row tP m2 [])]⟩,fun m n vs k=>ap 4 (lu m n) vs (lm 4 fun z=>k (.exit 0) (aB ⟨[(0,.one (LA [0,0] tP)),(1,.one (LS)),(2,.one (LS)),(8,.one (LI))],[([0,0],.row tP m2 [])]⟩ z))⟩]
noncomputable def Ll:List Fs:=Dz::Ou
theorem Xt:aF CX av Ll/\aW CX av Dz:=dP aay.1 Dz Tryz.f214 ⟨214,3,42,65⟩ Xr (fun _ _=>rfl) (fun _ _ _=>by kernel_rfl) ⟨fun _ _ _=>rfl,trivial⟩ ⟨fun _ _ _ _ _ _=>by kernel_rfl,trivial⟩ (fun _ _ _ _ _=>by kernel_rfl)
noncomputable def iw (m:Nat):Nat->T->T->T->T->(T->An)->An
 | 0,_,_,_,_,_=>.bad
 | n+1,x0,x1,x2,x3,k0 =>
  cond (decide (x2.int<x1.int))
  (cond (decide ((0:Int)<=x2.int/\x2.int<(x0.rows.length:Int)))
  (cond (((x0.rows.getD (Int.toNat x2.int) []).getD 0 dflt).int==1)
  (Ca m (T.l x3.rows) ((x0.rows.getD (Int.toNat x2.int) []).getD 1 dflt) ((x0.rows.getD (Int.toNat x2.int) []).getD 2 dflt)
  (fun y1=>iw m n x0 x1 (T.i (IntKind.i64.wrap (x2.int+1))) (T.l y1.rows) k0))
  (cond (((x0.rows.getD (Int.toNat x2.int) []).getD 0 dflt).int==2)
  (Bz m (T.l x3.rows) ((x0.rows.getD (Int.toNat x2.int) []).getD 1 dflt)
  (fun y2=>iw m n x0 x1 (T.i (IntKind.i64.wrap (x2.int+1))) (T.l y2.rows) k0))
  (iw m n x0 x1 (T.i (IntKind.i64.wrap (x2.int+1))) (T.l x3.rows) k0)))
  (.bad))
  (k0 (T.l x3.rows))
noncomputable def Gf:Nat->T->T->(T->An)->An
 | 0,_,_,_=>.bad
 | m+1,x0,x1,k0 =>
  dG m (T.l x0.rows)
  (fun y0=>iw m m (T.l x1.rows) (T.i (x1.rows.length:Int)) (T.i 0) (T.l y0.rows)
  (fun y6=>k0 (T.l y6.rows)))
noncomputable def Gg:Fs:=⟨177,[.one (.dz tP []),.one (.dz tO [])],fun m vs k=>ap 2 (Gf m) vs (lm 1 fun z=>k (bg ⟨[.one (.own (KR 0 0) tP m2 [])],[[none],[none]],[none,none]⟩ z))⟩
noncomputable def aaz:List Ls:=[⟨[0,1,0,1,1],⟨[(5,.one (LA (KI 0) tP)),(10,.one (LD tO)),(11,.one (LI)),(12,.one (LI))],[((KI 0),.row tP m2 []),([4000000],.gone)]⟩,fun m n vs k=>ap 4 (iw m n) vs (lm 1 fun z=>k (.exit 0) (aB ⟨[(5,.one (LA (KI 0) tP))],[((KI 0),.row tP m2 [])]⟩ z))⟩]
noncomputable def Ov:List Fs:=Gg::Ll
theorem aaA:aF CX av Ov/\aW CX av Gg:=dP Xt.1 Gg Tryz.f177 ⟨177,2,34,16⟩ aaz (fun _ _=>rfl) (fun _ _ _=>by kernel_rfl) ⟨fun _ _ _=>rfl,trivial⟩ ⟨fun _ _ _ _ _ _=>by kernel_rfl,trivial⟩ (fun _ _ _ _ _=>by kernel_rfl)
noncomputable def qY:Nat->T->T->T->T->T->T->(T->T->T->An)->(T->T->T->T->An)->An
 | 0,_,_,_,_,_,_,_,_=>.bad
 | m+1,x0,x1,x2,x3,x4,x5,k0,k1 =>
  Ap m (T.l x5.rows) x3
  (fun y0=>cond (x2.int==1)
  ((fun (j5:An) =>
  cond ((decide (y0.int>=0))==false)
  (uh m (T.l x1.rows) (T.l x4.rows)
  (fun y1=>cond (y1.bool==false)
  (Gc m (T.l x0.rows) (T.l x4.rows)
  (fun y2=>cond (!y2.bool)
  (k0 (T.b false) (T.l x0.rows) (T.l x1.rows))
  (j5)))
  (k0 (T.b false) (T.l x0.rows) (T.l x1.rows))))
  (k0 (T.b false) (T.l x0.rows) (T.l x1.rows)))
  (eD m (T.l x4.rows)
  (fun y4=>cond (decide ((x1.rows.length+1) * 3<=aS))
  (k0 (T.b true) (T.l x0.rows) (T.l (x1.rows++[[(T.i 1),x3,(T.l y4.rows)]])))
  (.bad))))
  (Ap m (T.l x1.rows) x3
  (fun y6=>cond (decide (y6.int<0))
  (cond ((x2.int==3)==true)
  (k0 (T.b (!(decide (y0.int>=0)))) (T.l x0.rows) (T.l x1.rows))
  (k0 (T.b false) (T.l x0.rows) (T.l x1.rows)))
  (cond (x2.int==2)
  (cond (decide ((0:Int)<=y6.int/\y6.int<(x1.rows.length:Int)))
  (cond (decide ((Int.toNat y6.int)<x1.rows.length))
  (Gf m (T.l x0.rows) (T.l ((x1.rows.getD (Int.toNat y6.int) []).getD 2 dflt).rows)
  (fun y8=>bU m (T.l x1.rows) y6 (T.i (IntKind.i64.wrap (y6.int+1)))
  (fun y9=>k1 (T.b (decide ((y8.rows.length:Int)<=60))) (T.l x0.rows) (T.l y8.rows) (T.l y9.rows))))
  (.bad))
  (.bad))
  (bU m (T.l x1.rows) y6 (T.i (IntKind.i64.wrap (y6.int+1)))
  (fun Ku=>k0 (T.b (decide ((x0.rows.length:Int)<=60))) (T.l x0.rows) (T.l Ku.rows)))))))
noncomputable def uj:Fs:=⟨131,[.bx [.own tP m2 [],.own tR m3 []],.agg [AI,AI,.dz tO []],.one (.dz tR [])],fun m vs k=>ap 6 (qY m) vs (lm 3 fun z=>k (bg ⟨[.one (RB)],[[none,none],[none,none,none],[none]],[some [.own (KR 1000 0) tP m2 [],.own (KR 1000 1) tR m3 []],none,none]⟩ z)) (lm 4 fun z=>k (bg ⟨[.one (RB)],[[some (tP,m2,[]),none],[none,none,none],[none]],[some [.own (KR 1000 0) tP m2 [],.own (KR 1000 1) tR m3 []],none,none]⟩ z))⟩
noncomputable def Cb:List Fs:=uj::Ov
theorem Ow:aF CX av Cb/\aW CX av uj:=dP aaA.1 uj Tryz.f131 ⟨131,3,104,65⟩ [] (fun _ _=>rfl) (fun _ _ _=>by kernel_rfl) trivial trivial (fun _ _ _ _ _=>by kernel_rfl)
noncomputable def eP (m:Nat):Nat->T->T->T->T->T->T->T->(T->T->T->An)->(T->T->T->An)->An
 | 0,_,_,_,_,_,_,_,_,_=>.bad
 | n+1,x0,x1,x2,x3,x4,x5,x6,k0,k1 =>
  cond (decide (x4.int<x3.int))
  ((fun (j15:T->T->An) =>
  cond (decide ((0:Int)<=x4.int/\x4.int<(x2.rows.length:Int)))
  (F9 m ((x2.rows.getD (Int.toNat x4.int) []).getD 0 dflt) ((x2.rows.getD (Int.toNat x4.int) []).getD 1 dflt) (T.l ((x2.rows.getD (Int.toNat x4.int) []).getD 2 dflt).rows)
  (fun y0=>cond ((!y0.bool)==false)
  (cond (decide ((0:Int)<=x4.int/\x4.int<=(x0.rows.length:Int)))
  (cond (decide ((0:Int)<=0/\0<=x4.int))
  (qY m (T.l x5.rows) (T.l x6.rows) ((x2.rows.getD (Int.toNat x4.int) []).getD 0 dflt) ((x2.rows.getD (Int.toNat x4.int) []).getD 1 dflt) (T.l ((x2.rows.getD (Int.toNat x4.int) []).getD 2 dflt).rows) (T.l (x0.rows.take (Int.toNat x4.int)))
  (fun y1 y2 y3=>cond (!y1.bool)
  (k0 (T.b false) (T.l []) (T.l []))
  (j15 (T.l y2.rows) (T.l y3.rows)))
  (fun y4 y5 y6 y7=>cond (!y4.bool)
  (k0 (T.b false) (T.l []) (T.l []))
  (j15 (T.l y6.rows) (T.l y7.rows))))
  (.bad))
  (.bad))
  (k0 (T.b false) (T.l []) (T.l []))))
  (.bad))
  (fun y13 Je=>eP m n x0 (T.i (x1.int.toNat:Int)) x2 x3 (T.i (IntKind.i64.wrap (x4.int+1))) (T.l y13.rows) (T.l Je.rows) k0 k1))
  (k1 (T.i (x1.int.toNat:Int)) (T.l x5.rows) (T.l x6.rows))
noncomputable def qZ:Nat->T->(T->T->T->An)->An
 | 0,_,_=>.bad
 | m+1,x0,k0 =>
  eP m m (T.l x0.rows) (T.i 0) (T.l x0.rows) (T.i (x0.rows.length:Int)) (T.i 0) (T.l []) (T.l [])
  (fun K9 MN Hy=>k0 (T.l MN.rows) (T.l Hy.rows) K9)
  (fun y19 y20 y21=>k0 (T.l y20.rows) (T.l y21.rows) (T.b true))
noncomputable def um:Fs:=⟨81,[.one (.dz tR [])],fun m vs k=>ap 1 (qZ m) vs (lm 3 fun z=>k (bg ⟨[.one (.own (KR 0 0) tP m2 []),.one (.own (KR 1 0) tR m3 []),.one (RB)],[[none]],[none]⟩ z))⟩
noncomputable def Ox:List Ls:=[⟨[0,1,0,1,1],⟨[(0,.one (LD tR)),(5,EP 1),(8,.one (LD tR)),(9,.one (LI)),(10,.one (LI))],[([4000000],.gone),((KI 1),.box [LA (KI 2) tP,LA (KI 3) tR]),((KI 2),.row tP m2 []),((KI 3),.row tR m3 [])]⟩,fun m n vs k=>ap 7 (eP m n) vs (lm 3 fun z=>k .ret (aB ⟨[(2,.one (LA (KI 0) tP)),(3,.one (LA (KI 1) tR)),(4,.one (LB))],[((KI 0),.row tP m2 []),((KI 1),.row tR m3 [])]⟩ z)) (lm 3 fun z=>k (.exit 0) (aB ⟨[(5,EP 0)],[((KI 0),.box [LA (KI 1) tP,LA (KI 2) tR]),((KI 1),.row tP m2 []),((KI 2),.row tR m3 [])]⟩ z))⟩]
noncomputable def Cc:List Fs:=um::Cb
theorem Oy:aF CX av Cc/\aW CX av um:=dP Ow.1 um Tryz.f81 ⟨81,1,31,28⟩ Ox (fun _ _=>rfl) (fun _ _ _=>by kernel_rfl) ⟨fun _ _ _=>rfl,trivial⟩ ⟨fun _ _ _ _ _ _=>by kernel_rfl,trivial⟩ (fun _ _ _ _ _=>by kernel_rfl)
noncomputable def bH (m:Nat):Nat->T->T->T->T->(T->An)->An->An
 | 0,_,_,_,_,_,_=>.bad
 | n+1,x0,x1,x2,x3,k0,k1 =>
  cond (decide (x3.int<x2.int))
  (cond (decide ((0:Int)<=x3.int/\x3.int<(x0.rows.length:Int)))
  (cond (decide ((0:Int)<=x3.int/\x3.int<(x1.rows.length:Int)))
  (cond (!((((x0.rows.getD (Int.toNat x3.int) []).getD 0 dflt).str.toList==((x1.rows.getD (Int.toNat x3.int) []).getD 0 dflt).str.toList)&&((((x0.rows.getD (Int.toNat x3.int) []).getD 1 dflt).str.toList==((x1.rows.getD (Int.toNat x3.int) []).getD 1 dflt).str.toList)&&true)))
  (k0 (T.b false))
  (bH m n x0 x1 x2 (T.i (IntKind.i64.wrap (x3.int+1))) k0 k1))
  (.bad))
  (.bad))
  (k1 )
noncomputable def dH:Nat->T->T->(T->An)->An
 | 0,_,_,_=>.bad
 | m+1,x0,x1,k0 =>
  cond ((x0.rows.length:Int) != (x1.rows.length:Int))
  (k0 (T.b false))
  (bH m m (T.l x0.rows) (T.l x1.rows) (T.i (x0.rows.length:Int)) (T.i 0)
  (fun y0=>k0 y0)
  (k0 (T.b true)))
noncomputable def fA:Fs:=⟨82,[.one (.dz tP []),.one (.dz tP [])],fun m vs k=>ap 2 (dH m) vs (lm 1 fun z=>k (bg ⟨[.one (RB)],[[none],[none]],[none,none]⟩ z))⟩
noncomputable def qD:List Ls:=[⟨[0,1,0,1,1],⟨[(0,.one (LD tP)),(1,.one (LD tP)),(12,.one (LI)),(13,.one (LI))],[([4000000],.gone)]⟩,fun m n vs k=>ap 4 (bH m n) vs (lm 1 fun z=>k .ret (aB ⟨[(4,.one (LB))],[]⟩ z)) (lm 0 fun z=>k (.exit 0) (aB ⟨[],[]⟩ z))⟩]
noncomputable def jV:List Fs:=fA::Cc
theorem qE:aF CX av jV/\aW CX av fA:=dP Oy.1 fA Tryz.f82 ⟨82,2,26,16⟩ qD (fun _ _=>rfl) (fun _ _ _=>by kernel_rfl) ⟨fun _ _ _=>rfl,trivial⟩ ⟨fun _ _ _ _ _ _=>by kernel_rfl,trivial⟩ (fun _ _ _ _ _=>by kernel_rfl)
noncomputable def bN (m:Nat):Nat->T->T->T->T->(T->An)->An->An
 | 0,_,_,_,_,_,_=>.bad
 | n+1,x0,x1,x2,x3,k0,k1 =>
  cond (decide (x3.int<x2.int))
  (cond (decide ((0:Int)<=x3.int/\x3.int<(x0.rows.length:Int)))
  (cond (decide ((0:Int)<=x3.int/\x3.int<(x1.rows.length:Int)))
  (cond (!((((x0.rows.getD (Int.toNat x3.int) []).getD 0 dflt).int==((x1.rows.getD (Int.toNat x3.int) []).getD 0 dflt).int)&&((((x0.rows.getD (Int.toNat x3.int) []).getD 1 dflt).str.toList==((x1.rows.getD (Int.toNat x3.int) []).getD 1 dflt).str.toList)&&((((x0.rows.getD (Int.toNat x3.int) []).getD 2 dflt).str.toList==((x1.rows.getD (Int.toNat x3.int) []).getD 2 dflt).str.toList)&&true))))
  (k0 (T.b false))
  (bN m n x0 x1 x2 (T.i (IntKind.i64.wrap (x3.int+1))) k0 k1))
  (.bad))
  (.bad))
  (k1 )
noncomputable def bR:Nat->T->T->(T->An)->An
 | 0,_,_,_=>.bad
 | m+1,x0,x1,k0 =>
  cond ((x0.rows.length:Int) != (x1.rows.length:Int))
  (k0 (T.b false))
  (bN m m (T.l x0.rows) (T.l x1.rows) (T.i (x0.rows.length:Int)) (T.i 0)
  (fun y0=>k0 y0)
  (k0 (T.b true)))
noncomputable def gB:Fs:=⟨42,[.one (.dz tO []),.one (.dz tO [])],fun m vs k=>ap 2 (bR m) vs (lm 1 fun z=>k (bg ⟨[.one (RB)],[[none],[none]],[none,none]⟩ z))⟩
noncomputable def sM:List Ls:=[⟨[0,1,0,1,1],⟨[(0,.one (LD tO)),(1,.one (LD tO)),(12,.one (LI)),(13,.one (LI))],[([4000000],.gone)]⟩,fun m n vs k=>ap 4 (bN m n) vs (lm 1 fun z=>k .ret (aB ⟨[(4,.one (LB))],[]⟩ z)) (lm 0 fun z=>k (.exit 0) (aB ⟨[],[]⟩ z))⟩]
noncomputable def mE:List Fs:=gB::jV
theorem sN:aF CX av mE/\aW CX av gB:=dP qE.1 gB Tryz.f42 ⟨42,2,26,16⟩ sM (fun _ _=>rfl) (fun _ _ _=>by kernel_rfl) ⟨fun _ _ _=>rfl,trivial⟩ ⟨fun _ _ _ _ _ _=>by kernel_rfl,trivial⟩ (fun _ _ _ _ _=>by kernel_rfl)
noncomputable def yP:Nat->T->T->T->T->T->T->(T->An)->An
 | 0,_,_,_,_,_,_,_=>.bad
 | m+1,x0,x1,x2,x3,x4,x5,k0 =>
  cond ((x0.int==x3.int)==true)
  (cond ((x1.int==x4.int)==true)
  (bR m (T.l x2.rows) (T.l x5.rows)
  (fun y0=>k0 (T.b y0.bool)))
  (k0 (T.b false)))
  (k0 (T.b false))
noncomputable def Aq:Fs:=⟨84,[.agg [AI,AI,.dz tO []],.agg [AI,AI,.dz tO []]],fun m vs k=>ap 6 (yP m) vs (lm 1 fun z=>k (bg ⟨[.one (RB)],[[none,none,none],[none,none,none]],[none,none]⟩ z))⟩
noncomputable def Jw:List Fs:=Aq::mE
theorem Vk:aF CX av Jw/\aW CX av Aq:=dP sN.1 Aq Tryz.f84 ⟨84,2,24,16⟩ [] (fun _ _=>rfl) (fun _ _ _=>by kernel_rfl) trivial trivial (fun _ _ _ _ _=>by kernel_rfl)
noncomputable def aL (m:Nat):Nat->T->T->T->T->(T->An)->An->An
 | 0,_,_,_,_,_,_=>.bad
 | n+1,x0,x1,x2,x3,k0,k1 =>
  cond (decide (x3.int<x2.int))
  (cond (decide ((0:Int)<=x3.int/\x3.int<(x1.rows.length:Int)))
  (cond (decide ((0:Int)<=x3.int/\x3.int<(x0.rows.length:Int)))
  (yP m ((x1.rows.getD (Int.toNat x3.int) []).getD 0 dflt) ((x1.rows.getD (Int.toNat x3.int) []).getD 1 dflt) (T.l ((x1.rows.getD (Int.toNat x3.int) []).getD 2 dflt).rows) ((x0.rows.getD (Int.toNat x3.int) []).getD 0 dflt) ((x0.rows.getD (Int.toNat x3.int) []).getD 1 dflt) (T.l ((x0.rows.getD (Int.toNat x3.int) []).getD 2 dflt).rows)
  (fun y0=>cond (!y0.bool)
  (k0 (T.b false))
  (aL m n x0 x1 x2 (T.i (IntKind.i64.wrap (x3.int+1))) k0 k1)))
  (.bad))
  (.bad))
  (k1 )
noncomputable def bG:Nat->T->T->(T->An)->An
 | 0,_,_,_=>.bad
 | m+1,x0,x1,k0 =>
  cond ((x0.rows.length:Int) != (x1.rows.length:Int))
  (k0 (T.b false))
  (aL m m (T.l x1.rows) (T.l x0.rows) (T.i (x0.rows.length:Int)) (T.i 0)
  (fun y1=>k0 y1)
  (k0 (T.b true)))
noncomputable def bP:Fs:=⟨83,[.one (.dz tR []),.one (.dz tR []),.fn 84 []],fun m vs k=>ap 2 (bG m) vs (lm 1 fun z=>k (bg ⟨[.one (RB)],[[none],[none],[]],[none,none,none]⟩ z))⟩
noncomputable def iJ:List Ls:=[⟨[0,1,0,1,1],⟨[(1,.one (LD tR)),(2,.fn 84 []),(15,.one (LD tR)),(16,.one (LI)),(17,.one (LI))],[([4000000],.gone)]⟩,fun m n vs k=>ap 4 (aL m n) vs (lm 1 fun z=>k .ret (aB ⟨[(6,.one (LB))],[]⟩ z)) (lm 0 fun z=>k (.exit 0) (aB ⟨[],[]⟩ z))⟩]
noncomputable def dA:List Fs:=bP::Jw
theorem iK:aF CX av dA/\aW CX av bP:=dP Vk.1 bP Tryz.f83 ⟨83,3,32,64⟩ iJ (fun _ _=>rfl) (fun _ _ _=>by kernel_rfl) ⟨fun _ _ _=>rfl,trivial⟩ ⟨fun _ _ _ _ _ _=>by kernel_rfl,trivial⟩ (fun _ _ _ _ _=>by kernel_rfl)
noncomputable def yQ:Nat->T->T->T->T->T->(T->An)->An
 | 0,_,_,_,_,_,_=>.bad
 | m+1,x0,x1,x2,x3,x4,k0 =>
  jn (fun (j9:An) =>
  vE m x0
  (fun y0=>cond ((!y0.bool)==false)
  (dB m x2 (T.i 0) (T.i (x1.rows.length:Int))
  (fun y1=>cond ((!y1.bool)==false)
  (cond (decide ((IntKind.i64.wrap ((x1.rows.length:Int)+(x4.rows.length:Int))) > 300))
  (k0 (T.b false))
  (j9))
  (k0 (T.b false))))
  (k0 (T.b false))))
  (qZ m (T.l x1.rows)
  (fun y3 y4 y5=>cond (y5.bool==true)
  (dH m (T.l y3.rows) (T.l x3.rows)
  (fun y6=>cond (y6.bool==true)
  (bG m (T.l y4.rows) (T.l x4.rows)
  (fun y7=>k0 (T.b y7.bool)))
  (k0 (T.b false))))
  (k0 (T.b false))))
noncomputable def Au:Fs:=⟨37,[.agg [AI,.dz tR [],AI,.dz tP [],.dz tR []]],fun m vs k=>ap 5 (yQ m) vs (lm 1 fun z=>k (bg ⟨[.one (RB)],[[none,none,none,none,none]],[none]⟩ z))⟩
noncomputable def Jy:List Fs:=Au::dA
theorem Vl:aF CX av Jy/\aW CX av Au:=dP iK.1 Au Tryz.f37 ⟨37,1,49,4⟩ [] (fun _ _=>rfl) (fun _ _ _=>by kernel_rfl) trivial trivial (fun _ _ _ _ _=>by kernel_rfl)
noncomputable def Ce:Nat->T->T->T->T->T->(T->An)->An
 | 0,_,_,_,_,_,_=>.bad
 | m+1,x0,x1,x2,x3,x4,k0 =>
  jn (fun (j8:An) =>
  vE m x1
  (fun y0=>cond ((!y0.bool)==false)
  (qC m x2
  (fun y1=>cond (!y1.bool)
  (k0 (T.b false))
  (j8)))
  (k0 (T.b false))))
  (cond (x0.int==1)
  (rH m (T.l x3.rows)
  (fun y3=>cond (y3.bool==true)
  (k0 (T.b (!x4.bool)))
  (k0 (T.b false))))
  ((fun (j7:T->An) =>
  cond (x0.int==2)
  (j7 (T.b true))
  (j7 (T.b (x0.int==3))))
  (fun y5=>cond y5.bool
  (k0 (T.b ((x3.rows.length:Int)==0)))
  (cond (x0.int==4)
  (cond (((x3.rows.length:Int)==0)==true)
  (k0 (T.b (!x4.bool)))
  (k0 (T.b false)))
  (k0 (T.b false))))))
noncomputable def DC:Fs:=⟨85,[.agg [AI,AI,AI,.dz tO [],AB]],fun m vs k=>ap 5 (Ce m) vs (lm 1 fun z=>k (bg ⟨[.one (RB)],[[none,none,none,none,none]],[none]⟩ z))⟩
noncomputable def Lm:List Fs:=DC::Jy
theorem Xu:aF CX av Lm/\aW CX av DC:=dP Vl.1 DC Tryz.f85 ⟨85,1,43,4⟩ [] (fun _ _=>rfl) (fun _ _ _=>by kernel_rfl) trivial trivial (fun _ _ _ _ _=>by kernel_rfl)
noncomputable def dY (m:Nat):Nat->T->T->T->T->T->(T->An)->(T->An)->An
 | 0,_,_,_,_,_,_,_=>.bad
 | n+1,x0,x1,x2,x3,x4,k0,k1 =>
  cond (decide (x4.int<x3.int))
  (cond (decide ((0:Int)<=x4.int/\x4.int<(x2.rows.length:Int)))
  (Ce m ((x2.rows.getD (Int.toNat x4.int) []).getD 0 dflt) ((x2.rows.getD (Int.toNat x4.int) []).getD 1 dflt) ((x2.rows.getD (Int.toNat x4.int) []).getD 2 dflt) (T.l ((x2.rows.getD (Int.toNat x4.int) []).getD 3 dflt).rows) ((x2.rows.getD (Int.toNat x4.int) []).getD 4 dflt)
  (fun y0=>cond ((!y0.bool)==false)
  (cond (decide (((x2.rows.getD (Int.toNat x4.int) []).getD 1 dflt).int>=((((bY x0).drop 6).getD 0 dflt).rows.length:Int)))
  (k0 (T.b false))
  (dY m n (T.l [(bY x0)]) x1 x2 x3 (T.i (IntKind.i64.wrap (x4.int+1))) k0 k1))
  (k0 (T.b false))))
  (.bad))
  (k1 x1)
noncomputable def lU:Nat->T->T->(T->An)->An
 | 0,_,_,_=>.bad
 | m+1,x0,x1,k0 =>
  dY m m (T.l [(bY x0)]) (T.l x1.rows) (T.l x1.rows) (T.i (x1.rows.length:Int)) (T.i 0)
  (fun y4=>k0 y4)
  (fun y5=>k0 (T.b (decide ((y5.rows.length:Int)<=400))))
noncomputable def pV:Fs:=⟨38,[.Kw [.sc (.int .i64),.sc (.int .i64),.sc (.int .i64),.sl tJ,.sl tC,.sc (.int .i64),.sl tS,.sl tW,.sl tW,.sl tB] [],.one (.dz tW [])],fun m vs k=>ap 2 (lU m) vs (lm 1 fun z=>k (bg ⟨[.one (RB)],[[],[none]],[none,none]⟩ z))⟩
noncomputable def Jz:List Ls:=[⟨[0,1,0,1],⟨[(0,.rp [([4000000],0)] [.sc (.int .i64),.sc (.int .i64),.sc (.int .i64),.sl tJ,.sl tC,.sc (.int .i64),.sl tS,.sl tW,.sl tW,.sl tB] []),(1,.one (LD tW)),(7,.one (LD tW)),(8,.one (LI)),(9,.one (LI))],[([4000000],.gone)]⟩,fun m n vs k=>ap 5 (dY m n) vs (lm 1 fun z=>k .ret (aB ⟨[(4,.one (LB))],[]⟩ z)) (lm 1 fun z=>k (.exit 0) (aB ⟨[(1,.one (LD tW))],[([4000000],.gone)]⟩ z))⟩]
noncomputable def wO:List Fs:=pV::Lm
theorem JA:aF CX av wO/\aW CX av pV:=dP Xu.1 pV Tryz.f38 ⟨38,2,30,16⟩ Jz (fun _ _=>rfl) (fun _ _ _=>by kernel_rfl) ⟨fun _ _ _=>rfl,trivial⟩ ⟨fun _ _ _ _ _ _=>by kernel_rfl,trivial⟩ (fun _ _ _ _ _=>by kernel_rfl)
noncomputable def pW:Nat->T->T->T->(T->An)->An
 | 0,_,_,_,_=>.bad
 | m+1,x0,x1,x2,k0 =>
  k0 (T.b (x0.int==((bY x2).getD 0 dflt).int))
noncomputable def ou:Fs:=⟨88,[.agg [AI,.dz tO []],.Kw tI []],fun m vs k=>ap 3 (pW m) vs (lm 1 fun z=>k (bg ⟨[.one (RB)],[[none,none],[]],[none,none]⟩ z))⟩
noncomputable def uo:List Fs:=ou::wO
theorem Gi:aF CX av uo/\aW CX av ou:=dP JA.1 ou Tryz.f88 ⟨88,2,8,8⟩ [] (fun _ _=>rfl) (fun _ _ _=>by kernel_rfl) trivial trivial (fun _ _ _ _ _=>by kernel_rfl)
noncomputable def bq (m:Nat):Nat->T->T->T->T->(T->An)->An->An
 | 0,_,_,_,_,_,_=>.bad
 | n+1,x0,x1,x2,x3,k0,k1 =>
  cond (decide (x3.int<x2.int))
  (cond (decide ((0:Int)<=x3.int/\x3.int<(x0.rows.length:Int)))
  (pW m ((x0.rows.getD (Int.toNat x3.int) []).getD 0 dflt) (T.l ((x0.rows.getD (Int.toNat x3.int) []).getD 1 dflt).rows) (T.l [(bY x1)])
  (fun y0=>cond y0.bool
  (k0 x3)
  (bq m n x0 (T.l [(bY x1)]) x2 (T.i (IntKind.i64.wrap (x3.int+1))) k0 k1)))
  (.bad))
  (k1 )
noncomputable def dM:Nat->T->T->(T->An)->An
 | 0,_,_,_=>.bad
 | m+1,x0,x1,k0 =>
  bq m m (T.l x0.rows) (T.l [(bY x1)]) (T.i (x0.rows.length:Int)) (T.i 0)
  (fun y1=>k0 y1)
  (k0 (T.i (-1)))
noncomputable def dJ:Fs:=⟨87,[.one (.dz tB []),.fn 88 [.Kw tI []]],fun m vs k=>ap 2 (dM m) vs (lm 1 fun z=>k (bg ⟨[.one (RI)],[[none],[]],[none,none]⟩ z))⟩
noncomputable def nV:List Ls:=[⟨[0,1,0,1],⟨[(0,.one (LD tB)),(1,.fn 88 [.rp [([4000000],0)] tI []]),(7,.one (LI)),(8,.one (LI))],[([4000000],.gone)]⟩,fun m n vs k=>ap 4 (bq m n) vs (lm 1 fun z=>k .ret (aB ⟨[(4,.one (LI))],[]⟩ z)) (lm 0 fun z=>k (.exit 0) (aB ⟨[],[]⟩ z))⟩]
noncomputable def gF:List Fs:=dJ::uo
theorem nW:aF CX av gF/\aW CX av dJ:=dP Gi.1 dJ Tryz.f87 ⟨87,2,19,16⟩ nV (fun _ _=>rfl) (fun _ _ _=>by kernel_rfl) ⟨fun _ _ _=>rfl,trivial⟩ ⟨fun _ _ _ _ _ _=>by kernel_rfl,trivial⟩ (fun _ _ _ _ _=>by kernel_rfl)
noncomputable def eT:Nat->T->T->(T->An)->An
 | 0,_,_,_=>.bad
 | m+1,x0,x1,k0 =>
  dM m (T.l (((bY x0).drop 9).getD 0 dflt).rows) (T.l [[x1]])
  (fun y0=>k0 y0)
noncomputable def pX:Fs:=⟨41,[.Kw [.sc (.int .i64),.sc (.int .i64),.sc (.int .i64),.sl tJ,.sl tC,.sc (.int .i64),.sl tS,.sl tW,.sl tW,.sl tB] [],.one (AI)],fun m vs k=>ap 2 (eT m) vs (lm 1 fun z=>k (bg ⟨[.one (RI)],[[],[none]],[none,none]⟩ z))⟩
noncomputable def wP:List Fs:=pX::gF
theorem JB:aF CX av wP/\aW CX av pX:=dP nW.1 pX Tryz.f41 ⟨41,2,11,16⟩ [] (fun _ _=>rfl) (fun _ _ _=>by kernel_rfl) trivial trivial (fun _ _ _ _ _=>by kernel_rfl)
noncomputable def dZ (m:Nat):Nat->T->T->T->T->(T->An)->(T->An)->An
 | 0,_,_,_,_,_,_=>.bad
 | n+1,x0,x1,x2,x3,k0,k1 =>
  cond (decide (x3.int<x2.int))
  (cond (decide ((0:Int)<=x3.int/\x3.int<(x1.rows.length:Int)))
  (eT m (T.l [((bY x0).take 10)]) ((x1.rows.getD (Int.toNat x3.int) []).getD 0 dflt)
  (fun DX=>cond ((decide (DX.int<0))==false)
  (cond (decide ((0:Int)<=DX.int/\DX.int<((((bY x0).drop 9).getD 0 dflt).rows.length:Int)))
  (bR m (T.l ((((((bY x0).drop 9).getD 0 dflt).rows.getD (Int.toNat DX.int) []).drop 1).getD 0 dflt).rows) (T.l ((x1.rows.getD (Int.toNat x3.int) []).getD 1 dflt).rows)
  (fun y13=>cond (!y13.bool)
  (k0 (T.b false))
  (dZ m n (T.l [(bY x0)]) x1 x2 (T.i (IntKind.i64.wrap (x3.int+1))) k0 k1)))
  (.bad))
  (k0 (T.b false))))
  (.bad))
  (k1 (T.l [(bY x0)]))
noncomputable def d9 (m:Nat):Nat->T->T->T->T->(T->An)->(T->An)->An
 | 0,_,_,_,_,_,_=>.bad
 | n+1,x0,x1,x2,x3,k0,k1 =>
  cond (decide (x3.int<x2.int))
  (cond (decide ((0:Int)<=x3.int/\x3.int<(x1.rows.length:Int)))
  (eT m (T.l [((bY x0).take 10)]) ((x1.rows.getD (Int.toNat x3.int) []).getD 0 dflt)
  (fun y9=>cond (decide (y9.int<0))
  (k0 (T.b false))
  (d9 m n (T.l [(bY x0)]) x1 x2 (T.i (IntKind.i64.wrap (x3.int+1))) k0 k1)))
  (.bad))
  (k1 (T.l [(bY x0)]))
noncomputable def eu (m:Nat):Nat->T->T->T->T->(T->An)->(T->An)->An
 | 0,_,_,_,_,_,_=>.bad
 | n+1,x0,x1,x2,x3,k0,k1 =>
  cond (decide (x3.int<x2.int))
  (cond (decide ((0:Int)<=x3.int/\x3.int<(x1.rows.length:Int)))
  (rH m (T.l ((x1.rows.getD (Int.toNat x3.int) []).getD 1 dflt).rows)
  (fun y0=>cond ((!y0.bool)==false)
  (jT m (T.l [((bY x0).take 6)])
  (fun y1=>dB m ((x1.rows.getD (Int.toNat x3.int) []).getD 0 dflt) (T.i 1000) (T.i (IntKind.i64.wrap (y1.int-1)))
  (fun y2=>cond ((!y2.bool)==false)
  (eT m (T.l [((bY x0).take 10)]) ((x1.rows.getD (Int.toNat x3.int) []).getD 0 dflt)
  (fun y3=>cond (y3.int != x3.int)
  (k0 (T.b false))
  (eu m n (T.l [(bY x0)]) x1 x2 (T.i (IntKind.i64.wrap (x3.int+1))) k0 k1)))
  (k0 (T.b false)))))
  (k0 (T.b false))))
  (.bad))
  (k1 (T.l [(bY x0)]))
noncomputable def ow:Nat->T->(T->An)->An
 | 0,_,_=>.bad
 | m+1,x0,k0 =>
  eu m m (T.l [(bY x0)]) (((bY x0).drop 9).getD 0 dflt) (T.i ((((bY x0).drop 9).getD 0 dflt).rows.length:Int)) (T.i 0)
  (fun y7=>k0 y7)
  (fun y8=>d9 m m (T.l [(bY y8)]) (((bY y8).drop 4).getD 0 dflt) (T.i ((((bY y8).drop 4).getD 0 dflt).rows.length:Int)) (T.i 0)
  (fun Ku=>k0 Ku)
  (fun Kj=>dZ m m (T.l [(bY Kj)]) (((bY Kj).drop 3).getD 0 dflt) (T.i ((((bY Kj).drop 3).getD 0 dflt).rows.length:Int)) (T.i 0)
  (fun MN=>k0 MN)
  (fun Hy=>k0 (T.b (decide (((((bY Hy).drop 9).getD 0 dflt).rows.length:Int)<=1000))))))
noncomputable def pY:Fs:=⟨39,[.Kw [.sc (.int .i64),.sc (.int .i64),.sc (.int .i64),.sl tJ,.sl tC,.sc (.int .i64),.sl tS,.sl tW,.sl tW,.sl tB] []],fun m vs k=>ap 1 (ow m) vs (lm 1 fun z=>k (bg ⟨[.one (RB)],[[]],[none]⟩ z))⟩
noncomputable def JC:List Ls:=[⟨[0,1,0,1,1,1],⟨[(0,.rp [([4000000],0)] [.sc (.int .i64),.sc (.int .i64),.sc (.int .i64),.sl tJ,.sl tC,.sc (.int .i64),.sl tS,.sl tW,.sl tW,.sl tB] []),(64,.one (LD tJ)),(65,.one (LI)),(66,.one (LI))],[([4000000],.gone)]⟩,fun m n vs k=>ap 4 (dZ m n) vs (lm 1 fun z=>k .ret (aB ⟨[(2,.one (LB))],[]⟩ z)) (lm 1 fun z=>k (.exit 4) (aB ⟨[(0,.rp [([4000000],0)] [.sc (.int .i64),.sc (.int .i64),.sc (.int .i64),.sl tJ,.sl tC,.sc (.int .i64),.sl tS,.sl tW,.sl tW,.sl tB] [])],[([4000000],.gone)]⟩ z))⟩,⟨[0,1,0,1,1],⟨[(0,.rp [([4000000],0)] [.sc (.int .i64),.sc (.int .i64),.sc (.int .i64),.sl tJ,.sl tC,.sc (.int .i64),.sl tS,.sl tW,.sl tW,.sl tB] []),(48,.one (LD tC)),(49,.one (LI)),(50,.one (LI))],[([4000000],.gone)]⟩,fun m n vs k=>ap 4 (d9 m n) vs (lm 1 fun z=>k .ret (aB ⟨[(2,.one (LB))],[]⟩ z)) (lm 1 fun z=>k (.exit 2) (aB ⟨[(0,.rp [([4000000],0)] [.sc (.int .i64),.sc (.int .i64),.sc (.int .i64),.sl tJ,.sl tC,.sc (.int .i64),.sl tS,.sl tW,.sl tW,.sl tB] [])],[([4000000],.gone)]⟩ z))⟩,⟨[0,1,0,1],⟨[(0,.rp [([4000000],0)] [.sc (.int .i64),.sc (.int .i64),.sc (.int .i64),.sl tJ,.sl tC,.sc (.int .i64),.sl tS,.sl tW,.sl tW,.sl tB] []),(13,.one (LD tB)),(14,.one (LI)),(15,.one (LI))],[([4000000],.gone)]⟩,fun m n vs k=>ap 4 (eu m n) vs (lm 1 fun z=>k .ret (aB ⟨[(2,.one (LB))],[]⟩ z)) (lm 1 fun z=>k (.exit 0) (aB ⟨[(0,.rp [([4000000],0)] [.sc (.int .i64),.sc (.int .i64),.sc (.int .i64),.sl tJ,.sl tC,.sc (.int .i64),.sl tS,.sl tW,.sl tW,.sl tB] [])],[([4000000],.gone)]⟩ z))⟩]
noncomputable def wQ:List Fs:=pY::wP
theorem JD:aF CX av wQ/\aW CX av pY:=dP JB.1 pY Tryz.f39 ⟨39,1,97,4⟩ JC (fun _ _=>rfl) (fun _ _ _=>by kernel_rfl) ⟨fun _ _ _=>rfl,fun _ _ _=>rfl,fun _ _ _=>rfl,trivial⟩ ⟨fun _ _ _ _ _ _=>by kernel_rfl,fun _ _ _ _ _ _=>by kernel_rfl,fun _ _ _ _ _ _=>by kernel_rfl,trivial⟩ (fun _ _ _ _ _=>by kernel_rfl)
noncomputable def jW (m:Nat):Nat->T->T->T->T->T->T->T->T->T->T->T->T->T->T->(T->An)->(T->T->T->T->T->T->T->T->T->T->T->An)->An
 | 0,_,_,_,_,_,_,_,_,_,_,_,_,_,_,_,_=>.bad
 | n+1,x0,x1,x2,x3,x4,x5,x6,x7,x8,x9,x10,gy,o9,pU,k0,k1 =>
  cond (decide (x3.int<x2.int))
  ((fun (j4:An) =>
  cond (decide ((0:Int)<=x3.int/\x3.int<(x1.rows.length:Int)))
  (cond ((((x1.rows.getD (Int.toNat x3.int) []).getD 0 dflt).int != x3.int)==false)
  (yQ m ((x1.rows.getD (Int.toNat x3.int) []).getD 0 dflt) (T.l ((x1.rows.getD (Int.toNat x3.int) []).getD 1 dflt).rows) ((x1.rows.getD (Int.toNat x3.int) []).getD 2 dflt) (T.l ((x1.rows.getD (Int.toNat x3.int) []).getD 3 dflt).rows) (T.l ((x1.rows.getD (Int.toNat x3.int) []).getD 4 dflt).rows)
  (fun y2=>cond (!y2.bool)
  (k0 (T.b false))
  (j4)))
  (k0 (T.b false)))
  (.bad))
  (jW m n (T.i (x0.int.toNat:Int)) x1 x2 (T.i (IntKind.i64.wrap (x3.int+1))) x4 x5 x6 x7 x8 x9 x10 gy o9 pU k0 k1))
  (k1 (T.i (x0.int.toNat:Int)) x4 x5 x6 x7 x8 x9 x10 gy o9 pU)
noncomputable def yR:Nat->T->T->T->T->T->T->T->T->T->T->(T->An)->An
 | 0,_,_,_,_,_,_,_,_,_,_,_=>.bad
 | m+1,x0,x1,x2,x3,x4,x5,x6,x7,x8,x9,k0 =>
  jn (fun (j21:An) =>
  yO m x0 x1 x2 (T.l x3.rows) (T.l x4.rows) x5
  (fun y0=>cond ((!y0.bool)==false)
  (cond ((x6.rows.length:Int) != x0.int)
  (k0 (T.b false))
  (j21))
  (k0 (T.b false))))
  (jW m m (T.i 0) (T.l x6.rows) (T.i (x6.rows.length:Int)) (T.i 0) x0 x1 x2 (T.l x3.rows) (T.l x4.rows) x5 (T.l x6.rows) (T.l x7.rows) (T.l x8.rows) (T.l x9.rows)
  (fun y5=>k0 y5)
  (fun y6 y7 y8 y9 Ku Kj DX y13 Je O3 K9=>lU m (T.l [[y7,y8,y9,(T.l Ku.rows),(T.l Kj.rows),DX,(T.l y13.rows),(T.l Je.rows),(T.l O3.rows),(T.l K9.rows)]]) (T.l Je.rows)
  (fun MN=>cond (MN.bool==true)
  (lU m (T.l [[y7,y8,y9,(T.l Ku.rows),(T.l Kj.rows),DX,(T.l y13.rows),(T.l Je.rows),(T.l O3.rows),(T.l K9.rows)]]) (T.l O3.rows)
  (fun Hy=>cond (Hy.bool==true)
  (ow m (T.l [[y7,y8,y9,(T.l Ku.rows),(T.l Kj.rows),DX,(T.l y13.rows),(T.l Je.rows),(T.l O3.rows),(T.l K9.rows)]])
  (fun y19=>k0 (T.b y19.bool)))
  (k0 (T.b false))))
  (k0 (T.b false)))))
noncomputable def Av:Fs:=⟨12,[.agg [AI,AI,AI,.dz tJ [],.dz tC [],AI,.dz tS [],.dz tW [],.dz tW [],.dz tB []]],fun m vs k=>ap 10 (yR m) vs (lm 1 fun z=>k (bg ⟨[.one (RB)],[[none,none,none,none,none,none,none,none,none,none]],[none]⟩ z))⟩
noncomputable def Vm:List Ls:=[⟨[0,1,0,1,1],⟨[(1,EP 0),(19,.one (LD tS)),(20,.one (LI)),(21,.one (LI))],[((KI 0),.box [LI,LI,LI,LD tJ,LD tC,LI,LD tS,LD tW,LD tW,LD tB]),([4000000],.gone)]⟩,fun m n vs k=>ap 14 (jW m n) vs (lm 1 fun z=>k .ret (aB ⟨[(2,.one (LB))],[]⟩ z)) (lm 11 fun z=>k (.exit 0) (aB ⟨[(1,EP 0)],[((KI 0),.box [LI,LI,LI,LD tJ,LD tC,LI,LD tS,LD tW,LD tW,LD tB]),([4000000],.gone)]⟩ z))⟩]
noncomputable def JE:List Fs:=Av::wQ
theorem Vn:aF CX av JE/\aW CX av Av:=dP JD.1 Av Tryz.f12 ⟨12,1,47,4⟩ Vm (fun _ _=>rfl) (fun _ _ _=>by kernel_rfl) ⟨fun _ _ _=>rfl,trivial⟩ ⟨fun _ _ _ _ _ _=>by kernel_rfl,trivial⟩ (fun _ _ _ _ _=>by kernel_rfl)
noncomputable def bT (m:Nat):Nat->T->T->T->T->T->(T->An)->An->An
 | 0,_,_,_,_,_,_,_=>.bad
 | n+1,x0,x1,x2,x3,x4,k0,k1 =>
  cond (decide (x4.int<x3.int))
  (cond (decide ((0:Int)<=x4.int/\x4.int<(x2.rows.length:Int)))
  (cond ((((x2.rows.getD (Int.toNat x4.int) []).getD 0 dflt).int==x1.int)==true)
  (cond (((x2.rows.getD (Int.toNat x4.int) []).getD 1 dflt).bool==true)
  (cond (decide (x4.int<(((bY x0).drop 5).getD 0 dflt).int))
  (k0 (T.b true))
  (bT m n (T.l [(bY x0)]) x1 x2 x3 (T.i (IntKind.i64.wrap (x4.int+1))) k0 k1))
  (bT m n (T.l [(bY x0)]) x1 x2 x3 (T.i (IntKind.i64.wrap (x4.int+1))) k0 k1))
  (bT m n (T.l [(bY x0)]) x1 x2 x3 (T.i (IntKind.i64.wrap (x4.int+1))) k0 k1))
  (.bad))
  (k1 )
noncomputable def nL:Nat->T->T->(T->An)->An
 | 0,_,_,_=>.bad
 | m+1,x0,x1,k0 =>
  bT m m (T.l [(bY x0)]) x1 (((bY x0).drop 4).getD 0 dflt) (T.i ((((bY x0).drop 4).getD 0 dflt).rows.length:Int)) (T.i 0)
  (fun y3=>k0 y3)
  (k0 (T.b false))
noncomputable def oQ:Fs:=⟨40,[.Kw [.sc (.int .i64),.sc (.int .i64),.sc (.int .i64),.sl tJ,.sl tC,.sc (.int .i64),.sl tS,.sl tW,.sl tW,.sl tB] [],.one (AI)],fun m vs k=>ap 2 (nL m) vs (lm 1 fun z=>k (bg ⟨[.one (RB)],[[],[none]],[none,none]⟩ z))⟩
noncomputable def Hu:List Ls:=[⟨[0,1,0,1],⟨[(0,.rp [([4000000],0)] [.sc (.int .i64),.sc (.int .i64),.sc (.int .i64),.sl tJ,.sl tC,.sc (.int .i64),.sl tS,.sl tW,.sl tW,.sl tB] []),(1,.one (LI)),(11,.one (LD tC)),(12,.one (LI)),(13,.one (LI))],[([4000000],.gone)]⟩,fun m n vs k=>ap 5 (bT m n) vs (lm 1 fun z=>k .ret (aB ⟨[(4,.one (LB))],[]⟩ z)) (lm 0 fun z=>k (.exit 0) (aB ⟨[],[]⟩ z))⟩]
noncomputable def uN:List Fs:=oQ::JE
theorem Hw:aF CX av uN/\aW CX av oQ:=dP Vn.1 oQ Tryz.f40 ⟨40,2,36,16⟩ Hu (fun _ _=>rfl) (fun _ _ _=>by kernel_rfl) ⟨fun _ _ _=>rfl,trivial⟩ ⟨fun _ _ _ _ _ _=>by kernel_rfl,trivial⟩ (fun _ _ _ _ _=>by kernel_rfl)
noncomputable def lC (m:Nat):Nat->T->T->T->T->T->T->T->T->T->T->T->T->T->T->T->T->T->(T->An)->(T->T->T->T->T->T->T->T->T->T->T->T->T->T->An)->An
 | 0,_,_,_,_,_,_,_,_,_,_,_,_,_,_,_,_,_,_,_=>.bad
 | n+1,x0,x1,x2,x3,x4,x5,x6,x7,x8,x9,x10,gy,o9,pU,PO,x15,x16,k0,k1 =>
  cond (decide (x6.int<x5.int))
  ((fun (j2:An) =>
  cond (decide ((0:Int)<=x6.int/\x6.int<(x4.rows.length:Int)))
  (cond ((((x4.rows.getD (Int.toNat x6.int) []).getD 0 dflt).int==2)==true)
  (nL m (T.l [[x7,x8,x9,(T.l x10.rows),(T.l gy.rows),o9,(T.l pU.rows),(T.l PO.rows),(T.l x15.rows),(T.l x16.rows)]]) ((x4.rows.getD (Int.toNat x6.int) []).getD 1 dflt)
  (fun y0=>cond (!y0.bool)
  (k0 (T.b false))
  (j2)))
  (j2))
  (.bad))
  (lC m n (T.i (x0.int.toNat:Int)) x1 x2 x3 x4 x5 (T.i (IntKind.i64.wrap (x6.int+1))) x7 x8 x9 x10 gy o9 pU PO x15 x16 k0 k1))
  (k1 (T.i (x0.int.toNat:Int)) x1 x2 x3 x7 x8 x9 x10 gy o9 pU PO x15 x16)
noncomputable def lD (m:Nat):Nat->T->T->T->T->T->T->T->T->T->T->T->T->T->T->(T->An)->An->An
 | 0,_,_,_,_,_,_,_,_,_,_,_,_,_,_,_,_=>.bad
 | n+1,x0,x1,x2,x3,x4,x5,x6,x7,x8,x9,x10,gy,o9,pU,k0,k1 =>
  cond (decide (x3.int<x2.int))
  (cond (decide ((0:Int)<=x3.int/\x3.int<(x1.rows.length:Int)))
  (lC m n (T.i (x0.int.toNat:Int)) x1 x2 x3 ((x1.rows.getD (Int.toNat x3.int) []).getD 1 dflt) (T.i (((x1.rows.getD (Int.toNat x3.int) []).getD 1 dflt).rows.length:Int)) (T.i 0) x4 x5 x6 x7 x8 x9 x10 gy o9 pU
  (fun y3=>k0 y3)
  (fun y4 y5 y6 y7 y8 y9 Ku Kj DX y13 Je O3 K9 MN=>lD m n (T.i (y4.int.toNat:Int)) y5 y6 (T.i (IntKind.i64.wrap (y7.int+1))) y8 y9 Ku Kj DX y13 Je O3 K9 MN k0 k1))
  (.bad))
  (k1 )
noncomputable def Cg:Nat->T->T->T->T->T->T->T->T->T->T->(T->An)->An
 | 0,_,_,_,_,_,_,_,_,_,_,_=>.bad
 | m+1,x0,x1,x2,x3,x4,x5,x6,x7,x8,x9,k0 =>
  lD m m (T.i 0) (T.l x6.rows) (T.i (x6.rows.length:Int)) (T.i 0) x0 x1 x2 (T.l x3.rows) (T.l x4.rows) x5 (T.l x6.rows) (T.l x7.rows) (T.l x8.rows) (T.l x9.rows)
  (fun Hy=>k0 Hy)
  (k0 (T.b true))
noncomputable def DF:Fs:=⟨14,[.agg [AI,AI,AI,.dz tJ [],.dz tC [],AI,.dz tS [],.dz tW [],.dz tW [],.dz tB []]],fun m vs k=>ap 10 (Cg m) vs (lm 1 fun z=>k (bg ⟨[.one (RB)],[[none,none,none,none,none,none,none,none,none,none]],[none]⟩ z))⟩
noncomputable def Xv:List Ls:=[⟨[0,1,1,0,0,1,1,0,0,1,0,1],⟨[(1,EP 0),(8,.one (LD tS)),(9,.one (LI)),(10,.one (LI)),(15,.one (LD tR)),(16,.one (LI)),(17,.one (LI))],[((KI 0),.box [LI,LI,LI,LD tJ,LD tC,LI,LD tS,LD tW,LD tW,LD tB]),([4000000],.gone)]⟩,fun m n vs k=>ap 17 (lC m n) vs (lm 1 fun z=>k .ret (aB ⟨[(2,.one (LB))],[]⟩ z)) (lm 14 fun z=>k (.exit 2) (aB ⟨[(1,EP 0),(8,.one (LD tS)),(9,.one (LI)),(10,.one (LI))],[((KI 0),.box [LI,LI,LI,LD tJ,LD tC,LI,LD tS,LD tW,LD tW,LD tB]),([4000000],.gone)]⟩ z))⟩,⟨[0,1,0,1],⟨[(1,EP 0),(8,.one (LD tS)),(9,.one (LI)),(10,.one (LI))],[((KI 0),.box [LI,LI,LI,LD tJ,LD tC,LI,LD tS,LD tW,LD tW,LD tB]),([4000000],.gone)]⟩,fun m n vs k=>ap 14 (lD m n) vs (lm 1 fun z=>k .ret (aB ⟨[(2,.one (LB))],[]⟩ z)) (lm 0 fun z=>k (.exit 0) (aB ⟨[],[]⟩ z))⟩]
noncomputable def Lp:List Fs:=DF::uN
theorem Xw:aF CX av Lp/\aW CX av DF:=dP Hw.1 DF Tryz.f14 ⟨14,1,32,4⟩ Xv (fun _ _=>rfl) (fun _ _ _=>by kernel_rfl) ⟨fun _ _ _=>rfl,fun _ _ _=>rfl,trivial⟩ ⟨fun _ _ _ _ _ _=>by kernel_rfl,fun _ _ _ _ _ _=>by kernel_rfl,trivial⟩ (fun _ _ _ _ _=>by kernel_rfl)
noncomputable def jf (m:Nat):Nat->T->T->T->T->T->T->(T->An)->An
 | 0,_,_,_,_,_,_,_=>.bad
 | n+1,x0,x1,x2,x3,x4,x5,k0 =>
  cond (decide (x4.int<x3.int))
  (cond (decide ((0:Int)<=x4.int/\x4.int<(x2.rows.length:Int)))
  (ug m ((x2.rows.getD (Int.toNat x4.int) []).getD 1 dflt) x1
  (fun y0=>cond (y0.int==x0.int)
  (cond (decide ((x5.rows.length+1) * 3<=aS))
  (jf m n x0 x1 x2 x3 (T.i (IntKind.i64.wrap (x4.int+1))) (T.l (x5.rows++[[((x2.rows.getD (Int.toNat x4.int) []).getD 0 dflt),((x2.rows.getD (Int.toNat x4.int) []).getD 1 dflt),((x2.rows.getD (Int.toNat x4.int) []).getD 2 dflt)]])) k0)
  (.bad))
  (jf m n x0 x1 x2 x3 (T.i (IntKind.i64.wrap (x4.int+1))) (T.l x5.rows) k0)))
  (.bad))
  (k0 (T.l x5.rows))
noncomputable def Ci:Nat->T->T->T->(T->An)->An
 | 0,_,_,_,_=>.bad
 | m+1,x0,x1,x2,k0 =>
  jf m m x1 x2 (T.l x0.rows) (T.i (x0.rows.length:Int)) (T.i 0) (T.l [])
  (fun y3=>k0 (T.l y3.rows))
noncomputable def DI:Fs:=⟨43,[.one (.dz tO []),.one (AI),.one (AI)],fun m vs k=>ap 3 (Ci m) vs (lm 1 fun z=>k (bg ⟨[.one (.own (KR 0 0) tO m3 [])],[[none],[none],[none]],[none,none,none]⟩ z))⟩
noncomputable def Xx:List Ls:=[⟨[0,1,0,1,1],⟨[(1,.one (LI)),(2,.one (LI)),(7,.one (LA (KI 0) tO)),(10,.one (LD tO)),(11,.one (LI)),(12,.one (LI))],[((KI 0),.row tO m3 []),([4000000],.gone)]⟩,fun m n vs k=>ap 6 (jf m n) vs (lm 1 fun z=>k (.exit 0) (aB ⟨[(7,.one (LA (KI 0) tO))],[((KI 0),.row tO m3 [])]⟩ z))⟩]
noncomputable def Lr:List Fs:=DI::Lp
theorem Xy:aF CX av Lr/\aW CX av DI:=dP Xw.1 DI Tryz.f43 ⟨43,3,28,64⟩ Xx (fun _ _=>rfl) (fun _ _ _=>by kernel_rfl) ⟨fun _ _ _=>rfl,trivial⟩ ⟨fun _ _ _ _ _ _=>by kernel_rfl,trivial⟩ (fun _ _ _ _ _=>by kernel_rfl)
noncomputable def mW (m:Nat):Nat->T->T->T->T->T->T->T->T->T->T->T->T->T->T->T->T->T->T->T->T->T->T->T->(T->An)->(T->T->T->T->T->T->T->T->T->T->T->T->T->T->An)->An
 | 0,_,_,_,_,_,_,_,_,_,_,_,_,_,_,_,_,_,_,_,_,_,_,_,_,_=>.bad
 | n+1,x0,x1,x2,x3,x4,x5,x6,x7,x8,x9,x10,gy,o9,pU,PO,x15,x16,x17,x18,x19,x20,x21,x22,k0,k1 =>
  cond (decide (x7.int<x6.int))
  ((fun (j4:An) =>
  cond (decide ((0:Int)<=x7.int/\x7.int<(x5.rows.length:Int)))
  (cond (((x5.rows.getD (Int.toNat x7.int) []).getD 0 dflt).int != 1)
  (j4)
  (eT m (T.l [[x8,x9,x10,(T.l gy.rows),(T.l o9.rows),pU,(T.l PO.rows),(T.l x15.rows),(T.l x16.rows),(T.l x17.rows)]]) ((x5.rows.getD (Int.toNat x7.int) []).getD 1 dflt)
  (fun y0=>cond ((decide (y0.int<0))==false)
  (cond (decide ((0:Int)<=y0.int/\y0.int<(x17.rows.length:Int)))
  (Ci m (T.l (((x17.rows.getD (Int.toNat y0.int) []).drop 1).getD 0 dflt).rows) x18 x8
  (fun y1=>bR m (T.l y1.rows) (T.l ((x5.rows.getD (Int.toNat x7.int) []).getD 2 dflt).rows)
  (fun y2=>cond (!y2.bool)
  (k0 (T.b false))
  (j4))))
  (.bad))
  (k0 (T.b false)))))
  (.bad))
  (mW m n (T.i (x0.int.toNat:Int)) (T.i (x1.int.toNat:Int)) x2 x3 x4 x5 x6 (T.i (IntKind.i64.wrap (x7.int+1))) x8 x9 x10 gy o9 pU PO x15 x16 x17 x18 x19 x20 x21 x22 k0 k1))
  (k1 (T.i (x0.int.toNat:Int)) x2 x3 x4 x8 x9 x10 gy o9 pU PO x15 x16 x17)
noncomputable def mX (m:Nat):Nat->T->T->T->T->T->T->T->T->T->T->T->T->T->T->(T->An)->An->An
 | 0,_,_,_,_,_,_,_,_,_,_,_,_,_,_,_,_=>.bad
 | n+1,x0,x1,x2,x3,x4,x5,x6,x7,x8,x9,x10,gy,o9,pU,k0,k1 =>
  cond (decide (x3.int<x2.int))
  (cond (decide ((0:Int)<=x3.int/\x3.int<(x1.rows.length:Int)))
  (mW m n (T.i (x0.int.toNat:Int)) (T.i 0) x1 x2 x3 ((x1.rows.getD (Int.toNat x3.int) []).getD 1 dflt) (T.i (((x1.rows.getD (Int.toNat x3.int) []).getD 1 dflt).rows.length:Int)) (T.i 0) x4 x5 x6 x7 x8 x9 x10 gy o9 pU ((x1.rows.getD (Int.toNat x3.int) []).getD 0 dflt) ((x1.rows.getD (Int.toNat x3.int) []).getD 1 dflt) ((x1.rows.getD (Int.toNat x3.int) []).getD 2 dflt) ((x1.rows.getD (Int.toNat x3.int) []).getD 3 dflt) ((x1.rows.getD (Int.toNat x3.int) []).getD 4 dflt)
  (fun y5=>k0 y5)
  (fun y6 y7 y8 y9 Ku Kj DX y13 Je O3 K9 MN Hy y19=>mX m n (T.i (y6.int.toNat:Int)) y7 y8 (T.i (IntKind.i64.wrap (y9.int+1))) Ku Kj DX y13 Je O3 K9 MN Hy y19 k0 k1))
  (.bad))
  (k1 )
noncomputable def Gj:Nat->T->T->T->T->T->T->T->T->T->T->(T->An)->An
 | 0,_,_,_,_,_,_,_,_,_,_,_=>.bad
 | m+1,x0,x1,x2,x3,x4,x5,x6,x7,x8,x9,k0 =>
  mX m m (T.i 0) (T.l x6.rows) (T.i (x6.rows.length:Int)) (T.i 0) x0 x1 x2 (T.l x3.rows) (T.l x4.rows) x5 (T.l x6.rows) (T.l x7.rows) (T.l x8.rows) (T.l x9.rows)
  (fun y20=>k0 y20)
  (k0 (T.b true))
noncomputable def Gl:Fs:=⟨15,[.agg [AI,AI,AI,.dz tJ [],.dz tC [],AI,.dz tS [],.dz tW [],.dz tW [],.dz tB []]],fun m vs k=>ap 10 (Gj m) vs (lm 1 fun z=>k (bg ⟨[.one (RB)],[[none,none,none,none,none,none,none,none,none,none]],[none]⟩ z))⟩
noncomputable def aaB:List Ls:=[⟨[0,1,1,0,0,1,1,0,0,1,0,1],⟨[(1,EP 0),(4,EP 1),(9,.one (LD tS)),(10,.one (LI)),(11,.one (LI)),(16,.one (LD tR)),(17,.one (LI)),(18,.one (LI))],[((KI 0),.box [LI,LI,LI,LD tJ,LD tC,LI,LD tS,LD tW,LD tW,LD tB]),((KI 1),.box [LI,LD tR,LI,LD tP,LD tR]),([4000000],.gone)]⟩,fun m n vs k=>ap 23 (mW m n) vs (lm 1 fun z=>k .ret (aB ⟨[(2,.one (LB))],[]⟩ z)) (lm 14 fun z=>k (.exit 2) (aB ⟨[(1,EP 0),(9,.one (LD tS)),(10,.one (LI)),(11,.one (LI))],[((KI 0),.box [LI,LI,LI,LD tJ,LD tC,LI,LD tS,LD tW,LD tW,LD tB]),([4000000],.gone)]⟩ z))⟩,⟨[0,1,0,1],⟨[(1,EP 0),(9,.one (LD tS)),(10,.one (LI)),(11,.one (LI))],[((KI 0),.box [LI,LI,LI,LD tJ,LD tC,LI,LD tS,LD tW,LD tW,LD tB]),([4000000],.gone)]⟩,fun m n vs k=>ap 14 (mX m n) vs (lm 1 fun z=>k .ret (aB ⟨[(2,.one (LB))],[]⟩ z)) (lm 0 fun z=>k (.exit 0) (aB ⟨[],[]⟩ z))⟩]
noncomputable def Oz:List Fs:=Gl::Lr
theorem aaC:aF CX av Oz/\aW CX av Gl:=dP Xy.1 Gl Tryz.f15 ⟨15,1,50,4⟩ aaB (fun _ _=>rfl) (fun _ _ _=>by kernel_rfl) ⟨fun _ _ _=>rfl,fun _ _ _=>rfl,trivial⟩ ⟨fun _ _ _ _ _ _=>by kernel_rfl,fun _ _ _ _ _ _=>by kernel_rfl,trivial⟩ (fun _ _ _ _ _=>by kernel_rfl)
noncomputable def bV (m:Nat):Nat->T->T->T->T->(T->An)->An->An
 | 0,_,_,_,_,_,_=>.bad
 | n+1,x0,x1,x2,x3,k0,k1 =>
  cond (decide (x3.int<x2.int))
  (cond (decide ((0:Int)<=x3.int/\x3.int<(x1.rows.length:Int)))
  (cond ((((x1.rows.getD (Int.toNat x3.int) []).getD 1 dflt).int==x0.int)==true)
  (cond ((((x1.rows.getD (Int.toNat x3.int) []).getD 0 dflt).int==1)==false)
  (cond (((x1.rows.getD (Int.toNat x3.int) []).getD 0 dflt).int==2)
  (k0 (T.b true))
  (bV m n x0 x1 x2 (T.i (IntKind.i64.wrap (x3.int+1))) k0 k1))
  (k0 (T.b true)))
  (bV m n x0 x1 x2 (T.i (IntKind.i64.wrap (x3.int+1))) k0 k1))
  (.bad))
  (k1 )
noncomputable def lZ:Nat->T->T->(T->An)->An
 | 0,_,_,_=>.bad
 | m+1,x0,x1,k0 =>
  cond (decide ((0:Int)<=(M5 0 (M4 (((bY x0).drop 2).getD 0 dflt).int ((((bY x0).drop 1).getD 0 dflt).rows.length:Int)))/\(M5 0 (M4 (((bY x0).drop 2).getD 0 dflt).int ((((bY x0).drop 1).getD 0 dflt).rows.length:Int)))<=((((bY x0).drop 1).getD 0 dflt).rows.length:Int)))
  (cond (decide ((0:Int)<=0/\0<=(M5 0 (M4 (((bY x0).drop 2).getD 0 dflt).int ((((bY x0).drop 1).getD 0 dflt).rows.length:Int)))))
  (bV m m x1 (T.l ((((bY x0).drop 1).getD 0 dflt).rows.take (Int.toNat (M5 0 (M4 (((bY x0).drop 2).getD 0 dflt).int ((((bY x0).drop 1).getD 0 dflt).rows.length:Int)))))) (T.i (((((bY x0).drop 1).getD 0 dflt).rows.take (Int.toNat (M5 0 (M4 (((bY x0).drop 2).getD 0 dflt).int ((((bY x0).drop 1).getD 0 dflt).rows.length:Int))))).length:Int)) (T.i 0)
  (fun y1=>k0 y1)
  (k0 (T.b false)))
  (.bad))
  (.bad)
noncomputable def nU:Fs:=⟨45,[.Kw tS [],.one (AI)],fun m vs k=>ap 2 (lZ m) vs (lm 1 fun z=>k (bg ⟨[.one (RB)],[[],[none]],[none,none]⟩ z))⟩
noncomputable def Er:List Ls:=[⟨[0,1,0,1,1],⟨[(1,.one (LI)),(24,.one (LD tR)),(25,.one (LI)),(26,.one (LI))],[([4000000],.gone)]⟩,fun m n vs k=>ap 4 (bV m n) vs (lm 1 fun z=>k .ret (aB ⟨[(4,.one (LB))],[]⟩ z)) (lm 0 fun z=>k (.exit 0) (aB ⟨[],[]⟩ z))⟩]
noncomputable def sH:List Fs:=nU::Oz
theorem Es:aF CX av sH/\aW CX av nU:=dP aaC.1 nU Tryz.f45 ⟨45,2,45,16⟩ Er (fun _ _=>rfl) (fun _ _ _=>by kernel_rfl) ⟨fun _ _ _=>rfl,trivial⟩ ⟨fun _ _ _ _ _ _=>by kernel_rfl,trivial⟩ (fun _ _ _ _ _=>by kernel_rfl)
noncomputable def jg (m:Nat):Nat->T->T->T->T->T->T->T->T->T->T->T->T->T->T->T->T->T->T->T->T->(T->An)->(T->T->T->T->T->T->T->T->T->T->T->T->T->T->An)->An
 | 0,_,_,_,_,_,_,_,_,_,_,_,_,_,_,_,_,_,_,_,_,_,_=>.bad
 | n+1,x0,x1,x2,x3,x4,x5,x6,x7,x8,x9,x10,gy,o9,pU,PO,x15,x16,x17,x18,x19,k0,k1 =>
  cond (decide (x7.int<x6.int))
  ((fun (j4:An) =>
  cond (decide ((0:Int)<=x7.int/\x7.int<(x5.rows.length:Int)))
  (cond ((decide (((x5.rows.getD (Int.toNat x7.int) []).getD 0 dflt).int>=(PO.rows.length:Int)))==false)
  (cond (decide ((0:Int)<=((x5.rows.getD (Int.toNat x7.int) []).getD 0 dflt).int/\((x5.rows.getD (Int.toNat x7.int) []).getD 0 dflt).int<(PO.rows.length:Int)))
  (lZ m (T.l [((PO.rows.getD (Int.toNat ((x5.rows.getD (Int.toNat x7.int) []).getD 0 dflt).int) []).take 5)]) x18
  (fun y2=>cond (!y2.bool)
  (k0 (T.b false))
  (j4)))
  (.bad))
  (k0 (T.b false)))
  (.bad))
  (jg m n (T.i (x0.int.toNat:Int)) (T.i (x1.int.toNat:Int)) x2 x3 x4 x5 x6 (T.i (IntKind.i64.wrap (x7.int+1))) x8 x9 x10 gy o9 pU PO x15 x16 x17 x18 x19 k0 k1))
  (k1 (T.i (x0.int.toNat:Int)) x2 x3 x4 x8 x9 x10 gy o9 pU PO x15 x16 x17)
noncomputable def jh (m:Nat):Nat->T->T->T->T->T->T->T->T->T->T->T->T->T->T->(T->An)->An->An
 | 0,_,_,_,_,_,_,_,_,_,_,_,_,_,_,_,_=>.bad
 | n+1,x0,x1,x2,x3,x4,x5,x6,x7,x8,x9,x10,gy,o9,pU,k0,k1 =>
  cond (decide (x3.int<x2.int))
  ((fun (j48:T->T->T->T->T->T->T->T->T->T->T->T->T->T->An) =>
  cond (decide ((0:Int)<=x3.int/\x3.int<(x1.rows.length:Int)))
  (cond (!((x1.rows.getD (Int.toNat x3.int) []).getD 1 dflt).bool)
  (j48 (T.i (x0.int.toNat:Int)) x1 x2 x3 x4 x5 x6 x7 x8 x9 x10 gy o9 pU)
  (eT m (T.l [[x4,x5,x6,(T.l x7.rows),(T.l x8.rows),x9,(T.l x10.rows),(T.l gy.rows),(T.l o9.rows),(T.l pU.rows)]]) ((x1.rows.getD (Int.toNat x3.int) []).getD 0 dflt)
  (fun y0=>cond (decide (y0.int<0))
  (k0 (T.b false))
  (cond (decide ((0:Int)<=y0.int/\y0.int<(pU.rows.length:Int)))
  (oM m (T.l (((pU.rows.getD (Int.toNat y0.int) []).drop 1).getD 0 dflt).rows) x4
  (fun y1=>jg m n (T.i (x0.int.toNat:Int)) (T.i 0) x1 x2 x3 (T.l y1.rows) (T.i (y1.rows.length:Int)) (T.i 0) x4 x5 x6 x7 x8 x9 x10 gy o9 pU ((x1.rows.getD (Int.toNat x3.int) []).getD 0 dflt) ((x1.rows.getD (Int.toNat x3.int) []).getD 1 dflt)
  (fun y5=>k0 y5)
  (fun y6 y7 y8 y9 Ku Kj DX y13 Je O3 K9 MN Hy y19=>j48 (T.i (y6.int.toNat:Int)) y7 y8 y9 Ku Kj DX y13 Je O3 K9 MN Hy y19)))
  (.bad)))))
  (.bad))
  (fun y34 y35 y36 y37 y38 y39 y40 y41 y42 y43 y44 y45 y46 y47=>jh m n (T.i (y34.int.toNat:Int)) y35 y36 (T.i (IntKind.i64.wrap (y37.int+1))) y38 y39 y40 y41 y42 y43 y44 y45 y46 y47 k0 k1))
  (k1 )
noncomputable def vV:Nat->T->T->T->T->T->T->T->T->T->T->(T->An)->An
 | 0,_,_,_,_,_,_,_,_,_,_,_=>.bad
 | m+1,x0,x1,x2,x3,x4,x5,x6,x7,x8,x9,k0 =>
  jh m m (T.i 0) (T.l x4.rows) (T.i (x4.rows.length:Int)) (T.i 0) x0 x1 x2 (T.l x3.rows) (T.l x4.rows) x5 (T.l x6.rows) (T.l x7.rows) (T.l x8.rows) (T.l x9.rows)
  (fun y49=>k0 y49)
  (k0 (T.b true))
noncomputable def xO:Fs:=⟨16,[.agg [AI,AI,AI,.dz tJ [],.dz tC [],AI,.dz tS [],.dz tW [],.dz tW [],.dz tB []]],fun m vs k=>ap 10 (vV m) vs (lm 1 fun z=>k (bg ⟨[.one (RB)],[[none,none,none,none,none,none,none,none,none,none]],[none]⟩ z))⟩
noncomputable def RV:List Ls:=[⟨[0,1,1,1,1,1,0,0,1,1,0,0,1,0,1],⟨[(1,EP 0),(4,EP 1),(10,.one (LD tC)),(11,.one (LI)),(12,.one (LI)),(33,.one (LZ tI)),(34,.one (LI)),(35,.one (LI))],[((KI 0),.box [LI,LI,LI,LD tJ,LD tC,LI,LD tS,LD tW,LD tW,LD tB]),((KI 1),.box [LI,LB]),([4000000],.gone)]⟩,fun m n vs k=>ap 20 (jg m n) vs (lm 1 fun z=>k .ret (aB ⟨[(2,.one (LB))],[]⟩ z)) (lm 14 fun z=>k (.exit 2) (aB ⟨[(1,EP 0),(10,.one (LD tC)),(11,.one (LI)),(12,.one (LI))],[((KI 0),.box [LI,LI,LI,LD tJ,LD tC,LI,LD tS,LD tW,LD tW,LD tB]),([4000000],.gone)]⟩ z))⟩,⟨[0,1,0,1],⟨[(1,EP 0),(10,.one (LD tC)),(11,.one (LI)),(12,.one (LI))],[((KI 0),.box [LI,LI,LI,LD tJ,LD tC,LI,LD tS,LD tW,LD tW,LD tB]),([4000000],.gone)]⟩,fun m n vs k=>ap 14 (jh m n) vs (lm 1 fun z=>k .ret (aB ⟨[(2,.one (LB))],[]⟩ z)) (lm 0 fun z=>k (.exit 0) (aB ⟨[],[]⟩ z))⟩]
noncomputable def G9:List Fs:=xO::sH
theorem RY:aF CX av G9/\aW CX av xO:=dP Es.1 xO Tryz.f16 ⟨16,1,56,4⟩ RV (fun _ _=>rfl) (fun _ _ _=>by kernel_rfl) ⟨fun _ _ _=>rfl,fun _ _ _=>rfl,trivial⟩ ⟨fun _ _ _ _ _ _=>by kernel_rfl,fun _ _ _ _ _ _=>by kernel_rfl,trivial⟩ (fun _ _ _ _ _=>by kernel_rfl)
noncomputable def ji (m:Nat):Nat->T->T->T->T->(T->An)->An->An
 | 0,_,_,_,_,_,_=>.bad
 | n+1,x0,x1,x2,x3,k0,k1 =>
  cond (decide (x3.int<x2.int))
  (cond (decide ((0:Int)<=x3.int/\x3.int<(x0.rows.length:Int)))
  (cond (x1.bool==((x0.rows.getD (Int.toNat x3.int) []).getD 0 dflt).bool)
  (k0 x3)
  (ji m n x0 x1 x2 (T.i (IntKind.i64.wrap (x3.int+1))) k0 k1))
  (.bad))
  (k1 )
noncomputable def mJ:Nat->T->T->(T->An)->An
 | 0,_,_,_=>.bad
 | m+1,x0,x1,k0 =>
  ji m m (T.l x0.rows) x1 (T.i (x0.rows.length:Int)) (T.i 0)
  (fun y0=>k0 y0)
  (k0 (T.i (-1)))
noncomputable def kK:Fs:=⟨30,[.one (.dz [.sc (.bool)] []),.one (AB)],fun m vs k=>ap 2 (mJ m) vs (lm 1 fun z=>k (bg ⟨[.one (RI)],[[none],[none]],[none,none]⟩ z))⟩
noncomputable def yS:List Ls:=[⟨[0,1,0,1],⟨[(0,.one (LD [.sc (.bool)])),(1,.one (LB)),(7,.one (LI)),(8,.one (LI))],[([4000000],.gone)]⟩,fun m n vs k=>ap 4 (ji m n) vs (lm 1 fun z=>k .ret (aB ⟨[(4,.one (LI))],[]⟩ z)) (lm 0 fun z=>k (.exit 0) (aB ⟨[],[]⟩ z))⟩]
noncomputable def o7:List Fs:=kK::G9
theorem yT:aF CX av o7/\aW CX av kK:=dP RY.1 kK Tryz.f30 ⟨30,2,19,16⟩ yS (fun _ _=>rfl) (fun _ _ _=>by kernel_rfl) ⟨fun _ _ _=>rfl,trivial⟩ ⟨fun _ _ _ _ _ _=>by kernel_rfl,trivial⟩ (fun _ _ _ _ _=>by kernel_rfl)
noncomputable def Kn:Nat->T->T->T->T->T->T->T->T->T->T->(T->An)->An
 | 0,_,_,_,_,_,_,_,_,_,_,_=>.bad
 | m+1,x0,x1,x2,x3,x4,x5,x6,x7,x8,x9,k0 =>
  yR m x0 x1 x2 (T.l x3.rows) (T.l x4.rows) x5 (T.l x6.rows) (T.l x7.rows) (T.l x8.rows) (T.l x9.rows)
  (fun y0=>yx m x0 x1 x2 (T.l x3.rows) (T.l x4.rows) x5 (T.l x6.rows) (T.l x7.rows) (T.l x8.rows) (T.l x9.rows)
  (fun y1=>Cg m x0 x1 x2 (T.l x3.rows) (T.l x4.rows) x5 (T.l x6.rows) (T.l x7.rows) (T.l x8.rows) (T.l x9.rows)
  (fun y2=>Gj m x0 x1 x2 (T.l x3.rows) (T.l x4.rows) x5 (T.l x6.rows) (T.l x7.rows) (T.l x8.rows) (T.l x9.rows)
  (fun y3=>vV m x0 x1 x2 (T.l x3.rows) (T.l x4.rows) x5 (T.l x6.rows) (T.l x7.rows) (T.l x8.rows) (T.l x9.rows)
  (fun y4=>mJ m (T.l [[y0],[y1],[y2],[y3],[y4]]) (T.b false)
  (fun y5=>k0 (T.i (IntKind.i64.wrap (1+y5.int)))))))))
noncomputable def JF:Fs:=⟨8,[.agg [AI,AI,AI,.dz tJ [],.dz tC [],AI,.dz tS [],.dz tW [],.dz tW [],.dz tB []]],fun m vs k=>ap 10 (Kn m) vs (lm 1 fun z=>k (bg ⟨[.one (RI)],[[none,none,none,none,none,none,none,none,none,none]],[none]⟩ z))⟩
noncomputable def QO:List Fs:=JF::o7
theorem aci:aF CX av QO/\aW CX av JF:=dP yT.1 JF Tryz.f8 ⟨8,1,18,4⟩ [] (fun _ _=>rfl) (fun _ _ _=>by kernel_rfl) trivial trivial (fun _ _ _ _ _=>by kernel_rfl)
noncomputable def Ko:Nat->T->T->T->T->T->T->(T->An)->An
 | 0,_,_,_,_,_,_,_=>.bad
 | m+1,x0,x1,x2,x3,x4,x5,k0 =>
  cond (x0.int != x3.int)
  (k0 (T.b false))
  (cond (!(x1.str.toList==x4.str.toList))
  (k0 (T.b false))
  (cond (!(x2.str.toList==x5.str.toList))
  (k0 (T.b false))
  (k0 (T.b true))))
noncomputable def JG:Fs:=⟨153,[.agg [AI,AS,AS],.agg [AI,AS,AS]],fun m vs k=>ap 6 (Ko m) vs (lm 1 fun z=>k (bg ⟨[.one (RB)],[[none,none,none],[none,none,none]],[none,none]⟩ z))⟩
noncomputable def QS:List Fs:=JG::QO
theorem acj:aF CX av QS/\aW CX av JG:=dP aci.1 JG Tryz.f153 ⟨153,2,20,16⟩ [] (fun _ _=>rfl) (fun _ _ _=>by kernel_rfl) trivial trivial (fun _ _ _ _ _=>by kernel_rfl)
noncomputable def mY (m:Nat):Nat->T->T->T->(T->An)->An->An
 | 0,_,_,_,_,_=>.bad
 | n+1,x0,x1,x2,k0,k1 =>
  cond (decide (x2.int<(x0.rows.length:Int)))
  (cond (decide ((0:Int)<=x2.int/\x2.int<(x0.rows.length:Int)))
  (cond (decide ((0:Int)<=x2.int/\x2.int<(x1.rows.length:Int)))
  (Ko m ((x0.rows.getD (Int.toNat x2.int) []).getD 0 dflt) ((x0.rows.getD (Int.toNat x2.int) []).getD 1 dflt) ((x0.rows.getD (Int.toNat x2.int) []).getD 2 dflt) ((x1.rows.getD (Int.toNat x2.int) []).getD 0 dflt) ((x1.rows.getD (Int.toNat x2.int) []).getD 1 dflt) ((x1.rows.getD (Int.toNat x2.int) []).getD 2 dflt)
  (fun y0=>cond (!y0.bool)
  (k0 (T.b false))
  (mY m n x0 x1 (T.i (IntKind.i64.wrap (x2.int+1))) k0 k1)))
  (.bad))
  (.bad))
  (k1 )
noncomputable def rQ:Nat->T->T->(T->An)->An
 | 0,_,_,_=>.bad
 | m+1,x0,x1,k0 =>
  cond ((x0.rows.length:Int) != (x1.rows.length:Int))
  (k0 (T.b false))
  (mY m m (T.l x0.rows) (T.l x1.rows) (T.i 0)
  (fun y1=>k0 y1)
  (k0 (T.b true)))
noncomputable def Gm:Fs:=⟨116,[.one (.dz tO []),.one (.dz tO [])],fun m vs k=>ap 2 (rQ m) vs (lm 1 fun z=>k (bg ⟨[.one (RB)],[[none],[none]],[none,none]⟩ z))⟩
noncomputable def aaD:List Ls:=[⟨[0,1,0,1,1],⟨[(0,.one (LD tO)),(1,.one (LD tO)),(5,.one (LI))],[([4000000],.gone)]⟩,fun m n vs k=>ap 3 (mY m n) vs (lm 1 fun z=>k .ret (aB ⟨[(4,.one (LB))],[]⟩ z)) (lm 0 fun z=>k (.exit 0) (aB ⟨[],[]⟩ z))⟩]
noncomputable def OA:List Fs:=Gm::QS
theorem aaE:aF CX av OA/\aW CX av Gm:=dP acj.1 Gm Tryz.f116 ⟨116,2,27,16⟩ aaD (fun _ _=>rfl) (fun _ _ _=>by kernel_rfl) ⟨fun _ _ _=>rfl,trivial⟩ ⟨fun _ _ _ _ _ _=>by kernel_rfl,trivial⟩ (fun _ _ _ _ _=>by kernel_rfl)
noncomputable def lF (m:Nat):Nat->T->T->T->(T->An)->An->An
 | 0,_,_,_,_,_=>.bad
 | n+1,x0,x1,x2,k0,k1 =>
  cond (decide (x2.int<(x0.rows.length:Int)))
  (cond (decide ((0:Int)<=x2.int/\x2.int<(x0.rows.length:Int)))
  (cond (decide ((0:Int)<=x2.int/\x2.int<(x1.rows.length:Int)))
  (cond (((x0.rows.getD (Int.toNat x2.int) []).getD 0 dflt).int != ((x1.rows.getD (Int.toNat x2.int) []).getD 0 dflt).int)
  (k0 (T.b false))
  (lF m n x0 x1 (T.i (IntKind.i64.wrap (x2.int+1))) k0 k1))
  (.bad))
  (.bad))
  (k1 )
noncomputable def Cj:Nat->T->T->(T->An)->An
 | 0,_,_,_=>.bad
 | m+1,x0,x1,k0 =>
  cond ((x0.rows.length:Int) != (x1.rows.length:Int))
  (k0 (T.b false))
  (lF m m (T.l x0.rows) (T.l x1.rows) (T.i 0)
  (fun y0=>k0 y0)
  (k0 (T.b true)))
noncomputable def DJ:Fs:=⟨150,[.one (.dz tI []),.one (.dz tI [])],fun m vs k=>ap 2 (Cj m) vs (lm 1 fun z=>k (bg ⟨[.one (RB)],[[none],[none]],[none,none]⟩ z))⟩
noncomputable def Xz:List Ls:=[⟨[0,1,0,1,1],⟨[(0,.one (LD tI)),(1,.one (LD tI)),(5,.one (LI))],[([4000000],.gone)]⟩,fun m n vs k=>ap 3 (lF m n) vs (lm 1 fun z=>k .ret (aB ⟨[(4,.one (LB))],[]⟩ z)) (lm 0 fun z=>k (.exit 0) (aB ⟨[],[]⟩ z))⟩]
noncomputable def Lu:List Fs:=DJ::OA
theorem XI:aF CX av Lu/\aW CX av DJ:=dP aaE.1 DJ Tryz.f150 ⟨150,2,26,16⟩ Xz (fun _ _=>rfl) (fun _ _ _=>by kernel_rfl) ⟨fun _ _ _=>rfl,trivial⟩ ⟨fun _ _ _ _ _ _=>by kernel_rfl,trivial⟩ (fun _ _ _ _ _=>by kernel_rfl)
noncomputable def Gn:Nat->T->T->T->T->T->T->T->T->(T->An)->An
 | 0,_,_,_,_,_,_,_,_,_=>.bad
 | m+1,x0,x1,x2,x3,x4,x5,x6,x7,k0 =>
  cond (x0.int != x4.int)
  (k0 (T.b false))
  (rQ m (T.l x1.rows) (T.l x5.rows)
  (fun y0=>cond (!y0.bool)
  (k0 (T.b false))
  (cond (x2.int != x6.int)
  (k0 (T.b false))
  (Cj m (T.l x3.rows) (T.l x7.rows)
  (fun y1=>cond (!y1.bool)
  (k0 (T.b false))
  (k0 (T.b true)))))))
noncomputable def Gp:Fs:=⟨112,[.agg [AI,.dz tO [],AI,.dz tI []],.agg [AI,.dz tO [],AI,.dz tI []]],fun m vs k=>ap 8 (Gn m) vs (lm 1 fun z=>k (bg ⟨[.one (RB)],[[none,none,none,none],[none,none,none,none]],[none,none]⟩ z))⟩
noncomputable def OB:List Fs:=Gp::Lu
theorem aaF:aF CX av OB/\aW CX av Gp:=dP XI.1 Gp Tryz.f112 ⟨112,2,27,16⟩ [] (fun _ _=>rfl) (fun _ _ _=>by kernel_rfl) trivial trivial (fun _ _ _ _ _=>by kernel_rfl)
noncomputable def lG (m:Nat):Nat->T->T->T->(T->An)->An->An
 | 0,_,_,_,_,_=>.bad
 | n+1,x0,x1,x2,k0,k1 =>
  cond (decide (x2.int<(x0.rows.length:Int)))
  (cond (decide ((0:Int)<=x2.int/\x2.int<(x0.rows.length:Int)))
  (cond (decide ((0:Int)<=x2.int/\x2.int<(x1.rows.length:Int)))
  (Gn m ((x0.rows.getD (Int.toNat x2.int) []).getD 0 dflt) (T.l ((x0.rows.getD (Int.toNat x2.int) []).getD 1 dflt).rows) ((x0.rows.getD (Int.toNat x2.int) []).getD 2 dflt) (T.l ((x0.rows.getD (Int.toNat x2.int) []).getD 3 dflt).rows) ((x1.rows.getD (Int.toNat x2.int) []).getD 0 dflt) (T.l ((x1.rows.getD (Int.toNat x2.int) []).getD 1 dflt).rows) ((x1.rows.getD (Int.toNat x2.int) []).getD 2 dflt) (T.l ((x1.rows.getD (Int.toNat x2.int) []).getD 3 dflt).rows)
  (fun y0=>cond (!y0.bool)
  (k0 (T.b false))
  (lG m n x0 x1 (T.i (IntKind.i64.wrap (x2.int+1))) k0 k1)))
  (.bad))
  (.bad))
  (k1 )
noncomputable def Ck:Nat->T->T->(T->An)->An
 | 0,_,_,_=>.bad
 | m+1,x0,x1,k0 =>
  cond ((x0.rows.length:Int) != (x1.rows.length:Int))
  (k0 (T.b false))
  (lG m m (T.l x0.rows) (T.l x1.rows) (T.i 0)
  (fun y1=>k0 y1)
  (k0 (T.b true)))
noncomputable def DK:Fs:=⟨66,[.one (.dz tJ []),.one (.dz tJ [])],fun m vs k=>ap 2 (Ck m) vs (lm 1 fun z=>k (bg ⟨[.one (RB)],[[none],[none]],[none,none]⟩ z))⟩
noncomputable def XJ:List Ls:=[⟨[0,1,0,1,1],⟨[(0,.one (LD tJ)),(1,.one (LD tJ)),(5,.one (LI))],[([4000000],.gone)]⟩,fun m n vs k=>ap 3 (lG m n) vs (lm 1 fun z=>k .ret (aB ⟨[(4,.one (LB))],[]⟩ z)) (lm 0 fun z=>k (.exit 0) (aB ⟨[],[]⟩ z))⟩]
noncomputable def Lv:List Fs:=DK::OB
theorem XK:aF CX av Lv/\aW CX av DK:=dP aaF.1 DK Tryz.f66 ⟨66,2,27,16⟩ XJ (fun _ _=>rfl) (fun _ _ _=>by kernel_rfl) ⟨fun _ _ _=>rfl,trivial⟩ ⟨fun _ _ _ _ _ _=>by kernel_rfl,trivial⟩ (fun _ _ _ _ _=>by kernel_rfl)
noncomputable def vW:Nat->T->T->T->T->(T->An)->An
 | 0,_,_,_,_,_=>.bad
 | m+1,x0,x1,x2,x3,k0 =>
  cond (x0.int != x2.int)
  (k0 (T.b false))
  (cond (!(x1.bool==x3.bool))
  (k0 (T.b false))
  (k0 (T.b true)))
noncomputable def xP:Fs:=⟨113,[.agg [AI,AB],.agg [AI,AB]],fun m vs k=>ap 4 (vW m) vs (lm 1 fun z=>k (bg ⟨[.one (RB)],[[none,none],[none,none]],[none,none]⟩ z))⟩
noncomputable def He:List Fs:=xP::Lv
theorem RZ:aF CX av He/\aW CX av xP:=dP XK.1 xP Tryz.f113 ⟨113,2,15,16⟩ [] (fun _ _=>rfl) (fun _ _ _=>by kernel_rfl) trivial trivial (fun _ _ _ _ _=>by kernel_rfl)
noncomputable def gY (m:Nat):Nat->T->T->T->(T->An)->An->An
 | 0,_,_,_,_,_=>.bad
 | n+1,x0,x1,x2,k0,k1 =>
  cond (decide (x2.int<(x0.rows.length:Int)))
  (cond (decide ((0:Int)<=x2.int/\x2.int<(x0.rows.length:Int)))
  (cond (decide ((0:Int)<=x2.int/\x2.int<(x1.rows.length:Int)))
  (vW m ((x0.rows.getD (Int.toNat x2.int) []).getD 0 dflt) ((x0.rows.getD (Int.toNat x2.int) []).getD 1 dflt) ((x1.rows.getD (Int.toNat x2.int) []).getD 0 dflt) ((x1.rows.getD (Int.toNat x2.int) []).getD 1 dflt)
  (fun y0=>cond (!y0.bool)
  (k0 (T.b false))
  (gY m n x0 x1 (T.i (IntKind.i64.wrap (x2.int+1))) k0 k1)))
  (.bad))
  (.bad))
  (k1 )
noncomputable def uq:Nat->T->T->(T->An)->An
 | 0,_,_,_=>.bad
 | m+1,x0,x1,k0 =>
  cond ((x0.rows.length:Int) != (x1.rows.length:Int))
  (k0 (T.b false))
  (gY m m (T.l x0.rows) (T.l x1.rows) (T.i 0)
  (fun y1=>k0 y1)
  (k0 (T.b true)))
noncomputable def vG:Fs:=⟨67,[.one (.dz tC []),.one (.dz tC [])],fun m vs k=>ap 2 (uq m) vs (lm 1 fun z=>k (bg ⟨[.one (RB)],[[none],[none]],[none,none]⟩ z))⟩
noncomputable def PX:List Ls:=[⟨[0,1,0,1,1],⟨[(0,.one (LD tC)),(1,.one (LD tC)),(5,.one (LI))],[([4000000],.gone)]⟩,fun m n vs k=>ap 3 (gY m n) vs (lm 1 fun z=>k .ret (aB ⟨[(4,.one (LB))],[]⟩ z)) (lm 0 fun z=>k (.exit 0) (aB ⟨[],[]⟩ z))⟩]
noncomputable def Et:List Fs:=vG::He
theorem PY:aF CX av Et/\aW CX av vG:=dP RZ.1 vG Tryz.f67 ⟨67,2,27,16⟩ PX (fun _ _=>rfl) (fun _ _ _=>by kernel_rfl) ⟨fun _ _ _=>rfl,trivial⟩ ⟨fun _ _ _ _ _ _=>by kernel_rfl,trivial⟩ (fun _ _ _ _ _=>by kernel_rfl)
noncomputable def yU:Nat->T->T->T->T->T->T->T->T->T->T->T->T->(T->An)->An
 | 0,_,_,_,_,_,_,_,_,_,_,_,_,_=>.bad
 | m+1,x0,x1,x2,x3,x4,x5,x6,x7,x8,x9,x10,gy,k0 =>
  cond (x0.int != x6.int)
  (k0 (T.b false))
  (cond (x1.int != x7.int)
  (k0 (T.b false))
  (cond (x2.int != x8.int)
  (k0 (T.b false))
  (Ck m (T.l x3.rows) (T.l x9.rows)
  (fun y0=>cond (!y0.bool)
  (k0 (T.b false))
  (uq m (T.l x4.rows) (T.l x10.rows)
  (fun y1=>cond (!y1.bool)
  (k0 (T.b false))
  (cond (x5.int != gy.int)
  (k0 (T.b false))
  (k0 (T.b true)))))))))
noncomputable def Aw:Fs:=⟨31,[.agg [AI,AI,AI,.dz tJ [],.dz tC [],AI],.agg [AI,AI,AI,.dz tJ [],.dz tC [],AI]],fun m vs k=>ap 12 (yU m) vs (lm 1 fun z=>k (bg ⟨[.one (RB)],[[none,none,none,none,none,none],[none,none,none,none,none,none]],[none,none]⟩ z))⟩
noncomputable def JH:List Fs:=Aw::Et
theorem Vo:aF CX av JH/\aW CX av Aw:=dP PY.1 Aw Tryz.f31 ⟨31,2,37,16⟩ [] (fun _ _=>rfl) (fun _ _ _=>by kernel_rfl) trivial trivial (fun _ _ _ _ _=>by kernel_rfl)
noncomputable def Gq:Nat->T->T->T->T->T->T->(T->An)->An
 | 0,_,_,_,_,_,_,_=>.bad
 | m+1,x0,x1,x2,x3,x4,x5,k0 =>
  cond (x0.int != x3.int)
  (k0 (T.b false))
  (cond (x1.int != x4.int)
  (k0 (T.b false))
  (rQ m (T.l x2.rows) (T.l x5.rows)
  (fun y0=>cond (!y0.bool)
  (k0 (T.b false))
  (k0 (T.b true)))))
noncomputable def Gr:Fs:=⟨151,[.agg [AI,AI,.dz tO []],.agg [AI,AI,.dz tO []]],fun m vs k=>ap 6 (Gq m) vs (lm 1 fun z=>k (bg ⟨[.one (RB)],[[none,none,none],[none,none,none]],[none,none]⟩ z))⟩
noncomputable def OC:List Fs:=Gr::JH
theorem aaG:aF CX av OC/\aW CX av Gr:=dP Vo.1 Gr Tryz.f151 ⟨151,2,21,16⟩ [] (fun _ _=>rfl) (fun _ _ _=>by kernel_rfl) trivial trivial (fun _ _ _ _ _=>by kernel_rfl)
noncomputable def lH (m:Nat):Nat->T->T->T->(T->An)->An->An
 | 0,_,_,_,_,_=>.bad
 | n+1,x0,x1,x2,k0,k1 =>
  cond (decide (x2.int<(x0.rows.length:Int)))
  (cond (decide ((0:Int)<=x2.int/\x2.int<(x0.rows.length:Int)))
  (cond (decide ((0:Int)<=x2.int/\x2.int<(x1.rows.length:Int)))
  (Gq m ((x0.rows.getD (Int.toNat x2.int) []).getD 0 dflt) ((x0.rows.getD (Int.toNat x2.int) []).getD 1 dflt) (T.l ((x0.rows.getD (Int.toNat x2.int) []).getD 2 dflt).rows) ((x1.rows.getD (Int.toNat x2.int) []).getD 0 dflt) ((x1.rows.getD (Int.toNat x2.int) []).getD 1 dflt) (T.l ((x1.rows.getD (Int.toNat x2.int) []).getD 2 dflt).rows)
  (fun y0=>cond (!y0.bool)
  (k0 (T.b false))
  (lH m n x0 x1 (T.i (IntKind.i64.wrap (x2.int+1))) k0 k1)))
  (.bad))
  (.bad))
  (k1 )
noncomputable def wR:Nat->T->T->(T->An)->An
 | 0,_,_,_=>.bad
 | m+1,x0,x1,k0 =>
  cond ((x0.rows.length:Int) != (x1.rows.length:Int))
  (k0 (T.b false))
  (lH m m (T.l x0.rows) (T.l x1.rows) (T.i 0)
  (fun y1=>k0 y1)
  (k0 (T.b true)))
noncomputable def DL:Fs:=⟨114,[.one (.dz tR []),.one (.dz tR [])],fun m vs k=>ap 2 (wR m) vs (lm 1 fun z=>k (bg ⟨[.one (RB)],[[none],[none]],[none,none]⟩ z))⟩
noncomputable def XO:List Ls:=[⟨[0,1,0,1,1],⟨[(0,.one (LD tR)),(1,.one (LD tR)),(5,.one (LI))],[([4000000],.gone)]⟩,fun m n vs k=>ap 3 (lH m n) vs (lm 1 fun z=>k .ret (aB ⟨[(4,.one (LB))],[]⟩ z)) (lm 0 fun z=>k (.exit 0) (aB ⟨[],[]⟩ z))⟩]
noncomputable def Lx:List Fs:=DL::OC
theorem XQ:aF CX av Lx/\aW CX av DL:=dP aaG.1 DL Tryz.f114 ⟨114,2,27,16⟩ XO (fun _ _=>rfl) (fun _ _ _=>by kernel_rfl) ⟨fun _ _ _=>rfl,trivial⟩ ⟨fun _ _ _ _ _ _=>by kernel_rfl,trivial⟩ (fun _ _ _ _ _=>by kernel_rfl)
noncomputable def Cm:Nat->T->T->T->T->(T->An)->An
 | 0,_,_,_,_,_=>.bad
 | m+1,x0,x1,x2,x3,k0 =>
  cond (!(x0.str.toList==x2.str.toList))
  (k0 (T.b false))
  (cond (!(x1.str.toList==x3.str.toList))
  (k0 (T.b false))
  (k0 (T.b true)))
noncomputable def DN:Fs:=⟨152,[.agg [AS,AS],.agg [AS,AS]],fun m vs k=>ap 4 (Cm m) vs (lm 1 fun z=>k (bg ⟨[.one (RB)],[[none,none],[none,none]],[none,none]⟩ z))⟩
noncomputable def LG:List Fs:=DN::Lx
theorem XR:aF CX av LG/\aW CX av DN:=dP XQ.1 DN Tryz.f152 ⟨152,2,15,16⟩ [] (fun _ _=>rfl) (fun _ _ _=>by kernel_rfl) trivial trivial (fun _ _ _ _ _=>by kernel_rfl)
noncomputable def jX (m:Nat):Nat->T->T->T->(T->An)->An->An
 | 0,_,_,_,_,_=>.bad
 | n+1,x0,x1,x2,k0,k1 =>
  cond (decide (x2.int<(x0.rows.length:Int)))
  (cond (decide ((0:Int)<=x2.int/\x2.int<(x0.rows.length:Int)))
  (cond (decide ((0:Int)<=x2.int/\x2.int<(x1.rows.length:Int)))
  (Cm m ((x0.rows.getD (Int.toNat x2.int) []).getD 0 dflt) ((x0.rows.getD (Int.toNat x2.int) []).getD 1 dflt) ((x1.rows.getD (Int.toNat x2.int) []).getD 0 dflt) ((x1.rows.getD (Int.toNat x2.int) []).getD 1 dflt)
  (fun y0=>cond (!y0.bool)
  (k0 (T.b false))
  (jX m n x0 x1 (T.i (IntKind.i64.wrap (x2.int+1))) k0 k1)))
  (.bad))
  (.bad))
  (k1 )
noncomputable def yV:Nat->T->T->(T->An)->An
 | 0,_,_,_=>.bad
 | m+1,x0,x1,k0 =>
  cond ((x0.rows.length:Int) != (x1.rows.length:Int))
  (k0 (T.b false))
  (jX m m (T.l x0.rows) (T.l x1.rows) (T.i 0)
  (fun y1=>k0 y1)
  (k0 (T.b true)))
noncomputable def Ay:Fs:=⟨115,[.one (.dz tP []),.one (.dz tP [])],fun m vs k=>ap 2 (yV m) vs (lm 1 fun z=>k (bg ⟨[.one (RB)],[[none],[none]],[none,none]⟩ z))⟩
noncomputable def Vp:List Ls:=[⟨[0,1,0,1,1],⟨[(0,.one (LD tP)),(1,.one (LD tP)),(5,.one (LI))],[([4000000],.gone)]⟩,fun m n vs k=>ap 3 (jX m n) vs (lm 1 fun z=>k .ret (aB ⟨[(4,.one (LB))],[]⟩ z)) (lm 0 fun z=>k (.exit 0) (aB ⟨[],[]⟩ z))⟩]
noncomputable def JI:List Fs:=Ay::LG
theorem Vq:aF CX av JI/\aW CX av Ay:=dP XR.1 Ay Tryz.f115 ⟨115,2,27,16⟩ Vp (fun _ _=>rfl) (fun _ _ _=>by kernel_rfl) ⟨fun _ _ _=>rfl,trivial⟩ ⟨fun _ _ _ _ _ _=>by kernel_rfl,trivial⟩ (fun _ _ _ _ _=>by kernel_rfl)
noncomputable def yX:Nat->T->T->T->T->T->T->T->T->T->T->(T->An)->An
 | 0,_,_,_,_,_,_,_,_,_,_,_=>.bad
 | m+1,x0,x1,x2,x3,x4,x5,x6,x7,x8,x9,k0 =>
  cond (x0.int != x5.int)
  (k0 (T.b false))
  (wR m (T.l x1.rows) (T.l x6.rows)
  (fun y0=>cond (!y0.bool)
  (k0 (T.b false))
  (cond (x2.int != x7.int)
  (k0 (T.b false))
  (yV m (T.l x3.rows) (T.l x8.rows)
  (fun y1=>cond (!y1.bool)
  (k0 (T.b false))
  (wR m (T.l x4.rows) (T.l x9.rows)
  (fun y2=>cond (!y2.bool)
  (k0 (T.b false))
  (k0 (T.b true)))))))))
noncomputable def Az:Fs:=⟨68,[.agg [AI,.dz tR [],AI,.dz tP [],.dz tR []],.agg [AI,.dz tR [],AI,.dz tP [],.dz tR []]],fun m vs k=>ap 10 (yX m) vs (lm 1 fun z=>k (bg ⟨[.one (RB)],[[none,none,none,none,none],[none,none,none,none,none]],[none,none]⟩ z))⟩
noncomputable def JJ:List Fs:=Az::JI
theorem Vr:aF CX av JJ/\aW CX av Az:=dP Vq.1 Az Tryz.f68 ⟨68,2,33,16⟩ [] (fun _ _=>rfl) (fun _ _ _=>by kernel_rfl) trivial trivial (fun _ _ _ _ _=>by kernel_rfl)
noncomputable def jk (m:Nat):Nat->T->T->T->(T->An)->An->An
 | 0,_,_,_,_,_=>.bad
 | n+1,x0,x1,x2,k0,k1 =>
  cond (decide (x2.int<(x0.rows.length:Int)))
  (cond (decide ((0:Int)<=x2.int/\x2.int<(x0.rows.length:Int)))
  (cond (decide ((0:Int)<=x2.int/\x2.int<(x1.rows.length:Int)))
  (yX m ((x0.rows.getD (Int.toNat x2.int) []).getD 0 dflt) (T.l ((x0.rows.getD (Int.toNat x2.int) []).getD 1 dflt).rows) ((x0.rows.getD (Int.toNat x2.int) []).getD 2 dflt) (T.l ((x0.rows.getD (Int.toNat x2.int) []).getD 3 dflt).rows) (T.l ((x0.rows.getD (Int.toNat x2.int) []).getD 4 dflt).rows) ((x1.rows.getD (Int.toNat x2.int) []).getD 0 dflt) (T.l ((x1.rows.getD (Int.toNat x2.int) []).getD 1 dflt).rows) ((x1.rows.getD (Int.toNat x2.int) []).getD 2 dflt) (T.l ((x1.rows.getD (Int.toNat x2.int) []).getD 3 dflt).rows) (T.l ((x1.rows.getD (Int.toNat x2.int) []).getD 4 dflt).rows)
  (fun y0=>cond (!y0.bool)
  (k0 (T.b false))
  (jk m n x0 x1 (T.i (IntKind.i64.wrap (x2.int+1))) k0 k1)))
  (.bad))
  (.bad))
  (k1 )
noncomputable def vX:Nat->T->T->(T->An)->An
 | 0,_,_,_=>.bad
 | m+1,x0,x1,k0 =>
  cond ((x0.rows.length:Int) != (x1.rows.length:Int))
  (k0 (T.b false))
  (jk m m (T.l x0.rows) (T.l x1.rows) (T.i 0)
  (fun y1=>k0 y1)
  (k0 (T.b true)))
noncomputable def xQ:Fs:=⟨32,[.one (.dz tS []),.one (.dz tS [])],fun m vs k=>ap 2 (vX m) vs (lm 1 fun z=>k (bg ⟨[.one (RB)],[[none],[none]],[none,none]⟩ z))⟩
noncomputable def R4:List Ls:=[⟨[0,1,0,1,1],⟨[(0,.one (LD tS)),(1,.one (LD tS)),(5,.one (LI))],[([4000000],.gone)]⟩,fun m n vs k=>ap 3 (jk m n) vs (lm 1 fun z=>k .ret (aB ⟨[(4,.one (LB))],[]⟩ z)) (lm 0 fun z=>k (.exit 0) (aB ⟨[],[]⟩ z))⟩]
noncomputable def Hf:List Fs:=xQ::JJ
theorem R5:aF CX av Hf/\aW CX av xQ:=dP Vr.1 xQ Tryz.f32 ⟨32,2,27,16⟩ R4 (fun _ _=>rfl) (fun _ _ _=>by kernel_rfl) ⟨fun _ _ _=>rfl,trivial⟩ ⟨fun _ _ _ _ _ _=>by kernel_rfl,trivial⟩ (fun _ _ _ _ _=>by kernel_rfl)
noncomputable def Cn:Nat->T->T->T->T->T->T->T->T->T->T->(T->An)->An
 | 0,_,_,_,_,_,_,_,_,_,_,_=>.bad
 | m+1,x0,x1,x2,x3,x4,x5,x6,x7,x8,x9,k0 =>
  cond (x0.int != x5.int)
  (k0 (T.b false))
  (cond (x1.int != x6.int)
  (k0 (T.b false))
  (cond (x2.int != x7.int)
  (k0 (T.b false))
  (rQ m (T.l x3.rows) (T.l x8.rows)
  (fun y0=>cond (!y0.bool)
  (k0 (T.b false))
  (cond (!(x4.bool==x9.bool))
  (k0 (T.b false))
  (k0 (T.b true)))))))
noncomputable def DR:Fs:=⟨69,[.agg [AI,AI,AI,.dz tO [],AB],.agg [AI,AI,AI,.dz tO [],AB]],fun m vs k=>ap 10 (Cn m) vs (lm 1 fun z=>k (bg ⟨[.one (RB)],[[none,none,none,none,none],[none,none,none,none,none]],[none,none]⟩ z))⟩
noncomputable def LH:List Fs:=DR::Hf
theorem XY:aF CX av LH/\aW CX av DR:=dP R5.1 DR Tryz.f69 ⟨69,2,31,16⟩ [] (fun _ _=>rfl) (fun _ _ _=>by kernel_rfl) trivial trivial (fun _ _ _ _ _=>by kernel_rfl)
noncomputable def jY (m:Nat):Nat->T->T->T->(T->An)->An->An
 | 0,_,_,_,_,_=>.bad
 | n+1,x0,x1,x2,k0,k1 =>
  cond (decide (x2.int<(x0.rows.length:Int)))
  (cond (decide ((0:Int)<=x2.int/\x2.int<(x0.rows.length:Int)))
  (cond (decide ((0:Int)<=x2.int/\x2.int<(x1.rows.length:Int)))
  (Cn m ((x0.rows.getD (Int.toNat x2.int) []).getD 0 dflt) ((x0.rows.getD (Int.toNat x2.int) []).getD 1 dflt) ((x0.rows.getD (Int.toNat x2.int) []).getD 2 dflt) (T.l ((x0.rows.getD (Int.toNat x2.int) []).getD 3 dflt).rows) ((x0.rows.getD (Int.toNat x2.int) []).getD 4 dflt) ((x1.rows.getD (Int.toNat x2.int) []).getD 0 dflt) ((x1.rows.getD (Int.toNat x2.int) []).getD 1 dflt) ((x1.rows.getD (Int.toNat x2.int) []).getD 2 dflt) (T.l ((x1.rows.getD (Int.toNat x2.int) []).getD 3 dflt).rows) ((x1.rows.getD (Int.toNat x2.int) []).getD 4 dflt)
  (fun y0=>cond (!y0.bool)
  (k0 (T.b false))
  (jY m n x0 x1 (T.i (IntKind.i64.wrap (x2.int+1))) k0 k1)))
  (.bad))
  (.bad))
  (k1 )
noncomputable def uw:Nat->T->T->(T->An)->An
 | 0,_,_,_=>.bad
 | m+1,x0,x1,k0 =>
  cond ((x0.rows.length:Int) != (x1.rows.length:Int))
  (k0 (T.b false))
  (jY m m (T.l x0.rows) (T.l x1.rows) (T.i 0)
  (fun y1=>k0 y1)
  (k0 (T.b true)))
noncomputable def AA:Fs:=⟨33,[.one (.dz tW []),.one (.dz tW [])],fun m vs k=>ap 2 (uw m) vs (lm 1 fun z=>k (bg ⟨[.one (RB)],[[none],[none]],[none,none]⟩ z))⟩
noncomputable def Vs:List Ls:=[⟨[0,1,0,1,1],⟨[(0,.one (LD tW)),(1,.one (LD tW)),(5,.one (LI))],[([4000000],.gone)]⟩,fun m n vs k=>ap 3 (jY m n) vs (lm 1 fun z=>k .ret (aB ⟨[(4,.one (LB))],[]⟩ z)) (lm 0 fun z=>k (.exit 0) (aB ⟨[],[]⟩ z))⟩]
noncomputable def JK:List Fs:=AA::LH
theorem Vt:aF CX av JK/\aW CX av AA:=dP XY.1 AA Tryz.f33 ⟨33,2,27,16⟩ Vs (fun _ _=>rfl) (fun _ _ _=>by kernel_rfl) ⟨fun _ _ _=>rfl,trivial⟩ ⟨fun _ _ _ _ _ _=>by kernel_rfl,trivial⟩ (fun _ _ _ _ _=>by kernel_rfl)
noncomputable def yY:Nat->T->T->T->T->(T->An)->An
 | 0,_,_,_,_,_=>.bad
 | m+1,x0,x1,x2,x3,k0 =>
  cond (x0.int != x2.int)
  (k0 (T.b false))
  (rQ m (T.l x1.rows) (T.l x3.rows)
  (fun y0=>cond (!y0.bool)
  (k0 (T.b false))
  (k0 (T.b true))))
noncomputable def AJ:Fs:=⟨70,[.agg [AI,.dz tO []],.agg [AI,.dz tO []]],fun m vs k=>ap 4 (yY m) vs (lm 1 fun z=>k (bg ⟨[.one (RB)],[[none,none],[none,none]],[none,none]⟩ z))⟩
noncomputable def JL:List Fs:=AJ::JK
theorem Vu:aF CX av JL/\aW CX av AJ:=dP Vt.1 AJ Tryz.f70 ⟨70,2,16,16⟩ [] (fun _ _=>rfl) (fun _ _ _=>by kernel_rfl) trivial trivial (fun _ _ _ _ _=>by kernel_rfl)
noncomputable def jl (m:Nat):Nat->T->T->T->(T->An)->An->An
 | 0,_,_,_,_,_=>.bad
 | n+1,x0,x1,x2,k0,k1 =>
  cond (decide (x2.int<(x0.rows.length:Int)))
  (cond (decide ((0:Int)<=x2.int/\x2.int<(x0.rows.length:Int)))
  (cond (decide ((0:Int)<=x2.int/\x2.int<(x1.rows.length:Int)))
  (yY m ((x0.rows.getD (Int.toNat x2.int) []).getD 0 dflt) (T.l ((x0.rows.getD (Int.toNat x2.int) []).getD 1 dflt).rows) ((x1.rows.getD (Int.toNat x2.int) []).getD 0 dflt) (T.l ((x1.rows.getD (Int.toNat x2.int) []).getD 1 dflt).rows)
  (fun y0=>cond (!y0.bool)
  (k0 (T.b false))
  (jl m n x0 x1 (T.i (IntKind.i64.wrap (x2.int+1))) k0 k1)))
  (.bad))
  (.bad))
  (k1 )
noncomputable def vY:Nat->T->T->(T->An)->An
 | 0,_,_,_=>.bad
 | m+1,x0,x1,k0 =>
  cond ((x0.rows.length:Int) != (x1.rows.length:Int))
  (k0 (T.b false))
  (jl m m (T.l x0.rows) (T.l x1.rows) (T.i 0)
  (fun y1=>k0 y1)
  (k0 (T.b true)))
noncomputable def xR:Fs:=⟨34,[.one (.dz tB []),.one (.dz tB [])],fun m vs k=>ap 2 (vY m) vs (lm 1 fun z=>k (bg ⟨[.one (RB)],[[none],[none]],[none,none]⟩ z))⟩
noncomputable def R6:List Ls:=[⟨[0,1,0,1,1],⟨[(0,.one (LD tB)),(1,.one (LD tB)),(5,.one (LI))],[([4000000],.gone)]⟩,fun m n vs k=>ap 3 (jl m n) vs (lm 1 fun z=>k .ret (aB ⟨[(4,.one (LB))],[]⟩ z)) (lm 0 fun z=>k (.exit 0) (aB ⟨[],[]⟩ z))⟩]
noncomputable def Hg:List Fs:=xR::JL
theorem R7:aF CX av Hg/\aW CX av xR:=dP Vu.1 xR Tryz.f34 ⟨34,2,27,16⟩ R6 (fun _ _=>rfl) (fun _ _ _=>by kernel_rfl) ⟨fun _ _ _=>rfl,trivial⟩ ⟨fun _ _ _ _ _ _=>by kernel_rfl,trivial⟩ (fun _ _ _ _ _=>by kernel_rfl)
noncomputable def yZ:Nat->T->T->T->T->T->T->T->T->T->T->T->T->T->T->T->T->T->T->T->T->(T->An)->An
 | 0,_,_,_,_,_,_,_,_,_,_,_,_,_,_,_,_,_,_,_,_,_=>.bad
 | m+1,x0,x1,x2,x3,x4,x5,x6,x7,x8,x9,x10,gy,o9,pU,PO,x15,x16,x17,x18,x19,k0 =>
  yU m x0 x1 x2 (T.l x3.rows) (T.l x4.rows) x5 x10 gy o9 (T.l pU.rows) (T.l PO.rows) x15
  (fun y0=>cond (!y0.bool)
  (k0 (T.b false))
  (vX m (T.l x6.rows) (T.l x16.rows)
  (fun y1=>cond (!y1.bool)
  (k0 (T.b false))
  (uw m (T.l x7.rows) (T.l x17.rows)
  (fun y2=>cond (!y2.bool)
  (k0 (T.b false))
  (uw m (T.l x8.rows) (T.l x18.rows)
  (fun y3=>cond (!y3.bool)
  (k0 (T.b false))
  (vY m (T.l x9.rows) (T.l x19.rows)
  (fun y4=>cond (!y4.bool)
  (k0 (T.b false))
  (k0 (T.b true)))))))))))
noncomputable def AO:Fs:=⟨9,[.agg [AI,AI,AI,.dz tJ [],.dz tC [],AI,.dz tS [],.dz tW [],.dz tW [],.dz tB []],.agg [AI,AI,AI,.dz tJ [],.dz tC [],AI,.dz tS [],.dz tW [],.dz tW [],.dz tB []]],fun m vs k=>ap 20 (yZ m) vs (lm 1 fun z=>k (bg ⟨[.one (RB)],[[none,none,none,none,none,none,none,none,none,none],[none,none,none,none,none,none,none,none,none,none]],[none,none]⟩ z))⟩
noncomputable def JM:List Fs:=AO::Hg
theorem Vv:aF CX av JM/\aW CX av AO:=dP R7.1 AO Tryz.f9 ⟨9,2,35,16⟩ [] (fun _ _=>rfl) (fun _ _ _=>by kernel_rfl) trivial trivial (fun _ _ _ _ _=>by kernel_rfl)
noncomputable def vH:Nat->T->T->T->T->T->T->T->T->T->T->(T->An)->An
 | 0,_,_,_,_,_,_,_,_,_,_,_=>.bad
 | m+1,x0,x1,x2,x3,x4,x5,x6,x7,x8,x9,k0 =>
  yE m x0 x1 x2 (T.l x3.rows) (T.l x4.rows) x5 (T.l x6.rows) (T.l x7.rows) (T.l x8.rows) (T.l x9.rows) (T.i 1048576)
  (fun y0=>cond (decide (y0.int<0))
  (k0 (T.b true))
  (qx m x0 x1 x2 (T.l x3.rows) (T.l x4.rows) x5 (T.l x6.rows) (T.l x7.rows) (T.l x8.rows) (T.l x9.rows)
  (fun y1 y2 y3 y4 y5 y6 y7 y8 y9 Ku=>Kl m y1 y2 y3 (T.l y4.rows) (T.l y5.rows) y6 (T.l y7.rows) (T.l y8.rows) (T.l y9.rows) (T.l Ku.rows)
  (fun Kj=>qx m x0 x1 x2 (T.l x3.rows) (T.l x4.rows) x5 (T.l x6.rows) (T.l x7.rows) (T.l x8.rows) (T.l x9.rows)
  (fun DX y13 Je O3 K9 MN Hy y19 y20 y21=>Kn m DX y13 Je (T.l O3.rows) (T.l K9.rows) MN (T.l Hy.rows) (T.l y19.rows) (T.l y20.rows) (T.l y21.rows)
  (fun y22=>cond (y22.int != Kj.int)
  (k0 (T.b false))
  (qx m x0 x1 x2 (T.l x3.rows) (T.l x4.rows) x5 (T.l x6.rows) (T.l x7.rows) (T.l x8.rows) (T.l x9.rows)
  (fun y23 y24 y25 y26 y27 y28 y29 y30 y31 y32=>yZ m DX y13 Je (T.l O3.rows) (T.l K9.rows) MN (T.l Hy.rows) (T.l y19.rows) (T.l y20.rows) (T.l y21.rows) y23 y24 y25 (T.l y26.rows) (T.l y27.rows) y28 (T.l y29.rows) (T.l y30.rows) (T.l y31.rows) (T.l y32.rows)
  (fun y33=>cond (!y33.bool)
  (k0 (T.b false))
  (k0 (T.b true)))))))))))
noncomputable def rT:Fs:=⟨3,[.agg [AI,AI,AI,.fz tJ [],.fz tC [],AI,.fz tS [],.fz tW [],.fz tW [],.fz tB []]],fun m vs k=>ap 10 (vH m) vs (lm 1 fun z=>k (bg ⟨[.one (RB)],[[none,none,none,none,none,none,none,none,none,none]],[none]⟩ z))⟩
noncomputable def MC:List Fs:=rT::JM
theorem ME:aF CX av MC/\aW CX av rT:=dP Vv.1 rT Tryz.f3 ⟨3,1,27,4⟩ [] (fun _ _=>rfl) (fun _ _ _=>by kernel_rfl) trivial trivial (fun _ _ _ _ _=>by kernel_rfl)
end Go.Proofs.YtpmbniddgaecpaaGreat

