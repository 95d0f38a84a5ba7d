/- A part of the proof: texts WT: see the last part's opening words. -/
import Derived.Test.YtjjonejgbdbnjaaGreatK
import Derived.Test.YtjjonejgbdbnjaaGreatRows
import Derived.JoinedCond
import Derived.OpenShut
set_option linter.unusedVariables false
set_option linter.unusedSimpArgs false
set_option linter.unnecessarySimpa false
namespace Go.Proofs
open Go Go.Shelf
def Tryz.aaH:Go.Shelf.Ren:=⟨fun | 189=>70 | 125=>106 | 257=>105 | 128=>139 | 129=>140 | 294=>130 | 295=>131 | 296=>132 | 297=>133 | 298=>134 | 299=>135 | 216=>136 | 300=>137 | 301=>138 | 328=>165 | 329=>166 | 330=>167 | 331=>168 | 332=>169 | 215=>170 | 343=>181 | n=>n,fun | 28=>66 | 3=>3 | 46=>130 | 0=>0 | 51=>157 | 53=>169 | 4=>4 | 183=>160 | 182=>159 | 131=>165 | 5=>5 | 9=>9 | 218=>186 | 222=>190 | 228=>198 | 229=>199 | n=>n,fun | n=>n⟩
theorem Tryz.aiV:Go.Proofs.Lays.n189 Tryz.prog Tryz.aaH where
 mixed:=by kernel_rfl
 f125:=Tryz.func106.trans (congrArg some (by kernel_rfl))
 f128:=Tryz.func139.trans (congrArg some (by kernel_rfl))
 f129:=Tryz.func140.trans (congrArg some (by kernel_rfl))
 f189:=Tryz.func70.trans (congrArg some (by kernel_rfl))
 f215:=Tryz.func170.trans (congrArg some (by kernel_rfl))
 f216:=Tryz.func136.trans (congrArg some (by kernel_rfl))
 f257:=Tryz.func105.trans (congrArg some (by kernel_rfl))
 f294:=Tryz.func130.trans (congrArg some (by kernel_rfl))
 f295:=Tryz.func131.trans (congrArg some (by kernel_rfl))
 f296:=Tryz.func132.trans (congrArg some (by kernel_rfl))
 f297:=Tryz.func133.trans (congrArg some (by kernel_rfl))
 f298:=Tryz.func134.trans (congrArg some (by kernel_rfl))
 f299:=Tryz.func135.trans (congrArg some (by kernel_rfl))
 f300:=Tryz.func137.trans (congrArg some (by kernel_rfl))
 f301:=Tryz.func138.trans (congrArg some (by kernel_rfl))
 f328:=Tryz.func165.trans (congrArg some (by kernel_rfl))
 f329:=Tryz.func166.trans (congrArg some (by kernel_rfl))
 f330:=Tryz.func167.trans (congrArg some (by kernel_rfl))
 f331:=Tryz.func168.trans (congrArg some (by kernel_rfl))
 f332:=Tryz.func169.trans (congrArg some (by kernel_rfl))
 f343:=Tryz.func181.trans (congrArg some (by kernel_rfl))
 t0:=Tryz.underlying0
 a0:=Tryz.isAgg0
 z0:=Tryz.sizeOf0
 v0:=Tryz.zeroValue0
 t3:=Tryz.underlying3
 a3:=Tryz.isAgg3
 z3:=Tryz.sizeOf3
 v3:=Tryz.zeroValue3
 t4:=Tryz.underlying4
 a4:=Tryz.isAgg4
 z4:=Tryz.sizeOf4
 v4:=Tryz.zeroValue4
 t5:=Tryz.underlying5
 a5:=Tryz.isAgg5
 z5:=Tryz.sizeOf5
 v5:=Tryz.zeroValue5
 t9:=Tryz.underlying9
 a9:=Tryz.isAgg9
 z9:=Tryz.sizeOf9
 v9:=Tryz.zeroValue9
 t28:=Tryz.underlying66
 a28:=Tryz.isAgg66
 z28:=Tryz.sizeOf66
 v28:=Tryz.zeroValue66
 t46:=Tryz.underlying130
 a46:=Tryz.isAgg130
 z46:=Tryz.sizeOf130
 v46:=Tryz.zeroValue130
 t51:=Tryz.underlying157
 a51:=Tryz.isAgg157
 z51:=Tryz.sizeOf157
 v51:=Tryz.zeroValue157
 t53:=Tryz.underlying169
 a53:=Tryz.isAgg169
 z53:=Tryz.sizeOf169
 v53:=Tryz.zeroValue169
 t131:=Tryz.underlying165
 a131:=Tryz.isAgg165
 z131:=Tryz.sizeOf165
 v131:=Tryz.zeroValue165
 t182:=Tryz.underlying159
 a182:=Tryz.isAgg159
 z182:=Tryz.sizeOf159
 v182:=Tryz.zeroValue159
 t183:=Tryz.underlying160
 a183:=Tryz.isAgg160
 z183:=Tryz.sizeOf160
 v183:=Tryz.zeroValue160
 t218:=Tryz.underlying186
 a218:=Tryz.isAgg186
 z218:=Tryz.sizeOf186
 v218:=Tryz.zeroValue186
 t222:=Tryz.underlying190
 a222:=Tryz.isAgg190
 z222:=Tryz.sizeOf190
 v222:=Tryz.zeroValue190
 t228:=Tryz.underlying198
 a228:=Tryz.isAgg198
 z228:=Tryz.sizeOf198
 v228:=Tryz.zeroValue198
 t229:=Tryz.underlying199
 a229:=Tryz.isAgg199
 z229:=Tryz.sizeOf199
 v229:=Tryz.zeroValue199
def Tryz.RU:Go.Shelf.Ren:=⟨fun | 20=>72 | n=>n,fun | 22=>66 | 3=>3 | 4=>4 | 0=>0 | n=>n,fun | n=>n⟩
theorem Tryz.ac0:Go.Proofs.Lays2.n20 Tryz.prog Tryz.RU where
 mixed:=by kernel_rfl
 f20:=Tryz.func72.trans (congrArg some (by kernel_rfl))
 t0:=Tryz.underlying0
 a0:=Tryz.isAgg0
 z0:=Tryz.sizeOf0
 v0:=Tryz.zeroValue0
 t3:=Tryz.underlying3
 a3:=Tryz.isAgg3
 z3:=Tryz.sizeOf3
 v3:=Tryz.zeroValue3
 t4:=Tryz.underlying4
 a4:=Tryz.isAgg4
 z4:=Tryz.sizeOf4
 v4:=Tryz.zeroValue4
 t22:=Tryz.underlying66
 a22:=Tryz.isAgg66
 z22:=Tryz.sizeOf66
 v22:=Tryz.zeroValue66
 i3:=by kernel_rfl
def Tryz.yF:Go.Shelf.Ren:=⟨fun | 41=>144 | n=>n,fun | 22=>53 | 23=>60 | n=>n,fun | n=>n⟩
theorem Tryz.ac1:SlLaysE0.n41 Tryz.prog Tryz.yF where
 mixed:=by kernel_rfl
 f41:=⟨Tryz.f144.name,by kernel_rfl,Tryz.func144.trans (congrArg some (by kernel_rfl))⟩
 t4:=Tryz.underlying4
 a4:=Tryz.isAgg4
 z4:=Tryz.sizeOf4
 v4:=Tryz.zeroValue4
 t22:=Tryz.underlying53
 a22:=Tryz.isAgg53
 z22:=Tryz.sizeOf53
 v22:=Tryz.zeroValue53
end Go.Proofs
namespace Go.Proofs.YtjjonejgbdbnjaaGreat
open Go Go.E Go.Proofs Go.RowKit
mutual
theorem Sv {H:Type} : ∀ d:DataW H,Rows.uptoBulk d=lD d
 | .lit l=>by cases l <;> simp [Rows.uptoBulk,lD]
 | .nil=>by simp [Rows.uptoBulk,lD]
 | .ptr d=>by simp [Rows.uptoBulk,lD,Sv d]
 | .slice elems spare=>by simp [Rows.uptoBulk,lD,Bh elems,Bh spare]
 | .agg parts=>by simp [Rows.uptoBulk,lD,Bh parts]
 | .iface t d=>by simp [Rows.uptoBulk,lD,Sv d]
 | .map entries=>by simp [Rows.uptoBulk,lD,J3 entries]
 | .held h=>by simp [Rows.uptoBulk,lD]
theorem Bh {H:Type} : ∀ ds:List (DataW H),Rows.uptoBulkAll ds=dI ds
 | []=>by simp [Rows.uptoBulkAll,dI]
 | d::r=>by simp [Rows.uptoBulkAll,dI,Sv d,Bh r]
theorem J3 {H:Type} : ∀ ds:List (Lit×DataW H),Rows.uptoBulkEntries ds=wZ ds
 | []=>by simp [Rows.uptoBulkEntries,wZ]
 | x::r=>by simp [Rows.uptoBulkEntries,wZ,aaI x,J3 r]
theorem aaI {H:Type} : ∀ x:Lit×DataW H,Rows.uptoBulkEntry x=Ph x
 | (l,d)=>by cases l <;> simp [Rows.uptoBulkEntry,Ph,Sv d]
end
theorem ajY {H:Type} {ds:List (DataW H)} (h:Rows.uptoSmall H ds=true):dI ds<=1048576:=by
 rw [<-Bh]
 exact of_decide_eq_true h
theorem laid:laidOutB Tryz.prog=true:=by kernel_rfl
theorem aiW:eF CX Tryz.prog:=alm (tab:=ahK) (fns:=abG) rfl rfl (by kernel_rfl) alI (by kernel_rfl)
theorem ajZ:aeH Tryz.prog 112 2 32 103 where
 shift:=afK (vo:=0)
 room:=ZH
 alx:=ZI
 grow:=ahJ
theorem aj0:aeO Tryz.prog 145 3:=fun h1 h2 h3 h4 h5 h6 h7 h8=>ahF h1 h2 h3 h4 h5 h6 h7 h8
theorem aiX:adE CX Tryz.prog au:=fun f g args h hne=>by
 unfold au at h
 cases h0:Nat.beq f 9 with
 | true =>
  rw [h0] at h; cases h
  have:=Nat.eq_of_beq_eq_true h0
  subst this
  exact UJ hne
 | false =>
 rw [h0] at h
 cases h1:Nat.beq f 70 with
 | true =>
  rw [h1] at h; cases h
  have:=Nat.eq_of_beq_eq_true h1
  subst this
  exact abq Tryz.aiV hne
 | false =>
 rw [h1] at h
 cases h2:Nat.beq f 72 with
 | true =>
  rw [h2] at h; cases h
  have:=Nat.eq_of_beq_eq_true h2
  subst this
  exact Uw Tryz.ac0 hne
 | false =>
 rw [h2] at h
 cases h3:Nat.beq f 80 with
 | true =>
  rw [h3] at h; cases h
  have:=Nat.eq_of_beq_eq_true h3
  subst this
  obtain ⟨te,hte,hl⟩ : ∃ te:TI,CX.ty (Tryz.C9.t 23)=some te/\te.aR=[.sc (.str),.sc (.str)]:=⟨_,rfl,rfl⟩
  have:=@Nz CX Tryz.prog Tryz.C9 aiW Tryz.Kg te hte (by rw [hl]; simp) args
  rw [hl] at this
  exact this hne
 | false =>
 rw [h3] at h
 cases h4:Nat.beq f 82 with
 | true =>
  rw [h4] at h; cases h
  have:=Nat.eq_of_beq_eq_true h4
  subst this
  exact WJ hne
 | false =>
 rw [h4] at h
 cases h5:Nat.beq f 112 with
 | true =>
  rw [h5] at h; cases h
  have:=Nat.eq_of_beq_eq_true h5
  subst this
  exact WG (by decide) (by decide) ajZ hne
 | false =>
 rw [h5] at h
 cases h6:Nat.beq f 144 with
 | true =>
  rw [h6] at h; cases h
  have:=Nat.eq_of_beq_eq_true h6
  subst this
  obtain ⟨te,hte,hl⟩ : ∃ te:TI,CX.ty (Tryz.yF.t 23)=some te/\te.aR=[.sc (.int .i64),.sc (.str),.sc (.str)]:=⟨_,rfl,rfl⟩
  have:=@Nz CX Tryz.prog Tryz.yF aiW Tryz.ac1 te hte (by rw [hl]; simp) args
  rw [hl] at this
  exact this hne
 | false =>
 rw [h6] at h
 cases h7:Nat.beq f 145 with
 | true =>
  rw [h7] at h; cases h
  have:=Nat.eq_of_beq_eq_true h7
  subst this
  exact WH aj0 hne
 | false=>rw [h7] at h; cases h
theorem own:ownKnob Tryz.prog.godebug=none:=by kernel_rfl
end Go.Proofs.YtjjonejgbdbnjaaGreat

