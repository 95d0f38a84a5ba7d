/- A part of the proof: texts VW0: see the last part's opening words. -/
import Derived.Test.YtpchnmbcbcfhjaaGreatN
import Derived.Test.YtpchnmbcbcfhjaaGreatRows
import Derived.JoinedCond
import Derived.OpenShut
set_option linter.unusedVariables false
set_option linter.unusedSimpArgs false
set_option linter.unnecessarySimpa false
namespace Go.Proofs.YtpchnmbcbcfhjaaGreat
open Go Go.E Go.Proofs Go.RowKit
mutual
theorem MJ {H:Type} : ∀ d:DataW H,Rows.uptoBulk d=kG d
 | .lit l=>by cases l <;> simp [Rows.uptoBulk,kG]
 | .nil=>by simp [Rows.uptoBulk,kG]
 | .ptr d=>by simp [Rows.uptoBulk,kG,MJ d]
 | .slice elems spare=>by simp [Rows.uptoBulk,kG,yS elems,yS spare]
 | .agg parts=>by simp [Rows.uptoBulk,kG,yS parts]
 | .iface t d=>by simp [Rows.uptoBulk,kG,MJ d]
 | .map entries=>by simp [Rows.uptoBulk,kG,Ew entries]
 | .held h=>by simp [Rows.uptoBulk,kG]
theorem yS {H:Type} : ∀ ds:List (DataW H),Rows.uptoBulkAll ds=dO ds
 | []=>by simp [Rows.uptoBulkAll,dO]
 | d::r=>by simp [Rows.uptoBulkAll,dO,MJ d,yS r]
theorem Ew {H:Type} : ∀ ds:List (Lit×DataW H),Rows.uptoBulkEntries ds=vI ds
 | []=>by simp [Rows.uptoBulkEntries,vI]
 | x::r=>by simp [Rows.uptoBulkEntries,vI,UC x,Ew r]
theorem UC {H:Type} : ∀ x:Lit×DataW H,Rows.uptoBulkEntry x=Jz x
 | (l,d)=>by cases l <;> simp [Rows.uptoBulkEntry,Jz,MJ d]
end
theorem ae3 {H:Type} {ds:List (DataW H)} (h:Rows.uptoSmall H ds=true):dO ds<=1048576:=by
 rw [<-yS]
 exact of_decide_eq_true h
theorem laid:laidOutB Tryz.prog=true:=by kernel_rfl
theorem XD:eT CX Tryz.prog:=af9 (tab:=acT) (fns:=VZ) rfl rfl (by kernel_rfl) agx (by kernel_rfl)
theorem ae4:Zz Tryz.prog 92 2 32 83 where
 shift:=aaM (vo:=0)
 room:=Tz
 agj:=TA
 grow:=acR
theorem adX:Tv Tryz.prog 131 5:=fun h1 h2 h3 h4 h5 h6 h7 h8=>aaL h1 h2 h3 h4 h5 h6 h7 h8
theorem ae5:Tv Tryz.prog 184 3:=fun h1 h2 h3 h4 h5 h6 h7 h8=>acP h1 h2 h3 h4 h5 h6 h7 h8
theorem adY:Yj CX Tryz.prog aD:=fun f g args h hne=>by
 unfold aD at h
 cases h0:Nat.beq f 40 with
 | true =>
  rw [h0] at h; cases h
  have:=Nat.eq_of_beq_eq_true h0
  subst this
  exact Vo Tryz.acS hne
 | false =>
 rw [h0] at h
 cases h1:Nat.beq f 42 with
 | true =>
  rw [h1] at h; cases h
  have:=Nat.eq_of_beq_eq_true h1
  subst this
  exact Oa Tryz.VL hne
 | false =>
 rw [h1] at h
 cases h2:Nat.beq f 47 with
 | true =>
  rw [h2] at h; cases h
  have:=Nat.eq_of_beq_eq_true h2
  subst this
  obtain ⟨te,hte,hl⟩ : ∃ te:TI,CX.ty (Tryz.Ak.t 23)=some te/\te.aP=[.sc (.str),.sc (.str)]:=⟨_,rfl,rfl⟩
  have:=@wR CX Tryz.prog Tryz.Ak XD Tryz.EL te hte (by rw [hl]; simp) args
  rw [hl] at this
  exact this hne
 | false =>
 rw [h2] at h
 cases h3:Nat.beq f 49 with
 | true =>
  rw [h3] at h; cases h
  have:=Nat.eq_of_beq_eq_true h3
  subst this
  exact Qd hne
 | false =>
 rw [h3] at h
 cases h4:Nat.beq f 51 with
 | true =>
  rw [h4] at h; cases h
  have:=Nat.eq_of_beq_eq_true h4
  subst this
  exact Om hne
 | false =>
 rw [h4] at h
 cases h5:Nat.beq f 76 with
 | true =>
  rw [h5] at h; cases h
  have:=Nat.eq_of_beq_eq_true h5
  subst this
  obtain ⟨te,hte,hl⟩ : ∃ te:TI,CX.ty (Tryz.wm.t 23)=some te/\te.aP=[.sc (.int .i64),.sc (.str),.sc (.str)]:=⟨_,rfl,rfl⟩
  have:=@wR CX Tryz.prog Tryz.wm XD Tryz.VO te hte (by rw [hl]; simp) args
  rw [hl] at this
  exact this hne
 | false =>
 rw [h5] at h
 cases h6:Nat.beq f 92 with
 | true =>
  rw [h6] at h; cases h
  have:=Nat.eq_of_beq_eq_true h6
  subst this
  exact Qb (by decide) (by decide) ae4 hne
 | false =>
 rw [h6] at h
 cases h7:Nat.beq f 118 with
 | true =>
  rw [h7] at h; cases h
  have:=Nat.eq_of_beq_eq_true h7
  subst this
  obtain ⟨te,hte,hl⟩ : ∃ te:TI,CX.ty (Tryz.uz.t 23)=some te/\te.aP=[.sc (.int .i64)]:=⟨_,rfl,rfl⟩
  have:=@wR CX Tryz.prog Tryz.uz XD Tryz.TD te hte (by rw [hl]; simp) args
  rw [hl] at this
  exact this hne
 | false =>
 rw [h7] at h
 cases h8:Nat.beq f 119 with
 | true =>
  rw [h8] at h; cases h
  have:=Nat.eq_of_beq_eq_true h8
  subst this
  obtain ⟨te,hte,hl⟩ : ∃ te:TI,CX.ty (Tryz.qo.t 23)=some te/\te.aP=[.sc (.int .i64),.sc (.bool)]:=⟨_,rfl,rfl⟩
  have:=@wR CX Tryz.prog Tryz.qo XD Tryz.Li te hte (by rw [hl]; simp) args
  rw [hl] at this
  exact this hne
 | false =>
 rw [h8] at h
 cases h9:Nat.beq f 131 with
 | true =>
  rw [h9] at h; cases h
  have:=Nat.eq_of_beq_eq_true h9
  subst this
  exact FH adX hne
 | false =>
 rw [h9] at h
 cases h10:Nat.beq f 184 with
 | true =>
  rw [h10] at h; cases h
  have:=Nat.eq_of_beq_eq_true h10
  subst this
  exact FH ae5 hne
 | false=>rw [h10] at h; cases h
theorem own:ownKnob Tryz.prog.godebug=none:=by kernel_rfl
end Go.Proofs.YtpchnmbcbcfhjaaGreat

