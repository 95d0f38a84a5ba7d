/- A part of the proof: texts QW0: see the last part's opening words. -/
import Derived.Test.YtpchnmbcbcfhjaaGreatN
import Derived.Test.YtpchnmbcbcfhjaaGreatRows
import Derived.JoinedCond
import Derived.OpenShut
set_option linter.unusedVariables false
set_option linter.unusedSimpArgs false
set_option linter.unnecessarySimpa false
namespace Go.Proofs.YtpchnmbcbcfhjaaGreat
open Go Go.E Go.Proofs Go.RowKit
mutual
theorem OP {H:Type} : ∀ d:DataW H,Rows.uptoBulk d=lU d
 | .lit l=>by cases l <;> simp [Rows.uptoBulk,lU]
 | .nil=>by simp [Rows.uptoBulk,lU]
 | .ptr d=>by simp [Rows.uptoBulk,lU,OP d]
 | .slice elems spare=>by simp [Rows.uptoBulk,lU,Am elems,Am spare]
 | .agg parts=>by simp [Rows.uptoBulk,lU,Am parts]
 | .iface t d=>by simp [Rows.uptoBulk,lU,OP d]
 | .map entries=>by simp [Rows.uptoBulk,lU,Gd entries]
 | .held h=>by simp [Rows.uptoBulk,lU]
theorem Am {H:Type} : ∀ ds:List (DataW H),Rows.uptoBulkAll ds=dS ds
 | []=>by simp [Rows.uptoBulkAll,dS]
 | d::r=>by simp [Rows.uptoBulkAll,dS,OP d,Am r]
theorem Gd {H:Type} : ∀ ds:List (Lit×DataW H),Rows.uptoBulkEntries ds=xk ds
 | []=>by simp [Rows.uptoBulkEntries,xk]
 | x::r=>by simp [Rows.uptoBulkEntries,xk,XI x,Gd r]
theorem XI {H:Type} : ∀ x:Lit×DataW H,Rows.uptoBulkEntry x=Lr x
 | (l,d)=>by cases l <;> simp [Rows.uptoBulkEntry,Lr,OP d]
end
theorem ajJ {H:Type} {ds:List (DataW H)} (h:Rows.uptoSmall H ds=true):dS ds<=1048576:=by
 rw [<-Am]
 exact of_decide_eq_true h
theorem laid:laidOutB Tryz.prog=true:=by kernel_rfl
theorem aas:fE CX Tryz.prog:=alQ (tab:=agx) (fns:=YK) rfl rfl (by kernel_rfl) amb (by kernel_rfl)
theorem ajK:acO Tryz.prog 92 2 32 83 where
 shift:=aeo (vo:=0)
 room:=WQ
 alY:=WR
 grow:=agv
theorem ais:WL Tryz.prog 131 5:=fun h1 h2 h3 h4 h5 h6 h7 h8=>aen h1 h2 h3 h4 h5 h6 h7 h8
theorem ajL:WL Tryz.prog 184 3:=fun h1 h2 h3 h4 h5 h6 h7 h8=>agt h1 h2 h3 h4 h5 h6 h7 h8
theorem ait:aa7 CX Tryz.prog aD:=fun f g args h hne=>by
 unfold aD at h
 cases h0:Nat.beq f 40 with
 | true =>
  rw [h0] at h; cases h
  have:=Nat.eq_of_beq_eq_true h0
  subst this
  exact Yt Tryz.agw hne
 | false =>
 rw [h0] at h
 cases h1:Nat.beq f 42 with
 | true =>
  rw [h1] at h; cases h
  have:=Nat.eq_of_beq_eq_true h1
  subst this
  exact Qj Tryz.YI hne
 | false =>
 rw [h1] at h
 cases h2:Nat.beq f 47 with
 | true =>
  rw [h2] at h; cases h
  have:=Nat.eq_of_beq_eq_true h2
  subst this
  obtain ⟨te,hte,hl⟩ : ∃ te:TI,CX.ty (Tryz.Cg.t 23)=some te/\te.aR=[.sc (.str),.sc (.str)]:=⟨_,rfl,rfl⟩
  have:=@yD CX Tryz.prog Tryz.Cg aas Tryz.Gs te hte (by rw [hl]; simp) args
  rw [hl] at this
  exact this hne
 | false =>
 rw [h2] at h
 cases h3:Nat.beq f 49 with
 | true =>
  rw [h3] at h; cases h
  have:=Nat.eq_of_beq_eq_true h3
  subst this
  exact Tt hne
 | false =>
 rw [h3] at h
 cases h4:Nat.beq f 51 with
 | true =>
  rw [h4] at h; cases h
  have:=Nat.eq_of_beq_eq_true h4
  subst this
  exact Qu hne
 | false =>
 rw [h4] at h
 cases h5:Nat.beq f 76 with
 | true =>
  rw [h5] at h; cases h
  have:=Nat.eq_of_beq_eq_true h5
  subst this
  obtain ⟨te,hte,hl⟩ : ∃ te:TI,CX.ty (Tryz.xU.t 23)=some te/\te.aR=[.sc (.int .i64),.sc (.str),.sc (.str)]:=⟨_,rfl,rfl⟩
  have:=@yD CX Tryz.prog Tryz.xU aas Tryz.YJ te hte (by rw [hl]; simp) args
  rw [hl] at this
  exact this hne
 | false =>
 rw [h5] at h
 cases h6:Nat.beq f 92 with
 | true =>
  rw [h6] at h; cases h
  have:=Nat.eq_of_beq_eq_true h6
  subst this
  exact Tp (by decide) (by decide) ajK hne
 | false =>
 rw [h6] at h
 cases h7:Nat.beq f 118 with
 | true =>
  rw [h7] at h; cases h
  have:=Nat.eq_of_beq_eq_true h7
  subst this
  obtain ⟨te,hte,hl⟩ : ∃ te:TI,CX.ty (Tryz.vU.t 23)=some te/\te.aR=[.sc (.int .i64)]:=⟨_,rfl,rfl⟩
  have:=@yD CX Tryz.prog Tryz.vU aas Tryz.WT te hte (by rw [hl]; simp) args
  rw [hl] at this
  exact this hne
 | false =>
 rw [h7] at h
 cases h8:Nat.beq f 119 with
 | true =>
  rw [h8] at h; cases h
  have:=Nat.eq_of_beq_eq_true h8
  subst this
  obtain ⟨te,hte,hl⟩ : ∃ te:TI,CX.ty (Tryz.sw.t 23)=some te/\te.aR=[.sc (.int .i64),.sc (.bool)]:=⟨_,rfl,rfl⟩
  have:=@yD CX Tryz.prog Tryz.sw aas Tryz.NA te hte (by rw [hl]; simp) args
  rw [hl] at this
  exact this hne
 | false =>
 rw [h8] at h
 cases h9:Nat.beq f 131 with
 | true =>
  rw [h9] at h; cases h
  have:=Nat.eq_of_beq_eq_true h9
  subst this
  exact Ht ais hne
 | false =>
 rw [h9] at h
 cases h10:Nat.beq f 184 with
 | true =>
  rw [h10] at h; cases h
  have:=Nat.eq_of_beq_eq_true h10
  subst this
  exact Ht ajL hne
 | false=>rw [h10] at h; cases h
theorem own:ownKnob Tryz.prog.godebug=none:=by kernel_rfl
end Go.Proofs.YtpchnmbcbcfhjaaGreat

