/- A part of the proof: texts XW0: see the last part's opening words. -/
import Derived.Test.YtpmbniddgaecpaaGreatL
import Derived.Test.YtpmbniddgaecpaaGreatRows
import Derived.JoinedCond
import Derived.OpenShut
set_option linter.unusedVariables false
set_option linter.unusedSimpArgs false
set_option linter.unnecessarySimpa false
namespace Go.Proofs.YtpmbniddgaecpaaGreat
open Go Go.E Go.Proofs Go.RowKit
mutual
theorem SH {H:Type} : ∀ d:DataW H,Rows.uptoBulk d=kL d
 | .lit l=>by cases l <;> simp [Rows.uptoBulk,kL]
 | .nil=>by simp [Rows.uptoBulk,kL]
 | .ptr d=>by simp [Rows.uptoBulk,kL,SH d]
 | .slice elems spare=>by simp [Rows.uptoBulk,kL,AV elems,AV spare]
 | .agg parts=>by simp [Rows.uptoBulk,kL,AV parts]
 | .iface t d=>by simp [Rows.uptoBulk,kL,SH d]
 | .map entries=>by simp [Rows.uptoBulk,kL,J2 entries]
 | .held h=>by simp [Rows.uptoBulk,kL]
theorem AV {H:Type} : ∀ ds:List (DataW H),Rows.uptoBulkAll ds=dF ds
 | []=>by simp [Rows.uptoBulkAll,dF]
 | d::r=>by simp [Rows.uptoBulkAll,dF,SH d,AV r]
theorem J2 {H:Type} : ∀ ds:List (Lit×DataW H),Rows.uptoBulkEntries ds=wI ds
 | []=>by simp [Rows.uptoBulkEntries,wI]
 | x::r=>by simp [Rows.uptoBulkEntries,wI,aaY x,J2 r]
theorem aaY {H:Type} : ∀ x:Lit×DataW H,Rows.uptoBulkEntry x=Pn x
 | (l,d)=>by cases l <;> simp [Rows.uptoBulkEntry,Pn,SH d]
end
theorem akl {H:Type} {ds:List (DataW H)} (h:Rows.uptoSmall H ds=true):dF ds<=1048576:=by
 rw [<-AV]
 exact of_decide_eq_true h
theorem laid:laidOutB Tryz.prog=true:=by kernel_rfl
theorem aji:eF CX Tryz.prog:=alA (tab:=aia) (fns:=abZ) rfl rfl (by kernel_rfl) alT (by kernel_rfl)
theorem akm:ae9 Tryz.prog 178 3:=fun h1 h2 h3 h4 h5 h6 h7 h8=>ah7 h1 h2 h3 h4 h5 h6 h7 h8
theorem akn:ae2 Tryz.prog 236 2 32 134 where
 shift:=aga (vo:=0)
 room:=ZU
 alI:=ZV
 grow:=ah8
theorem ajj:adQ CX Tryz.prog av:=fun f g args h hne=>by
 unfold av at h
 cases h0:Nat.beq f 13 with
 | true =>
  rw [h0] at h; cases h
  have:=Nat.eq_of_beq_eq_true h0
  subst this
  exact UC hne
 | false =>
 rw [h0] at h
 cases h1:Nat.beq f 90 with
 | true =>
  rw [h1] at h; cases h
  have:=Nat.eq_of_beq_eq_true h1
  subst this
  exact abI Tryz.ah9 hne
 | false =>
 rw [h1] at h
 cases h2:Nat.beq f 92 with
 | true =>
  rw [h2] at h; cases h
  have:=Nat.eq_of_beq_eq_true h2
  subst this
  exact Uq Tryz.abX hne
 | false =>
 rw [h2] at h
 cases h3:Nat.beq f 176 with
 | true =>
  rw [h3] at h; cases h
  have:=Nat.eq_of_beq_eq_true h3
  subst this
  obtain ⟨te,hte,hl⟩ : ∃ te:TI,CX.ty (Tryz.xu.t 23)=some te/\te.aR=[.sc (.int .i64),.sc (.str),.sc (.str)]:=⟨_,rfl,rfl⟩
  have:=@NK CX Tryz.prog Tryz.xu aji Tryz.abY te hte (by rw [hl]; simp) args
  rw [hl] at this
  exact this hne
 | false =>
 rw [h3] at h
 cases h4:Nat.beq f 178 with
 | true =>
  rw [h4] at h; cases h
  have:=Nat.eq_of_beq_eq_true h4
  subst this
  exact WB akm hne
 | false =>
 rw [h4] at h
 cases h5:Nat.beq f 213 with
 | true =>
  rw [h5] at h; cases h
  have:=Nat.eq_of_beq_eq_true h5
  subst this
  obtain ⟨te,hte,hl⟩ : ∃ te:TI,CX.ty (Tryz.CQ.t 23)=some te/\te.aR=[.sc (.str),.sc (.str)]:=⟨_,rfl,rfl⟩
  have:=@NK CX Tryz.prog Tryz.CQ aji Tryz.Ke te hte (by rw [hl]; simp) args
  rw [hl] at this
  exact this hne
 | false =>
 rw [h5] at h
 cases h6:Nat.beq f 215 with
 | true =>
  rw [h6] at h; cases h
  have:=Nat.eq_of_beq_eq_true h6
  subst this
  exact WE hne
 | false =>
 rw [h6] at h
 cases h7:Nat.beq f 236 with
 | true =>
  rw [h7] at h; cases h
  have:=Nat.eq_of_beq_eq_true h7
  subst this
  exact WA (by decide) (by decide) akn hne
 | false=>rw [h7] at h; cases h
theorem own:ownKnob Tryz.prog.godebug=none:=by kernel_rfl
end Go.Proofs.YtpmbniddgaecpaaGreat

