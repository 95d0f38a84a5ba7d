/- A part of the proof: texts QPlayed: see the last part's opening words. -/
import Derived.Test.YtpchnmbcbcfhjaaGreatW
set_option linter.unusedVariables false
set_option linter.unusedSimpArgs false
set_option linter.unnecessarySimpa false
namespace Go.Proofs.YtpchnmbcbcfhjaaGreat
open Go Go.E Go.Proofs Go.RowKit
namespace fnPlayed
def shapes:List (Bool×List LT):=[(false,[.sl [.sc (.int .u8)]])]
theorem run (Ao:List (List T)) (h:Qt shapes Ao) (hb:(Ao.map iq).sum<=1048576) :
  ∃ m owns bs,jS CX aD m 6 (Cc shapes Ao) .ok = .ok ⟨[.one (.sc .bool (.b true))],owns,bs⟩:=by
 simp only [shapes,Qt] at h
 obtain ⟨_,_,rfl,h,rfl⟩:=h
 rw [FP] at h
 obtain ⟨_,_,rfl,h,h2⟩:=h
 rw [FP] at h2
 subst h2
 rw [WtT] at h
 obtain ⟨rows,rfl,hr⟩:=h
 refine ⟨30000000,[[none]],[none],?_⟩
 exact (Oi.2 30000000 [.l rows] .ok).trans (aar (Nat.le_refl _) rows _)
set_option maxRecDepth 100000 in
theorem contract (H:Type) (enc:TypeId×Value->H) (W:World) (base:Nat) (args:Array Value) (ds gs:List (DataW H)) (before:List MemPlace)
  (hval : ∀ (j:Nat) t v,Tryz.f6.params[j]? = some t->args[j]? = some v->Value.okWide Tryz.prog W .any base t v)
  (hW:DataW.Whole enc Tryz.prog Tryz.f6.params.toList Rows.fnPlayedSpec.vars false W args.toList ds gs before) (hk:Rows.uptoSmall H (ds++gs)=true) :
  Calls Tryz.prog 6 args W fun e W'=>∃ v,e = .returned v/\Rows.fnPlayedSpec.post enc Tryz.prog Tryz.f6 false true false false W args v W':=by
 have hN:(1048576:Nat)<=bG:=by unfold bG; omega
 have hu:=ajJ hk
 have hrd : ∀ t∈Tryz.f6.params.toList,Tryz.prog.readableRec t=true/\t<Tryz.prog.types.size:=by
  intro t ht
  have:t=22:=by simpa [Tryz.f6] using ht
  subst this
  exact ⟨by kernel_rfl,of_decide_eq_true (by kernel_rfl)⟩
 have hs : ∀ (H:Type) (ds:List (DataW H)),ds.length=Tryz.f6.params.size->Rows.fnPlayedSpec.fn H ds = { results:=[.lit (.bool true)],args:=ds }:=by
  intro H ds hds
  match ds,hds with
  | [d0],_=>rfl
 have hsh:Tryz.f6.params.toList.mapM (shapeOf Tryz.prog 20)=some shapes:=by kernel_rfl
 have hres:Tryz.f6.resultTypes = #[4]:=by kernel_rfl
 have htb:Tryz.prog.underlying 4=some .bool:=by kernel_rfl
 have hf:(CX.fn 6).isSome=true:=by kernel_rfl
 exact Tn (N:=1048576) (s:=Rows.fnPlayedSpec) laid aas ait hf hsh hrd hres htb rfl hs hN (fun Ao h hb=>run Ao h hb) hval hW hu
set_option maxRecDepth 100000 in
theorem lifted (os:Os) (started:os.Started) (H:Type) (enc:TypeId×Value->H) (F:Stop.Interp) :
  ReturnsInHanded {} Tryz.checked os 6 .any ((Rows.OpenSpec.upto Rows.fnPlayedSpec).pre6 enc Tryz.prog Tryz.f6 Rows.fnPlayedUptoRow.domain false) (((Rows.OpenSpec.upto Rows.fnPlayedSpec).at F).post enc Tryz.prog Tryz.f6 false true false false):=by
 refine returnsInHanded_of_cond (C:=Tryz.checked) (s:=Rows.OpenSpec.upto Rows.fnPlayedSpec) (k:=Rows.uptoSmall) rfl own started (by kernel_rfl) Tryz.func6
  (OpenSpec.witness (enc:=enc) (C:=Tryz.checked) (s:=Rows.OpenSpec.upto Rows.fnPlayedSpec) (k:=Rows.uptoSmall) rfl false ⟨#[],#[.slice none 0 0],[]⟩ 8 (by kernel_rfl) (by kernel_rfl) (by kernel_rfl)
   (x:=([.nil],[],[])) (by kernel_rfl) rfl (by kernel_rfl)) ?_
 intro W base args ds gs before hval hW _ hk _
 exact contract H enc W base args ds gs before hval hW hk
theorem proved:Rows.FnPlayedUptoSaid :=
 OpenClaim.holds_of_cond 6 Tryz.f6 rfl rfl rfl rfl rfl rfl rfl ⟨rfl,rfl,rfl,rfl,rfl⟩ rfl rfl rfl rfl rfl (by kernel_rfl) Tryz.func6 (by kernel_rfl)
  (of_decide_eq_true (by kernel_rfl)) (by unfold Func.isWrapper; first | (rw [if_pos (by decide +kernel)]; kernel_rfl) | (rw [if_neg (by decide +kernel)]; exact ⟨rfl,rfl⟩))
  (fun os started H enc _ F=>lifted os started H enc F)
end fnPlayed
end Go.Proofs.YtpchnmbcbcfhjaaGreat

