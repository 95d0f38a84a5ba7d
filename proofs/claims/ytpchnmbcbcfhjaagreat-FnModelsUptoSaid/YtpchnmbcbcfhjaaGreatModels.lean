/- A part of the proof: texts UModels: see the last part's opening words. -/
import Derived.Test.YtpchnmbcbcfhjaaGreatW
set_option linter.unusedVariables false
set_option linter.unusedSimpArgs false
set_option linter.unnecessarySimpa false
namespace Go.Proofs.YtpchnmbcbcfhjaaGreat
open Go Go.E Go.Proofs Go.RowKit
namespace fnModels
def shapes:List (Bool×List LT):=[(false,[.sl [.sc (.int .u8)]])]
theorem run (yA:List (List T)) (h:Nu shapes yA) (hb:(yA.map fU).sum<=1048576) :
  ∃ m owns bs,gq CX aC m 5 (zO shapes yA) .ok = .ok ⟨[.one (.sc .bool (.b true))],owns,bs⟩:=by
 simp only [shapes,Nu] at h
 obtain ⟨_,_,rfl,h,rfl⟩:=h
 rw [DC] at h
 obtain ⟨_,_,rfl,h,h2⟩:=h
 rw [DC] at h2
 subst h2
 rw [WtT] at h
 obtain ⟨rows,rfl,hr⟩:=h
 refine ⟨30000000,[[none]],[none],?_⟩
 exact (KV.2 30000000 [.l rows] .ok).trans (WX (Nat.le_refl _) rows _)
set_option maxRecDepth 100000 in
theorem contract (H:Type) (enc:TypeId×Value->H) (W:World) (base:Nat) (args:Array Value) (ds gs:List (DataW H)) (before:List MemPlace)
  (hval : ∀ (j:Nat) t v,Tryz.f5.params[j]? = some t->args[j]? = some v->Value.okWide Tryz.prog W .any base t v)
  (hW:DataW.Whole enc Tryz.prog Tryz.f5.params.toList Rows.fnModelsSpec.vars false W args.toList ds gs before) (hk:Rows.uptoSmall H (ds++gs)=true) :
  Calls Tryz.prog 5 args W fun e W'=>∃ v,e = .returned v/\Rows.fnModelsSpec.post enc Tryz.prog Tryz.f5 false true false false W args v W':=by
 have hN:(1048576:Nat)<=bA:=by unfold bA; omega
 have hu:=aeo hk
 have hrd : ∀ t∈Tryz.f5.params.toList,Tryz.prog.readableRec t=true/\t<Tryz.prog.types.size:=by
  intro t ht
  have:t=22:=by simpa [Tryz.f5] using ht
  subst this
  exact ⟨by kernel_rfl,of_decide_eq_true (by kernel_rfl)⟩
 have hs : ∀ (H:Type) (ds:List (DataW H)),ds.length=Tryz.f5.params.size->Rows.fnModelsSpec.fn H ds = { results:=[.lit (.bool true)],args:=ds }:=by
  intro H ds hds
  match ds,hds with
  | [d0],_=>rfl
 have hsh:Tryz.f5.params.toList.mapM (shapeOf Tryz.prog 20)=some shapes:=by kernel_rfl
 have hres:Tryz.f5.resultTypes = #[4]:=by kernel_rfl
 have htb:Tryz.prog.underlying 4=some .bool:=by kernel_rfl
 have hf:(CX.fn 5).isSome=true:=by kernel_rfl
 exact Pj (N:=1048576) (s:=Rows.fnModelsSpec) laid WY adl hf hsh hrd hres htb rfl hs hN (fun yA h hb=>run yA h hb) hval hW hu
set_option maxRecDepth 100000 in
theorem lifted (os:Os) (started:os.Started) (H:Type) (enc:TypeId×Value->H) (F:Stop.Interp) :
  ReturnsInHanded {} Tryz.checked os 5 .any ((Rows.OpenSpec.upto Rows.fnModelsSpec).pre6 enc Tryz.prog Tryz.f5 Rows.fnModelsUptoRow.domain false) (((Rows.OpenSpec.upto Rows.fnModelsSpec).at F).post enc Tryz.prog Tryz.f5 false true false false):=by
 refine returnsInHanded_of_cond (C:=Tryz.checked) (s:=Rows.OpenSpec.upto Rows.fnModelsSpec) (k:=Rows.uptoSmall) rfl own started (by kernel_rfl) Tryz.func5
  (OpenSpec.witness (enc:=enc) (C:=Tryz.checked) (s:=Rows.OpenSpec.upto Rows.fnModelsSpec) (k:=Rows.uptoSmall) rfl false ⟨#[],#[.slice none 0 0],[]⟩ 8 (by kernel_rfl) (by kernel_rfl) (by kernel_rfl)
   (x:=([.nil],[],[])) (by kernel_rfl) rfl (by kernel_rfl)) ?_
 intro W base args ds gs before hval hW _ hk _
 exact contract H enc W base args ds gs before hval hW hk
theorem proved:Rows.FnModelsUptoSaid :=
 OpenClaim.holds_of_cond 5 Tryz.f5 rfl rfl rfl rfl rfl rfl rfl ⟨rfl,rfl,rfl,rfl,rfl⟩ rfl rfl rfl rfl rfl (by kernel_rfl) Tryz.func5 (by kernel_rfl)
  (of_decide_eq_true (by kernel_rfl)) (by unfold Func.isWrapper; first | (rw [if_pos (by decide +kernel)]; kernel_rfl) | (rw [if_neg (by decide +kernel)]; exact ⟨rfl,rfl⟩))
  (fun os started H enc _ F=>lifted os started H enc F)
end fnModels
end Go.Proofs.YtpchnmbcbcfhjaaGreat

