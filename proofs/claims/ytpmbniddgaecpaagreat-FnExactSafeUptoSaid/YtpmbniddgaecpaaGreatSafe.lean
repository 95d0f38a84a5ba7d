/- A part of the proof: texts XSafe: see the last part's opening words. -/
import Derived.Test.YtpmbniddgaecpaaGreatW
set_option linter.unusedVariables false
set_option linter.unusedSimpArgs false
set_option linter.unnecessarySimpa false
namespace Go.Proofs.YtpmbniddgaecpaaGreat
open Go Go.E Go.Proofs Go.RowKit
namespace fnExactSafe
def shapes:List (Bool×List LT):=[(true,Kr)]
theorem run (AX:List (List T)) (h:Uy shapes AX) (hb:(AX.map aV).sum<=1048576) :
  ∃ m owns bs,mo CX av m 3 (CP shapes AX) .ok = .ok ⟨[.one (.sc .bool (.b true))],owns,bs⟩:=by
 simp only [shapes,Uy] at h
 obtain ⟨ds,_,rfl,s,rfl⟩:=h
 have s':=s
 unfold Kr at s
 simp only [aC,zl] at s
 obtain ⟨_,_,rfl,⟨N,rfl,-⟩,_,_,rfl,⟨life,rfl,-⟩,_,_,rfl,⟨next,rfl,-⟩,_,_,rfl,⟨a3,rfl,-⟩,_,_,rfl,⟨a4,rfl,-⟩,_,_,rfl,⟨sure,rfl,-⟩,_,_,rfl,⟨a6,rfl,-⟩,_,_,rfl,⟨a7,rfl,-⟩,_,_,rfl,⟨a8,rfl,-⟩,_,_,rfl,⟨a9,rfl,-⟩,rfl⟩:=s
 simp only [List.map_cons,List.map_nil,List.sum_cons,List.sum_nil,Nat.add_zero] at hb
 refine ⟨30000000,[[none,none,none,none,none,none,none,none,none,none]],[none],?_⟩
 exact (ME.2 30000000 [.i N,.i life,.i next,.l a3,.l a4,.i sure,.l a6,.l a7,.l a8,.l a9] .ok).trans (agX (Nat.le_refl _) N life next a3 a4 sure a6 a7 a8 a9 s' hb _)
set_option maxRecDepth 100000 in
theorem contract (H:Type) (enc:TypeId×Value->H) (W:World) (base:Nat) (args:Array Value) (ds gs:List (DataW H)) (before:List MemPlace)
  (hval : ∀ (j:Nat) t v,Tryz.f3.params[j]? = some t->args[j]? = some v->Value.okWide Tryz.prog W .any base t v)
  (hW:DataW.Whole enc Tryz.prog Tryz.f3.params.toList Rows.fnExactSafeSpec.vars false W args.toList ds gs before) (hk:Rows.uptoSmall H (ds++gs)=true) :
  Calls Tryz.prog 3 args W fun e W'=>∃ v,e = .returned v/\Rows.fnExactSafeSpec.post enc Tryz.prog Tryz.f3 false true false false W args v W':=by
 have hN:(1048576:Nat)<=aK:=by unfold aK; omega
 have hu:=akl hk
 have hrd : ∀ t∈Tryz.f3.params.toList,Tryz.prog.readableRec t=true/\t<Tryz.prog.types.size:=by
  intro t ht
  have:t=30:=by simpa [Tryz.f3] using ht
  subst this
  exact ⟨by kernel_rfl,of_decide_eq_true (by kernel_rfl)⟩
 have hs : ∀ (H:Type) (ds:List (DataW H)),ds.length=Tryz.f3.params.size->Rows.fnExactSafeSpec.fn H ds = { results:=[.lit (.bool true)],args:=ds }:=by
  intro H ds hds
  match ds,hds with
  | [d0],_=>rfl
 have hsh:Tryz.f3.params.toList.mapM (shapeOf Tryz.prog 20)=some shapes:=by kernel_rfl
 have hres:Tryz.f3.resultTypes = #[4]:=by kernel_rfl
 have htb:Tryz.prog.underlying 4=some .bool:=by kernel_rfl
 have hf:(CX.fn 3).isSome=true:=by kernel_rfl
 exact Wz (N:=1048576) (s:=Rows.fnExactSafeSpec) laid aji ajj hf hsh hrd hres htb rfl hs hN (fun AX h hb=>run AX h hb) hval hW hu
set_option maxRecDepth 100000 in
theorem lifted (os:Os) (started:os.Started) (H:Type) (enc:TypeId×Value->H) (F:Stop.Interp) :
  ReturnsInHanded {} Tryz.checked os 3 .any ((Rows.OpenSpec.upto Rows.fnExactSafeSpec).pre6 enc Tryz.prog Tryz.f3 Rows.fnExactSafeUptoRow.domain false) (((Rows.OpenSpec.upto Rows.fnExactSafeSpec).at F).post enc Tryz.prog Tryz.f3 false true false false):=by
 refine returnsInHanded_of_cond (C:=Tryz.checked) (s:=Rows.OpenSpec.upto Rows.fnExactSafeSpec) (k:=Rows.uptoSmall) rfl own started (by kernel_rfl) Tryz.func3
  (OpenSpec.witness (enc:=enc) (C:=Tryz.checked) (s:=Rows.OpenSpec.upto Rows.fnExactSafeSpec) (k:=Rows.uptoSmall) rfl false ⟨#[],#[.agg #[.int .i64 0,.int .i64 0,.int .i64 0,.slice none 0 0,.slice none 0 0,.int .i64 0,.slice none 0 0,.slice none 0 0,.slice none 0 0,.slice none 0 0]],[]⟩ 8 (by kernel_rfl) (by kernel_rfl) (by kernel_rfl)
   (x:=([.agg [.agg [.lit (.int .i64 0),.lit (.int .i64 0),.lit (.int .i64 0),.nil,.nil,.lit (.int .i64 0)],.nil,.nil,.nil,.nil]],[],[])) (by kernel_rfl) rfl (by kernel_rfl)) ?_
 intro W base args ds gs before hval hW _ hk _
 exact contract H enc W base args ds gs before hval hW hk
theorem proved:Rows.FnExactSafeUptoSaid :=
 OpenClaim.holds_of_cond 3 Tryz.f3 rfl rfl rfl rfl rfl rfl rfl ⟨rfl,rfl,rfl,rfl,rfl⟩ rfl rfl rfl rfl rfl (by kernel_rfl) Tryz.func3 (by kernel_rfl)
  (of_decide_eq_true (by kernel_rfl)) (by unfold Func.isWrapper; first | (rw [if_pos (by decide +kernel)]; kernel_rfl) | (rw [if_neg (by decide +kernel)]; exact ⟨rfl,rfl⟩))
  (fun os started H enc _ F=>lifted os started H enc F)
end fnExactSafe
end Go.Proofs.YtpmbniddgaecpaaGreat

