/- A part of the proof: texts ECall4, ECall5, ECall6, EAlloc, EOpAll, ERun1, ERegion, ERegion2, EPack, ECode, EFn, EGlue, EGlue2, EGlue3, EGlue4, ECtx, EPrim, EPrim2, EPrim3, EPrim4, EPrim6, EK, ESk, ESk2, ESk3, ESk4, EGlue5, EH: see the last part's opening words. -/
import Derived.Test.YtpchnmbcbcfhjaaGreatE2
import Derived.OpenShut
import Derived.Carry
import Derived.ChangeArms
import Derived.Shelf.Strings.OnBuilder
import Derived.Shelf.Sort.Plain
import Derived.Shelf.Slices.CompactI
import Derived.Shelf.Slices.In.SortNone
import Derived.Shelf.SlicesE.Clone
import Derived.KernelRfl
set_option linter.unusedVariables false
set_option linter.unusedSimpArgs false
set_option linter.unnecessarySimpa false
namespace Go.E
open Go
section
variable {Γ:Ctx} {P:Program} {cf:FuncId->List Arg->R3 fV}
variable {n:Fr} {σ:S} {g:Gh} {I:aB} {a:Act} {w w':World}
variable {o:Oper} {f:FuncId} {tr:Tr} {Q:S->Tr->Prop} {K:Act->World->Prop} {Qm:Exit->Act->World->Prop}
theorem Iy {deps:List Dp} : ∀ {ls:List wQ},Gg deps ls=true ->
  ls.Pairwise (fun x y=>x.key≠y.key /\ ¬ (x.i=y.i/\x.j=y.j)) /\ ∀ l∈ls,∀ d∈deps,l.key≠d.1
 | [],_=>⟨.nil,fun _ h=>(nomatch h)⟩
 | x::xs,h=>by
  simp only [Gg,Bool.and_eq_true,Bool.not_eq_true'] at h
  obtain ⟨⟨h1,h2⟩,h3⟩:=h
  obtain ⟨h4,h5⟩:=Iy h3
  refine ⟨.cons (fun y hy=>⟨fun e=>?_,fun e=>?_⟩) h4,fun l hl d hd e=>?_⟩
  ·have:(xs.any fun y=>dQ x.key y.key||(Nat.beq x.i y.i&&Nat.beq x.j y.j))=true:=List.any_eq_true.2 ⟨y,hy,by rw [e,gu]; rfl⟩
   rw [this] at h1; cases h1
  ·have:(xs.any fun y=>dQ x.key y.key||(Nat.beq x.i y.i&&Nat.beq x.j y.j))=true:=List.any_eq_true.2 ⟨y,hy,by rw [e.1,e.2]; simp⟩
   rw [this] at h1; cases h1
  ·rcases List.mem_cons.1 hl with rfl | hl
   ·have:(deps.any fun d=>dQ l.key d.1)=true:=List.any_eq_true.2 ⟨d,hd,by rw [e,gu]⟩
    rw [this] at h2; cases h2
   ·exact h5 l hl d hd e
theorem JR {i j:Nat} : ∀ {ls:List wQ} {l:wQ},wT i j ls=some l->l∈ls/\l.i=i/\l.j=j
 | [],_,h=>by cases h
 | x::xs,l,h=>by
  simp only [wT] at h
  cases hb:(Nat.beq x.i i&&Nat.beq x.j j) with
  | true =>
   rw [hb] at h
   cases h
   simp only [Bool.and_eq_true] at hb
   exact ⟨by simp,Nat.eq_of_beq_eq_true hb.1,Nat.eq_of_beq_eq_true hb.2⟩
  | false =>
   rw [hb] at h
   obtain ⟨h1,h2⟩:=JR h
   exact ⟨by simp [h1],h2⟩
theorem AV {ls:List wQ} (hp:ls.Pairwise (fun x y=>x.key≠y.key /\ ¬ (x.i=y.i/\x.j=y.j))) {l:wQ} (hl:l∈ls):wT l.i l.j ls=some l:=by
 induction hp with
 | nil=>cases hl
 | @cons x xs h1 h2 ih =>
  simp only [wT]
  rcases List.mem_cons.1 hl with rfl | hl
  ·simp
  ·have:=(h1 l hl).2
   have hb:(Nat.beq x.i l.i&&Nat.beq x.j l.j)=false:=by
    cases hb:(Nat.beq x.i l.i&&Nat.beq x.j l.j) with
    | false=>rfl
    | true =>
     simp only [Bool.and_eq_true] at hb
     exact absurd ⟨Nat.eq_of_beq_eq_true hb.1,Nat.eq_of_beq_eq_true hb.2⟩ this
   rw [hb]
   exact ih hl
def BZ (g:Gh) (D:aB) (ls:List wQ):Gh :=
 ⟨fun k=>match k with | [i,j]=>(match wT i j ls with | some l=>g.h l.key | none=>.nilIface) | _=>.nilIface,
 fun k=>match k with | [i,j]=>(match wT i j ls with | some l=>g.F l.key | none=>fun _ _=>False) | _=>fun _ _=>False,D⟩
def Lm (r:fV) (κ κ':Key->KE) (l:wQ):Prop :=
 (l.j≠vL /\ ∃ es ms rows,lI r l.i l.j=some (es,ms,rows)/\l.es=es/\κ' l.key=⟨.row es ms rows,(κ l.key).bQ,(κ l.key).cv+1⟩) \/
 (l.j≠vL/\lI r l.i l.j=none/\κ' l.key=⟨.gone,(κ l.key).bQ+1,(κ l.key).cv+1⟩) \/
 (l.j=vL /\ ∃ old rls,(κ l.key).ch = .box old/\xO r l.i=some rls/\rls.length=old.length/\κ' l.key=⟨.box (old.map afp),(κ l.key).bQ,(κ l.key).cv+1⟩)
theorem MH {r:fV} {p:Prog} : ∀ {ls:List wQ} {σ:S} {tr:Tr},ls.Pairwise (fun x y=>x.key≠y.key /\ ¬ (x.i=y.i/\x.j=y.j))->(wU r ls p).wp cf σ tr Q ->
  ∃ σ' dI,p.wp cf σ' dI Q/\σ'.s=σ.s/\(∀ k,(∀ l∈ls,l.key≠k)->σ'.k k=σ.k k) /\ ∀ l∈ls,Lm r σ.k σ'.k l
 | [],σ,tr,_,h=>⟨σ,tr,h,rfl,fun _ _=>rfl,fun _ h=>(nomatch h)⟩
 | l::ls,σ,tr,hp,h=>by
  simp only [wU,Prog.wp] at h
  have hne : ∀ {y:wQ},y∈ls->l.key≠y.key /\ ¬ (l.i=y.i/\l.j=y.j):=fun hy=>List.rel_of_pairwise_cons hp hy
  have hp':=List.Pairwise.of_cons hp
  have step : ∀ (e:KE) (tr1:Tr),(wU r ls p).wp cf (σ.bK l.key e) tr1 Q->∃ σ' dI,p.wp cf σ' dI Q/\σ'.s=σ.s/\(∀ k,(∀ x∈l::ls,x.key≠k)->σ'.k k=σ.k k)/\σ'.k l.key=e /\
    ∀ x∈ls,Lm r σ.k σ'.k x:=by
   intro e tr1 h
   obtain ⟨σ',dI,h1,h2,h3,h4⟩:=MH hp' h
   refine ⟨σ',dI,h1,h2,fun k hk=>?_,?_,fun x hx=>?_⟩
   ·rw [h3 k fun x hx=>hk x (by simp [hx]),aO _ _ fun e=>hk l (by simp) e.symm]
   ·rw [h3 l.key fun x hx e=>(hne hx).1 e.symm,aP]
   ·have:=h4 x hx
    unfold Lm at this ⊢
    rwa [aO _ _ fun e=>(hne hx).1 e.symm] at this
  rcases jg h with ⟨hj,h⟩ | ⟨hj,h⟩
  ·have hj:=Nat.eq_of_beq_eq_true hj
   cases hc:(σ.k l.key).ch with
   | box old =>
    rw [hc] at h
    simp only at h
    cases hb:xO r l.i with
    | none=>rw [hb] at h; exact h.elim
    | some rls =>
     rw [hb] at h
     obtain ⟨hq,h⟩:=h
     obtain ⟨σ',dI,h1,h2,h3,h4,h5⟩:=step _ _ h
     refine ⟨σ',dI,h1,h2,h3,fun x hx=>?_⟩
     rcases List.mem_cons.1 hx with rfl | hx
     ·exact .inr (.inr ⟨hj,old,rls,hc,hb,Nat.eq_of_beq_eq_true hq,h4⟩)
     ·exact h5 x hx
   | row _ _ _=>rw [hc] at h; exact h.elim
   | fz _ _=>rw [hc] at h; exact h.elim
   | gone=>rw [hc] at h; exact h.elim
   | K9 _ _ _=>rw [hc] at h; exact h.elim
   | hol _ _ _ _ _=>rw [hc] at h; exact h.elim
  ·have hj:l.j≠vL:=fun e=>by rw [e] at hj; simp at hj
   cases ho:lI r l.i l.j with
   | none =>
    rw [ho] at h
    obtain ⟨σ',dI,h1,h2,h3,h4,h5⟩:=step _ _ h
    refine ⟨σ',dI,h1,h2,h3,fun x hx=>?_⟩
    rcases List.mem_cons.1 hx with rfl | hx
    ·exact .inr (.inl ⟨hj,ho,h4⟩)
    ·exact h5 x hx
   | some x0 =>
    obtain ⟨es,ms,rows⟩:=x0
    rw [ho] at h
    obtain ⟨hb,h⟩:=h
    obtain ⟨σ',dI,h1,h2,h3,h4,h5⟩:=step _ _ h
    refine ⟨σ',dI,h1,h2,h3,fun x hx=>?_⟩
    rcases List.mem_cons.1 hx with rfl | hx
    ·exact .inl ⟨hj,es,ms,rows,ho,LT.bP hb,h4⟩
    ·exact h5 x hx
theorem Yc {κ:Key->KE} {gg g0 g':Gh} {I1 I2:aB} : ∀ {rls:List RL} {cs:List Value} {old:List Leaf},PK g0 g' w I1 rls cs->rls.length=old.length->cu κ gg w I2 (old.map afp) cs
 | [],[],[],_,_=>trivial
 | r::rls,c::cs,l::old,h,hl=>⟨⟨h.1,trivial⟩,Yc h.2.2 (by simpa using hl)⟩
 | [],_::_,_,h,_=>h.elim
 | _::_,[],_,h,_=>h.elim
 | [],[],_::_,_,hl=>by simp at hl
 | _::_,_::_,[],_,hl=>by simp at hl
theorem w9.unique {h:Value} {F F':aB} {m:Nat} {cs cs':List Value} (h1:w9 w h F m cs) (h2:w9 w h F' m cs'):cs=cs':=by
 obtain ⟨b,o,c,el,fz,rfl,hb,-,-,-,rfl⟩:=h1
 obtain ⟨b',o',c',SQ,fz',e,hb',-,-,-,rfl⟩:=h2
 cases e
 unfold Block at hb hb'
 rw [hb] at hb'
 cases hb'
 rfl
theorem R.call (hR:R n σ g I a w) {σ':S} {g1:Gh} {I':aB} (L:Key->Prop) {A':aB} (hs:σ'.s=σ.s) (hsame : ∀ k,¬ L k->σ'.k k=σ.k k/\g1.h k=g.h k/\g1.F k=g.F k) (hgh : ∀ k,L k->g1.h k=g.h k) (hgD:g1.D=g.D)
  (hl : ∀ k,L k->Live (σ.k k).ch/\(σ'.k k).cv=(σ.k k).cv+1/\(((σ'.k k).bQ=(σ.k k).bQ/\mW (σ'.k k).ch=mW (σ.k k).ch/\Hf σ'.k g1 w' I' k (σ'.k k).ch/\aB.apart (g1.F k) I'/\(∀ b o,g1.F k b o->¬ A' b o))\/((σ'.k k).bQ=(σ.k k).bQ+1/\(σ'.k k).ch = .gone)))
  (aop : ∀ k k',L k->L k'->Live (σ'.k k).ch->Live (σ'.k k').ch->k≠k'->aB.apart (g1.F k) (g1.F k'))
  (hk:Keeps A' w w') (hA : ∀ b o,I b o\/n.A b o->A' b o) (hAL : ∀ k,¬ L k->Live (σ.k k).ch->∀ b o,g.F k b o->A' b o)
  (hinc : ∀ b o,I b o->I' b o) (hi2 : ∀ b o,I' b o->I b o \/ ¬ A' b o) (aqN : ∀ b o,I' b o->∃ v,cellAt w' b o=some v) :
  R n σ' g1 I' a w'/\gM σ.k g w I σ'.k g1 w' I':=by
 refine hR.touch L (fun b o=>¬ A' b o) hs hgD hsame (fun k hk=>?_) (fun k hk hp hlv=>?_) (fun k hk hlv b o hf=>?_) aop (fun u hu hlv b o hf hz=>hz (hAL u hu hlv b o hf)) (fun b o hz hi=>hz (hA b o (.inl hi))) (fun b o hz ha=>hz (hA b o (.inr ha)))
  (hk.weaken fun b o hz=>Classical.byContradiction hz) hinc (fun b o hi=>(hi2 b o hi).elim .inl fun h=>.inr (.inl h)) (fun k hk hlv=>?_) aqN (fun _ k hk=>?_)
 ·obtain ⟨h1,h2,h3⟩:=hl k hk
  rcases h3 with h3 | h3
  ·exact ⟨by omega,by omega,fun _=>⟨hgh k hk,h3.2.1⟩⟩
  ·exact ⟨by omega,by omega,fun h=>by omega⟩
 ·rw [hgh k hk]; exact hR.x.par k hp (hl k hk).1
 ·rcases (hl k hk).2.2 with h3 | h3
  ·exact .inl (h3.2.2.2.2 b o hf)
  ·rw [h3.2] at hlv; exact hlv.elim
 ·rcases (hl k hk).2.2 with h3 | h3
  ·exact h3.2.2.2.1
  ·rw [h3.2] at hlv; exact hlv.elim
 ·rcases (hl k hk).2.2 with h3 | h3
  ·exact h3.2.2.1
  ·rw [h3.2]; trivial
structure ad8 (n:Fr) (c:Pass) (κ1:Key->KE) (g1 g0 g':Gh) (I' I2:aB) (w:World) (ks:List Key):Prop where
 leaf : ∀ lt v d,aJ w (ID g0 I') lt v d->aJ w (dF κ1 g1 I2 c.deps) lt v d
 fz : ∀ b o,I' b o->I2 b o
 old:Old κ1 c.deps
 lend : ∀ l∈c.gq,l.bQ<=(κ1 l.key).bQ/\g0.h [l.i,l.j]=g1.h l.key
 sep : ∀ k k',k∈ks->k'∈ks->k≠k'->aB.apart (g'.F k) (g'.F k')
 jP : ∀ k∈ks,aB.apart (g'.F k) I2
 wW : ∀ k∈ks,aB.apart (g'.F k) n.A
def Tj (σ:S) (g g':Gh) (ks:List Key):Prop:=∀ k∈ks,∀ u,Live (σ.k u).ch->aB.apart (g.F u) (g'.F k)
theorem MI {κ1:Key->KE} {g1 g0 g':Gh} {I' I2:aB} {ks:List Key} {c:Pass} (hB:ad8 n c κ1 g1 g0 g' I' I2 w ks) {key:Key} (hkp : ¬ gN n.np key) {rl:RL} {v:Value} {k:Leaf->Prog} {rest:List Key}
  (hR:R n σ g I2 a w) (ev:gM κ1 g1 w I2 σ.k g w I2) (hs:Single v) (hv:RlR g0 g' w I' rl v) (hsub : ∀ x∈je rl++rest,x∈ks) (hnd:(je rl++rest).Nodup) (haw:Tj σ g g' (je rl++rest))
  (h:(OY c key rl k).wp cf σ tr Q) :
  ∃ l σ' gg dI,(k l).wp cf σ' dI Q/\R n σ' gg I2 a w/\gM σ.k g w I2 σ'.k gg w I2/\σ'.s=σ.s/\ER σ'.k gg w I2 l v/\Tj σ' gg g' rest:=by
 cases rl with
 | sc s d=>exact ⟨_,σ,g,tr,h,hR,gM.refl,rfl,⟨hs,s,rfl,hv⟩,fun k hk=>haw k (by simp [hk])⟩
 | nl es=>exact ⟨_,σ,g,tr,h,hR,gM.refl,rfl,⟨hs,trivial,hv,rfl⟩,fun k hk=>haw k (by simp [hk])⟩
 | fz es rows =>
  refine ⟨_,σ,g,tr,h,hR,gM.refl,rfl,?_,fun k hk=>haw k (by simp [hk])⟩
  have h1:ER κ1 g1 w I2 ⟨.sn [],.sl es,.l rows⟩ v:=⟨hs,trivial,uY _,fun _=>aJ.mono (fun b o hb=>.inl (hB.fz b o hb)) (fun _ _ _=>rfl) _ hv⟩
  exact ev.lf h1
 | dz es rows =>
  refine ⟨_,σ,g,tr,h,hR,gM.refl,rfl,?_,fun k hk=>haw k (by simp [hk])⟩
  have h1:ER κ1 g1 w I2 ⟨.sn c.deps,.sl es,.l rows⟩ v:=⟨hs,trivial,hB.old,fun _=>hB.leaf _ _ _ hv⟩
  exact ev.lf h1
 | par i j =>
  obtain ⟨l,hl,h9⟩:=dX h
  clear h
  obtain ⟨hl1,rfl,rfl⟩:=JR hl
  obtain ⟨h1,h2⟩:=hB.lend l hl1
  refine ⟨_,σ,g,tr,h9,hR,gM.refl,rfl,?_,fun k hk=>haw k (by simp [hk])⟩
  have hv':v=g0.h [l.i,l.j]:=hv
  have h1:ER κ1 g1 w I2 ⟨.al l.key l.bQ,.sl l.es,.l []⟩ v:=⟨hs,trivial,h1,fun _=>hv'.trans h2⟩
  exact ev.lf h1
 | own k' es ms rows =>
  obtain ⟨hv1,hv2⟩:=hv
  simp only [je,List.cons_append,List.nil_append] at hsub hnd haw
  have hk':=hsub k' (by simp)
  have hrow:=hv2.same hB.fz
  let e:KE:=⟨.row es ms rows,(σ.k key).bQ+1,(σ.k key).cv+1⟩
  have hz : ∀ u,Live (σ.k u).ch->aB.apart (g.F u) (g'.F k'):=haw k' (by simp)
  obtain ⟨hR',ev'⟩:=hR.renew key e v (g'.F k') (g'.F k') (by simp [e]) (by simp [e]) (w':=w) (Keeps.refl _ _) ⟨hz,hB.jP k' hk',hB.wW k' hk'⟩ hkp (fun _ _ h=>.inl h)
   (fun _=>by simp only [e,Hf,Gh.oz,Gh.jR]; exact hrow)
  refine ⟨_,_,_,_,h,hR',ev',rfl,⟨hs,trivial,?_,fun _=>?_⟩,fun x hx u hu=>?_⟩
  ·rw [aP]; exact Nat.le_refl _
  ·rw [Gh.oz]
  ·by_cases Uj:u=key
   ·subst Uj
    rw [Gh.jR]
    exact hB.sep k' x hk' (hsub x (by simp [hx])) fun e=>(List.nodup_cons.1 hnd).1 (e ▸ hx)
   ·rw [aO _ _ Uj] at hu
    rw [Gh.uZ _ _ _ Uj]
    exact haw x (by simp [hx]) u hu
theorem Yd (ls:List RL):eD (.agg ls)=ls.flatMap je:=by
 simp only [eD]
 induction ls with
 | nil=>rfl
 | cons l ls ih=>cases l <;> simp [je,ih]
theorem MJ (l:RL):eD (.one l)=je l:=by cases l <;> rfl
theorem wD {κ1:Key->KE} {g1 g0 g':Gh} {I' I2:aB} {ks:List Key} {c:Pass} (hB:ad8 n c κ1 g1 g0 g' I' I2 w ks) {dst q:Nat} (hkp : ∀ r,¬ gN n.np ((dst+2000000)::r)) {rest:List Key} :
  ∀ {rls:List RL} {vs:List Value} {j:Nat} {k:List Leaf->Prog} {σ:S} {g:Gh} {tr:Tr},R n σ g I2 a w->gM κ1 g1 w I2 σ.k g w I2->PK g0 g' w I' rls vs->(∀ x∈rls.flatMap je++rest,x∈ks)->(rls.flatMap je++rest).Nodup ->
   Tj σ g g' (rls.flatMap je++rest)->(zl c dst q j rls k).wp cf σ tr Q ->
   ∃ ls σ' gg dI,(k ls).wp cf σ' dI Q/\R n σ' gg I2 a w/\gM σ.k g w I2 σ'.k gg w I2/\σ'.s=σ.s/\cu σ'.k gg w I2 ls vs/\Tj σ' gg g' rest
 | [],[],j,k,σ,g,tr,hR,ev,hv,hsub,hnd,haw,h=>⟨[],σ,g,tr,h,hR,gM.refl,rfl,trivial,by simpa using haw⟩
 | rl::rls,v::vs,j,k,σ,g,tr,hR,ev,hv,hsub,hnd,haw,h=>by
  simp only [List.flatMap_cons,List.append_assoc] at hsub hnd haw
  obtain ⟨l,σ1,gg1,t1,h,h1,h2,h3,h4,h5⟩:=MI hB (hkp _) hR ev hv.1 hv.2.1 hsub hnd haw h
  obtain ⟨ls,σ2,gg2,t2,h,h6,h7,h8,h9,h10⟩:=wD hB hkp h1 (ev.trans h2) hv.2.2 (fun x hx=>hsub x (List.mem_append.2 (.inr hx))) (List.nodup_append.1 hnd).2.1 h5 h
  exact ⟨_,σ2,gg2,t2,h,h6,h2.trans h7,h8.trans h3,⟨h7.lf h4,h9⟩,h10⟩
 | [],_::_,_,_,_,_,_,_,_,hv,_,_,_,_=>hv.elim
 | _::_,[],_,_,_,_,_,_,_,hv,_,_,_,_=>hv.elim
theorem DV {κ1:Key->KE} {g1 g0 g':Gh} {I' I2:aB} {ks:List Key} {c:Pass} (hB:ad8 n c κ1 g1 g0 g' I' I2 w ks) {dst:Nat} (hkp : ∀ r,¬ gN n.np ((dst+2000000)::r)) :
  ∀ {rs:List RE} {vs:List Value} {q:Nat} {k:List fC->Prog} {σ:S} {g:Gh} {tr:Tr},R n σ g I2 a w->gM κ1 g1 w I2 σ.k g w I2->aiM g0 g' w I' rs vs->(∀ x∈rs.flatMap eD,x∈ks)->(rs.flatMap eD).Nodup ->
   Tj σ g g' (rs.flatMap eD)->(Aw c dst q rs k).wp cf σ tr Q ->
   ∃ es σ' gg dI,(k es).wp cf σ' dI Q/\R n σ' gg I2 a w/\gM σ.k g w I2 σ'.k gg w I2/\σ'.s=σ.s/\pY σ'.k gg w I2 es vs
 | [],[],q,k,σ,g,tr,hR,ev,hv,hsub,hnd,haw,h=>⟨[],σ,g,tr,h,hR,gM.refl,rfl,trivial⟩
 | .one rl::rs,v::vs,q,k,σ,g,tr,hR,ev,hv,hsub,hnd,haw,h=>by
  simp only [List.flatMap_cons,MJ] at hsub hnd haw
  simp only [Aw] at h
  obtain ⟨l,σ1,gg1,t1,h,h1,h2,h3,h4,h5⟩:=MI hB (hkp _) hR ev hv.1.1 hv.1.2 hsub hnd haw h
  obtain ⟨ls,σ2,gg2,t2,h,h6,h7,h8,h9⟩:=DV hB hkp h1 (ev.trans h2) hv.2 (fun x hx=>hsub x (List.mem_append.2 (.inr hx))) (List.nodup_append.1 hnd).2.1 h5 h
  exact ⟨_,σ2,gg2,t2,h,h6,h2.trans h7,h8.trans h3,⟨h7.lf h4,h9⟩⟩
 | .agg rls::rs,v::vs,q,k,σ,g,tr,hR,ev,hv,hsub,hnd,haw,h=>by
  simp only [List.flatMap_cons,Yd] at hsub hnd haw
  simp only [Aw] at h
  obtain ⟨⟨cs,rfl,hv1⟩,hv2⟩:=hv
  obtain ⟨l,σ1,gg1,t1,h,h1,h2,h3,h4,h5⟩:=wD hB hkp hR ev hv1 hsub hnd haw h
  obtain ⟨ls,σ2,gg2,t2,h,h6,h7,h8,h9⟩:=DV hB hkp h1 (ev.trans h2) hv2 (fun x hx=>hsub x (List.mem_append.2 (.inr hx))) (List.nodup_append.1 hnd).2.1 h5 h
  exact ⟨_,σ2,gg2,t2,h,h6,h2.trans h7,h8.trans h3,⟨⟨cs,rfl,h7.XQ h4⟩,h9⟩⟩
 | .bx k' rls::rs,v::vs,q,k,σ,g,tr,hR,ev,hv,hsub,hnd,haw,h=>by
  have ek:(RE.bx k' rls::rs).flatMap eD=k'::(rls.flatMap je++rs.flatMap eD):=rfl
  rw [ek] at hsub hnd haw
  obtain ⟨aoq,aor⟩:=List.nodup_cons.1 hnd
  simp only [Aw] at h
  obtain ⟨⟨hvp,cs,hat,hv1⟩,hv2⟩:=hv
  have alK:=hsub k' (by simp)
  have afK:(rls.flatMap je++(rs.flatMap eD++[k'])).Nodup:=by
   rw [<-List.append_assoc]
   exact List.nodup_append.2 ⟨aor,by simp,fun x hx y hy e=>by
    simp only [List.mem_cons,List.not_mem_nil,or_false] at hy
    subst hy; subst e; exact aoq hx⟩
  have hmem : ∀ x,x∈rls.flatMap je++(rs.flatMap eD++[k'])->x∈k'::(rls.flatMap je++rs.flatMap eD):=fun x hx=>by
   simp only [List.mem_append,List.mem_cons,List.not_mem_nil,or_false] at hx ⊢
   rcases hx with h | h | h <;> simp [h]
  obtain ⟨l,σ1,gg1,t1,h,h1,h2,h3,h4,h5⟩:=wD hB hkp hR ev hv1 (fun x hx=>hsub x (hmem x hx)) afK (fun x hx=>haw x (hmem x hx)) h
  obtain ⟨hq,h⟩:=h
  simp only [Bool.and_eq_true] at hq
  have hlen:=Nat.eq_of_beq_eq_true hq.1
  simp only [Prog.wp] at h
  let key:Key:=[dst+2000000,q,vL]
  let e:KE:=⟨.box l,(σ1.k key).bQ+1,(σ1.k key).cv+1⟩
  have hz : ∀ u,Live (σ1.k u).ch->aB.apart (gg1.F u) (g'.F k'):=h5 k' (by simp)
  have hvs:Single v:=by
   obtain ⟨b,o,c,el,fz,e1,-⟩:=hat
   rw [hvp,e1]; exact ⟨fun _ h=>(nomatch h),fun _ h=>(nomatch h)⟩
  obtain ⟨hR',ev'⟩:=h1.renew key e v (g'.F k') (g'.F k') (by simp [e]) (by simp [e]) (w':=w) (Keeps.refl _ _) ⟨hz,hB.jP k' alK,hB.wW k' alK⟩ (hkp _) (fun _ _ h=>.inl h)
   (fun ev'=>by
    simp only [e,Hf,Gh.oz,Gh.jR]
    refine w9.own (cs:=cs) ?_ (ev'.XQ h4)
    rw [hlen,hvp]; exact hat)
  have alL:Tj (σ1.bK key e) (gg1.set key v (g'.F k')) g' (rs.flatMap eD):=fun x hx u hu=>by
   by_cases Uj:u=key
   ·subst Uj
    rw [Gh.jR]
    exact hB.sep k' x alK (hsub x (by simp [hx])) fun e=>aoq (by rw [e]; simp [hx])
   ·rw [aO _ _ Uj] at hu
    rw [Gh.uZ _ _ _ Uj]
    exact h5 x (by simp [hx]) u hu
  obtain ⟨ls,σ2,gg2,t2,h,h6,h7,h8,h9⟩:=DV hB hkp hR' ((ev.trans h2).trans ev') hv2 (fun x hx=>hsub x (by simp [hx])) (List.nodup_append.1 aor).2.1 alL h
  refine ⟨_,σ2,gg2,t2,h,h6,(h2.trans ev').trans h7,h8.trans h3,⟨h7.Td ?_,h9⟩⟩
  refine ⟨hvs,?_,fun _=>?_⟩
  ·rw [aP]; exact Nat.le_refl _
  ·obtain ⟨b,o,c,el,fz,e1,-⟩:=hat
   refine ⟨b,o,hvp.trans e1,?_⟩
   rw [Gh.oz,hvp,e1]; rfl
 | .none::_,_::_,_,_,_,_,_,_,_,hv,_,_,_,_=>hv.1.elim
 | [],_::_,_,_,_,_,_,_,_,hv,_,_,_,_=>hv.elim
 | _::_,[],_,_,_,_,_,_,_,hv,_,_,_,_=>hv.elim
theorem ajZ : ∀ {bs:List (Option (List RL))},(bs.flatMap jf).Nodup->(∀ i,(jf (bs.getD i none)).Nodup /\ ∀ x∈jf (bs.getD i none),x∈bs.flatMap jf) /\
  ∀ i i',i≠i'->∀ x∈jf (bs.getD i none),x ∉ jf (bs.getD i' none)
 | [],_=>⟨fun i=>⟨by simp [jf],fun x hx=>by simp [jf] at hx⟩,fun i i' _ x hx=>by simp [jf] at hx⟩
 | b::bs,h=>by
  simp only [List.flatMap_cons] at h ⊢
  obtain ⟨h1,h2,h3⟩:=List.nodup_append.1 h
  obtain ⟨h4,h5⟩:=ajZ h2
  refine ⟨fun i=>?_,fun i i' hi x hx hx'=>?_⟩
  ·cases i with
   | zero=>exact ⟨h1,fun x hx=>List.mem_append.2 (.inl hx)⟩
   | succ i=>exact ⟨(h4 i).1,fun x hx=>List.mem_append.2 (.inr ((h4 i).2 x hx))⟩
  ·cases i with
   | zero =>
    cases i' with
    | zero=>exact hi rfl
    | succ i'=>exact h3 x hx x ((h4 i').2 x hx') rfl
   | succ i =>
    cases i' with
    | zero=>exact h3 x hx' x ((h4 i).2 x hx) rfl
    | succ i'=>exact h5 i i' (fun e=>hi (by rw [e])) x hx hx'
def bk (r:fV) (ls:List wQ):List Key:=ls.flatMap fun l=>cond (Nat.beq l.j vL) (jf (xO r l.i)) []
theorem aaX {r:fV} {ls:List wQ} {x:Key} (h:x∈bk r ls) : ∃ l∈ls,l.j=vL/\x∈jf (xO r l.i):=by
 obtain ⟨l,h1,h2⟩:=List.mem_flatMap.1 h
 cases hj:Nat.beq l.j vL with
 | false=>rw [hj] at h2; cases h2
 | true=>rw [hj] at h2; exact ⟨l,h1,Nat.eq_of_beq_eq_true hj,h2⟩
theorem aos {r:fV} (h:(iA r).Nodup) {ls:List wQ} (hp:ls.Pairwise (fun x y=>x.key≠y.key /\ ¬ (x.i=y.i/\x.j=y.j))) :
  (bk r ls++r.rs.flatMap eD).Nodup /\ ∀ x∈bk r ls++r.rs.flatMap eD,x∈iA r:=by
 unfold iA at h ⊢
 obtain ⟨h1,h2,h3⟩:=List.nodup_append.1 h
 obtain ⟨h4,h5⟩:=ajZ h2
 have hm : ∀ x∈bk r ls,x∈r.bxs.flatMap jf:=fun x hx=>by
  obtain ⟨l,-,-,h6⟩:=aaX hx
  exact (h4 l.i).2 x h6
 have hn:(bk r ls).Nodup:=by
  induction hp with
  | nil=>exact List.nodup_nil
  | @cons l ls' h6 h7 ih =>
   show ((cond (Nat.beq l.j vL) (jf (xO r l.i)) [])++bk r ls').Nodup
   have ih:=ih fun x hx=>by
    obtain ⟨l,-,-,h6⟩:=aaX hx
    exact (h4 l.i).2 x h6
   cases hj:Nat.beq l.j vL with
   | false=>exact ih
   | true =>
    have hj:=Nat.eq_of_beq_eq_true hj
    refine List.nodup_append.2 ⟨(h4 l.i).1,ih,fun x hx y hy e=>?_⟩
    subst e
    obtain ⟨l',h8,h9,h10⟩:=aaX hy
    exact h5 l.i l'.i (fun e=>(h6 l' h8).2 ⟨e,hj.trans h9.symm⟩) x hx h10
 refine ⟨List.nodup_append.2 ⟨hn,h1,fun x hx y hy e=>?_⟩,fun x hx=>?_⟩
 ·subst e
  exact h3 x hy x (hm x hx) rfl
 ·rcases List.mem_append.1 hx with hx | hx
  ·exact List.mem_append.2 (.inr (hm x hx))
  ·exact List.mem_append.2 (.inl hx)
theorem DW {κ1:Key->KE} {g1 g0 g':Gh} {I' I2:aB} {ks:List Key} {c:Pass} (hB:ad8 n c κ1 g1 g0 g' I' I2 w ks) {dst:Nat} (hkp : ∀ r,¬ gN n.np ((dst+2000000)::r)) {r:fV} {rest:List Key} {p:Prog} :
  ∀ {ls:List wQ} {σ:S} {g:Gh} {tr:Tr},(∀ l∈ls,l.j=vL->l.bQ=(κ1 l.key).bQ /\ ∀ rls,xO r l.i=some rls->∃ cs F,w9 w (g1.h l.key) F rls.length cs/\PK g0 g' w I' rls cs)->R n σ g I2 a w->gM κ1 g1 w I2 σ.k g w I2 ->
   (∀ x∈bk r ls++rest,x∈ks)->(bk r ls++rest).Nodup->Tj σ g g' (bk r ls++rest)->(yV c dst r ls p).wp cf σ tr Q ->
   ∃ σ' gg dI,p.wp cf σ' dI Q/\R n σ' gg I2 a w/\gM σ.k g w I2 σ'.k gg w I2/\σ'.s=σ.s/\Tj σ' gg g' rest
 | [],σ,g,tr,hbx,hR,ev,hsub,hnd,haw,h=>⟨σ,g,tr,h,hR,gM.refl,rfl,by simpa [bk] using haw⟩
 | l::ls,σ,g,tr,hbx,hR,ev,hsub,hnd,haw,h=>by
  simp only [yV] at h
  have ebk:bk r (l::ls)=(cond (Nat.beq l.j vL) (jf (xO r l.i)) [])++bk r ls:=rfl
  have aot : ∀ x∈ls,x.j=vL->x.bQ=(κ1 x.key).bQ /\ ∀ rls,xO r x.i=some rls->∃ cs F,w9 w (g1.h x.key) F rls.length cs/\PK g0 g' w I' rls cs:=fun x hx=>hbx x (by simp [hx])
  rcases jg h with ⟨hj,h⟩ | ⟨hj,h⟩
  ·rw [ebk,hj] at hsub hnd haw
   have hj:=Nat.eq_of_beq_eq_true hj
   obtain ⟨hid,aqO⟩:=hbx l (by simp) hj
   cases hb:xO r l.i with
   | none=>rw [hb] at h; exact h.elim
   | some rls =>
    rw [hb] at h hsub hnd haw
    simp only [cond_true,jf,List.append_assoc] at hsub hnd haw
    obtain ⟨cs,F,hat,hrl⟩:=aqO rls hb
    obtain ⟨xs,σ1,g2,t1,h,mE,pE,hs1,hl1,aqP⟩:=wD hB hkp hR ev hrl hsub hnd haw h
    simp only [Prog.wp] at h
    cases hc:(σ1.k l.key).ch with
    | box old =>
     rw [hc] at h
     obtain ⟨hq,h⟩:=h
     simp only [Bool.and_eq_true] at hq
     have hq1:=Nat.eq_of_beq_eq_true hq.1
     have hq2:=Nat.eq_of_beq_eq_true hq.2
     have hlive:Live (σ1.k l.key).ch:=by rw [hc]; trivial
     have hh:g2.h l.key=g1.h l.key:=((ev.trans pE).head l.key (hq1.trans hid)).1
     have hch:=mE.vI l.key
     rw [hc] at hch
     obtain ⟨cs',hat',-⟩:=mZ.at hch
     have hlen:rls.length=xs.length:=by
      have e1 : ∀ {rls:List RL} {vs:List Value},PK g0 g' w I' rls vs->rls.length=vs.length:=by
       intro rls
       induction rls with
       | nil=>intro vs h; cases vs with | nil=>rfl | cons _ _=>exact h.elim
       | cons r rls ih=>intro vs h; cases vs with | nil=>exact h.elim | cons v vs=>simp [ih h.2.2]
      have e2 : ∀ {ls:List Leaf} {vs:List Value},cu σ1.k g2 w I2 ls vs->ls.length=vs.length:=by
       intro ls
       induction ls with
       | nil=>intro vs h; cases vs with | nil=>rfl | cons _ _=>exact h.elim
       | cons r rls ih=>intro vs h; cases vs with | nil=>exact h.elim | cons v vs=>simp [ih h.2]
      rw [e1 hrl,e2 hl1]
     rw [hh,<-hq2,<-hlen] at hat'
     have ecs:=w9.unique hat hat'
     subst ecs
     let e:KE:=⟨.box xs,(σ1.k l.key).bQ,(σ1.k l.key).cv+1⟩
     have hk:Keeps (fun b o=>¬ g2.F l.key b o) w w:=Keeps.refl _ _
     obtain ⟨hR2,zA⟩:=mE.Wp (e:=e) hlive rfl (Nat.lt_succ_self _) (by rw [hc]; rfl) hk (fun zA=>by
      show mZ _ _ _ _ xs _ _
      refine w9.own (cs:=cs) ?_ (zA.XQ hl1)
      rw [hh,<-hlen]; exact hat')
     obtain ⟨σ',gg,dI,h,hR',ev',hs',alL⟩:=DW hB hkp aot hR2 ((ev.trans pE).trans zA) (fun x hx=>hsub x (List.mem_append.2 (.inr hx))) (List.nodup_append.1 hnd).2.1 (fun x hx u hu=>by
      refine aqP x hx u ?_
      by_cases Uj:u=l.key
      ·subst Uj; exact hlive
      ·rwa [aO _ _ Uj] at hu) h
     exact ⟨σ',gg,dI,h,hR',(pE.trans zA).trans ev',hs'.trans hs1,alL⟩
    | row _ _ _=>rw [hc] at h; exact h.elim
    | fz _ _=>rw [hc] at h; exact h.elim
    | gone=>rw [hc] at h; exact h.elim
    | K9 _ _ _=>rw [hc] at h; exact h.elim
    | hol _ _ _ _ _=>rw [hc] at h; exact h.elim
  ·rw [ebk,hj] at hsub hnd haw
   exact DW hB hkp aot hR ev hsub hnd haw h
end
end Go.E

namespace Go.E
open Go
section
variable {Γ:Ctx} {P:Program} {cf:FuncId->List Arg->R3 fV}
variable {n:Fr} {σ:S} {g:Gh} {I:aB} {a:Act} {w w':World}
variable {o:Oper} {f:FuncId} {tr:Tr} {Q:S->Tr->Prop} {K:Act->World->Prop} {Qm:Exit->Act->World->Prop}
def PY (Γ:Ctx) (P:Program) (cf:FuncId->List Arg->R3 fV):Prop:=∀ f args,(Γ.fn f).isSome=true->cf f args ≠ .bad->Nv P f args (cf f args)
theorem wZ.app : ∀ {es es':List fC} {vs vs':List Value},wZ σ.k g w I es vs->wZ σ.k g w I es' vs'->wZ σ.k g w I (es++es') (vs++vs')
 | [],_,[],_,_,h=>h
 | _::_,_,_::_,_,h,h'=>⟨h.1,wZ.app h.2 h'⟩
 | [],_,_::_,_,h,_=>h.elim
 | _::_,_,[],_,h,_=>h.elim
theorem r9.ent {e:fC} {v:Value} (h:r9 σ.k g w I e v):jY σ.k g w I e v:=by
 cases e with
 | OT _=>exact h.elim
 | fn _ _=>exact h.elim
 | _=>exact h
theorem pY.ents : ∀ {es:List fC} {vs:List Value},pY σ.k g w I es vs->wZ σ.k g w I es vs
 | [],[],_=>trivial
 | _::_,_::_,h=>⟨h.1.ent,pY.ents h.2⟩
 | [],_::_,h=>h.elim
 | _::_,[],h=>h.elim
theorem ad9 {xs:List fC} {vs:List Value} (h:pY σ.k g w I xs vs):jY σ.k g w I (afq xs) (aiN vs):=by
 match xs,vs,h with
 | [x],[v],h=>exact h.1.ent
 | [],[],h=>exact ⟨#[],rfl,trivial⟩
 | x::y::xs,v::u::vs,h=>exact ⟨(v::u::vs).toArray,rfl,h⟩
 | [],_::_,h=>exact h.elim
 | [_],[],h=>exact h.elim
 | [_],_::_::_,h=>exact h.2.elim
 | _::_::_,[],h=>exact h.elim
 | _::_::_,[_],h=>exact h.2.elim
theorem afP {ls:List wQ} (hp:ls.Pairwise (fun x y=>x.key≠y.key /\ ¬ (x.i=y.i/\x.j=y.j))) {l l':wQ} (hl:l∈ls) (hl':l'∈ls) (h:l.key=l'.key):l.i=l'.i/\l.j=l'.j:=by
 induction hp with
 | nil=>cases hl
 | @cons x xs h1 h2 ih =>
  rcases List.mem_cons.1 hl with rfl | hl
  ·rcases List.mem_cons.1 hl' with rfl | hl'
   ·exact ⟨rfl,rfl⟩
   ·exact absurd h (h1 l' hl').1
  ·rcases List.mem_cons.1 hl' with rfl | hl'
   ·exact absurd h.symm (h1 l (by assumption)).1
   ·exact ih hl hl'
theorem aj0 {ls:List wQ} (hp:ls.Pairwise (fun x y=>x.key≠y.key /\ ¬ (x.i=y.i/\x.j=y.j))) {l l':wQ} (hl:l∈ls) (hl':l'∈ls) (h:l.i=l'.i/\l.j=l'.j):l=l':=by
 have h1:=AV hp hl
 have h2:=AV hp hl'
 rw [h.1,h.2,h2] at h1
 exact (Option.some.inj h1).symm
def acB (n:Fr) (σ:S) (g:Gh) (I:aB) (c:Pass):aB:=fun b o=>(I b o\/n.A b o \/ ∃ k,Live (σ.k k).ch/\g.F k b o) /\ ¬ ∃ l∈c.gq,g.F l.key b o
def aaY (σ:S) (g:Gh) (ds:List Dp):aB:=fun b o=>∃ d∈ds,(d.1=uS/\g.D b o)\/(Live (σ.k d.1).ch/\g.F d.1 b o)
theorem Uv {c:Pass} (hc:gP σ c) : ∀ l∈c.gq,Live (σ.k l.key).ch:=fun l hl=>by
 obtain ⟨-,⟨-,ls,h⟩ | ⟨-,ms,rows,h⟩⟩:=hc.lend l hl <;> rw [h] <;> trivial
theorem afQ (hR:R n σ g I a w) {args:List Arg} {c:Pass} {vs:List Value} (hc:gP σ c) (ha:Gg c.deps c.gq=true) (hl:CO c 0 args)
  (hargs : ∀ g0 I0,Fits σ g I g0 I0 c->AQ g0 w I0 0 args vs):Pre (BZ g (aaY σ g c.deps) c.gq) I (acB n σ g I c) args w vs.toArray:=by
 obtain ⟨h1,h2⟩:=Iy ha
 have hlive:=Uv hc
 have hG : ∀ l∈c.gq,(BZ g (aaY σ g c.deps) c.gq).h [l.i,l.j]=g.h l.key/\(BZ g (aaY σ g c.deps) c.gq).F [l.i,l.j]=g.F l.key:=fun l hl=>by
  simp only [BZ,AV h1 hl]
  exact ⟨trivial,trivial⟩
 have AX : ∀ k,Held args k->∃ l∈c.gq,k=[l.i,l.j]:=fun k hk=>by
  unfold Held at hk
  rcases DT k (zq 0 args) with h | ⟨ch,h,-⟩
  ·rw [h] at hk; exact hk.elim
  ·exact hl.mem _ h
 have hDA : ∀ b o,aaY σ g c.deps b o->acB n σ g I c b o:=fun b o hb=>by
  obtain ⟨d,hd,hb⟩:=hb
  refine ⟨?_,fun ⟨l,hl,hf⟩=>?_⟩
  ·rcases hb with ⟨-,hb⟩ | ⟨h3,hb⟩
   ·exact .inr (.inl (hR.x.da b o hb))
   ·exact .inr (.inr ⟨_,h3,hb⟩)
  ·rcases hb with ⟨-,hb⟩ | ⟨h3,hb⟩
   ·exact hR.x.wW _ (hlive l hl) b o hf (hR.x.da b o hb)
   ·exact hR.sep _ _ (hlive l hl) h3 (h2 l hl d hd) b o hf hb
 refine ⟨by simpa using hargs _ _ ⟨hG,fun b o hb=>hb.imp id fun h=>h,fun _ _ h=>h⟩,fun k k' hk hk' hne=>?_,fun k hk=>?_,fun k hk=>?_,hR.zu,fun b o hb=>?_,hDA⟩
 ·obtain ⟨l,hl,rfl⟩:=AX k hk
  obtain ⟨l',hl',rfl⟩:=AX k' hk'
  rw [(hG l hl).2,(hG l' hl').2]
  refine hR.sep _ _ (hlive l hl) (hlive l' hl') fun e=>?_
  obtain ⟨e1,e2⟩:=afP h1 hl hl' e
  exact hne (by rw [e1,e2])
 ·obtain ⟨l,hl,rfl⟩:=AX k hk
  rw [(hG l hl).2]
  exact hR.jP _ (hlive l hl)
 ·obtain ⟨l,hl,rfl⟩:=AX k hk
  rw [(hG l hl).2]
  intro b o hf ha
  exact ha.2 ⟨l,hl,hf⟩
 ·rcases hb.1 with hb | hb | ⟨k,hk,hb⟩
  ·exact hR.zu b o hb
  ·exact hR.x.awf b o hb
  ·exact uI hR hk hb
theorem aea (hR:R n σ g I a w) {args:List Arg} {c:Pass} (hc:gP σ c) (ha:Gg c.deps c.gq=true) {ret:fV} {g':Gh} {I':aB} {v:Value} {D:Nat} {p:Prog}
  (hr:JL (BZ g (aaY σ g c.deps) c.gq) I (acB n σ g I c) args w ret g' I' w' v)
  (h:(wU ret c.gq (yV c D ret c.gq p)).wp cf σ tr Q) :
  ∃ σ2 g2 I2 t2 κ1 g1,p.wp cf σ2 t2 Q/\R n σ2 g2 I2 a w'/\gM σ.k g w I σ2.k g2 w' I2/\σ2.s=σ.s/\Keeps (Im n I) w w'/\gM κ1 g1 w' I2 σ2.k g2 w' I2 /\
   ad8 n c κ1 g1 (BZ g (aaY σ g c.deps) c.gq) g' I' I2 w' (iA ret)/\Tj σ2 g2 g' (ret.rs.flatMap eD):=by
 obtain ⟨h1,h2⟩:=Iy ha
 have hlive:=Uv hc
 generalize hDD:aaY σ g c.deps=D0 at hr
 have hG : ∀ l∈c.gq,(BZ g D0 c.gq).h [l.i,l.j]=g.h l.key/\(BZ g D0 c.gq).F [l.i,l.j]=g.F l.key:=fun l hl=>by
  simp only [BZ,AV h1 hl]
  exact ⟨trivial,trivial⟩
 obtain ⟨σ1,t1,h,e1,e2,e3⟩:=MH h1 h
 let L:Key->Prop:=fun k=>∃ l∈c.gq,l.key=k
 let A':=acB n σ g I c
 let I2:aB:=fun b o=>I b o\/(I' b o /\ ¬ A' b o)
 have hIA : ∀ b o,I b o\/n.A b o->A' b o:=fun b o hb=>by
  refine ⟨hb.elim .inl fun h=>.inr (.inl h),fun ⟨l,hl,hf⟩=>?_⟩
  rcases hb with hb | hb
  ·exact hR.jP _ (hlive l hl) b o hf hb
  ·exact hR.x.wW _ (hlive l hl) b o hf hb
 have hAL : ∀ k,¬ L k->Live (σ.k k).ch->∀ b o,g.F k b o->A' b o:=fun k hk hlv b o hf =>
  ⟨.inr (.inr ⟨k,hlv,hf⟩),fun ⟨l,hl,hf'⟩=>hR.sep _ _ hlv (hlive l hl) (fun e=>hk ⟨l,hl,e.symm⟩) b o hf hf'⟩
 have hnL : ∀ k,¬ L k->σ1.k k=σ.k k:=fun k hk=>e2 k fun l hl e=>hk ⟨l,hl,e⟩
 have hfz : ∀ b o,I' b o->I2 b o:=fun b o hb=>by
  by_cases ha:A' b o
  ·exact .inl (hr.ia b o hb ha)
  ·exact .inr ⟨hb,ha⟩
 have hkk:Keeps A' w w':=hr.keeps.weaken fun b o hb=>.inr hb
 have hOut : ∀ l∈c.gq,Live (σ1.k l.key).ch->Out ret [l.i,l.j]:=fun l hl hlv=>by
  rcases e3 l hl with ⟨hj,es,ms,rows,ho,hes,hk⟩ | ⟨hj,ho,hk⟩ | ⟨hj,old,rls,hold,Wz,hlen,hk⟩
  ·exact .inr ⟨_,_,.inl ⟨_,ho⟩,rfl⟩
  ·rw [hk] at hlv; exact hlv.elim
  ·exact .inr ⟨_,_,.inr ⟨hj,_,Wz⟩,rfl⟩
 let lo:Key->Option wQ:=fun k=>c.gq.find? fun l=>dQ l.key k
 have hlo : ∀ l∈c.gq,lo l.key=some l:=fun l hl=>by
  simp only [lo]
  cases hf:c.gq.find? fun x=>dQ x.key l.key with
  | none=>exact absurd (gu l.key) (List.find?_eq_none.1 hf l hl)
  | some l' =>
   have h3:=List.mem_of_find?_eq_some hf
   have h4:l'.key=l.key:=(eX _ _).1 (by have:=List.find?_some (p:=fun x:wQ=>dQ x.key l.key) hf; exact this)
   rw [aj0 h1 h3 hl (afP h1 h3 hl h4)]
 have DC : ∀ k,¬ L k->lo k=none:=fun k hk=>by
  simp only [lo]
  exact List.find?_eq_none.2 fun l hl e=>hk ⟨l,hl,(eX _ _).1 e⟩
 let g1:Gh:=⟨g.h,fun k=>match lo k with | some l=>g'.F [l.i,l.j] | none=>g.F k,g.D⟩
 have g1F : ∀ l∈c.gq,g1.F l.key=g'.F [l.i,l.j]:=fun l hl=>by simp only [g1,hlo l hl]
 have alM : ∀ k,¬ L k->g1.F k=g.F k:=fun k hk=>by simp only [g1,DC k hk]
 obtain ⟨mE,pE⟩:=hR.call (σ':=σ1) (g1:=g1) (I':=I2) (w':=w') L (A':=A') e1 (fun k hk=>⟨hnL k hk,rfl,alM k hk⟩) (fun _ _=>rfl) rfl (fun k hk=>by
   obtain ⟨l,hl,rfl⟩:=hk
   refine ⟨hlive l hl,?_⟩
   obtain ⟨hid,hkind⟩:=hc.lend l hl
   have hap:Live (σ1.k l.key).ch->aB.apart (g1.F l.key) I2 /\ ∀ b o,g1.F l.key b o->¬ A' b o:=fun hlv=>by
    rw [g1F l hl]
    have ho:=hOut l hl hlv
    refine ⟨fun b o hf hi=>?_,fun b o hf ha=>hr.wW _ ho b o hf ha⟩
    rcases hi with hi | hi
    ·exact hr.wW _ ho b o hf (hIA b o (.inl hi))
    ·exact hr.jP _ ho b o hf hi.1
   rcases e3 l hl with ⟨hj,es,ms,rows,ho,hes,hk⟩ | ⟨hj,ho,hk⟩ | ⟨hj,old,rls,hold,Wz,hlen,hk⟩
   ·obtain ⟨-,ms0,Ud,DR⟩:=hkind.resolve_left fun h=>hj h.1
    have hr1:=hr.own _ _ _ _ _ ho
    rw [(hG l hl).1,<-g1F l hl] at hr1
    obtain ⟨h3,h4⟩:=hap (by rw [hk]; trivial)
    rw [hk]
    exact ⟨rfl,.inl ⟨rfl,by rw [DR,<-hes]; rfl,hr1.same hfz,h3,h4⟩⟩
   ·rw [hk]
    exact ⟨rfl,.inr ⟨rfl,rfl⟩⟩
   ·obtain ⟨cs,hb1,hb2⟩:=hr.box _ _ Wz
    have hg:=hG l hl
    rw [hj] at hg
    have hgF:=g1F l hl
    rw [hj] at hgF
    rw [hg.1,<-hgF] at hb1
    obtain ⟨h3,h4⟩:=hap (by rw [hk]; trivial)
    rw [hk]
    exact ⟨rfl,.inl ⟨rfl,by rw [hold]; rfl,w9.own (cs:=cs) (by rw [List.length_map,<-hlen]; exact hb1) (Yc hb2 hlen),h3,h4⟩⟩)
  (fun k k' hk hk' hlv aqR hne=>by
   obtain ⟨l,hl,rfl⟩:=hk
   obtain ⟨l',hl',rfl⟩:=hk'
   rw [g1F l hl,g1F l' hl']
   exact hr.sep _ _ (hOut l hl hlv) (hOut l' hl' aqR) fun e=>hne (by
    simp only [List.cons.injEq,and_true] at e
    rw [aj0 h1 hl hl' e]))
  hkk hIA hAL (fun b o hb=>.inl hb) (fun b o hi=>hi.imp id And.right) (fun b o hi=>by
   rcases hi with hi | hi
   ·obtain ⟨v,hv⟩:=hR.zu b o hi
    exact ⟨v,(hkk.cell (hIA b o (.inl hi)) ⟨v,hv⟩).trans hv⟩
   ·exact hr.zu b o hi.1)
 have hKK:Keeps (Im n I) w w':=hkk.weaken fun b o hb=>hIA b o hb
 have hB:ad8 n c σ1.k g1 (BZ g D0 c.gq) g' I' I2 w' (iA ret):=by
  refine ⟨fun lt v d hlf=>hlf.same fun b o hb=>?_,hfz,pE.old hc.old,fun l hl=>⟨?_,(hG l hl).1⟩,fun k k' hk hk'=>hr.sep k k' (.inl hk) (.inl hk'),fun k hk b o hf hi=>?_,fun k hk b o hf hi=>hr.wW k (.inl hk) b o hf (hIA b o (.inr hi))⟩
  ·rcases hb with hb | hb
   ·exact .inl (hfz b o hb)
   ·have hb:D0 b o:=hb
    rw [<-hDD] at hb
    obtain ⟨d,hd,hb⟩:=hb
    refine .inr ⟨d,hd,?_⟩
    rcases hb with hb | ⟨h3,h4⟩
    ·exact .inl hb
    ·have hnd : ¬ L d.1:=fun ⟨l,hl,e⟩=>h2 l hl d hd e
     rw [hnL d.1 hnd,alM d.1 hnd]
     exact .inr ⟨h3,h4⟩
  ·rw [<-(hc.lend l hl).1]; exact pE.bQ _
  ·rcases hi with hi | hi
   ·exact hr.wW k (.inl hk) b o hf (hIA b o (.inl hi))
   ·exact hr.jP k (.inl hk) b o hf hi.1
 have haw:Tj σ1 g1 g' (iA ret):=by
  intro k hk u hu
  by_cases hL:L u
  ·obtain ⟨l,hl,rfl⟩:=hL
   rw [g1F l hl]
   have ho:=hOut l hl hu
   refine hr.sep _ _ ho (.inl hk) fun e=>?_
   rcases e3 l hl with ⟨hj,es,ms,rows,ho',hes,hk'⟩ | ⟨hj,ho',hk'⟩ | ⟨hj,old,rls,hold,Wz,hlen,hk'⟩
   ·exact hr.kp k hk _ _ (.inl ⟨_,ho'⟩) e.symm
   ·rw [hk'] at hu; exact hu.elim
   ·exact hr.kp k hk _ _ (.inr ⟨hj,_,Wz⟩) e.symm
  ·rw [hnL u hL] at hu
   rw [alM u hL]
   exact fun b o h1 h2=>hr.wW k (.inl hk) b o h2 (hAL u hL hu b o h1)
 obtain ⟨hnd,hsub⟩:=aos hr.nd h1
 have aqS : ∀ r,¬ gN n.np ((D+2000000)::r):=fun r h=>by
  have h:D+2000000<n.np:=h
  have:=n.big
  omega
 obtain ⟨σ2,g2,t2,h,hR2,zA,hs2,aqT⟩:=DW hB aqS (fun l hl hj=>by
   refine ⟨?_,fun rls Wz=>?_⟩
   ·rcases e3 l hl with ⟨hj',_⟩ | ⟨hj',_⟩ | ⟨-,old,rls,hold,Wz,hlen,hk'⟩
    ·exact absurd hj hj'
    ·exact absurd hj hj'
    ·rw [hk']; exact (hc.lend l hl).1.symm
   ·obtain ⟨cs,hb1,hb2⟩:=hr.box _ _ Wz
    have hg:=(hG l hl).1
    rw [hj] at hg
    rw [hg] at hb1
    exact ⟨cs,_,hb1,hb2⟩) mE gM.refl hsub hnd (fun k hk=>haw k (hsub k hk)) h
 exact ⟨σ2,g2,I2,t2,σ1.k,g1,h,hR2,pE.trans zA,hs2.trans e1,hKK,zA,hB,aqT⟩
end
end Go.E

namespace Go.E
open Go
section
variable {cf:FuncId->List Arg->R3 fV} {Q:S->Tr->Prop}
variable {n:Fr} {σ:S} {g:Gh} {I:aB} {a:Act} {w:World} {tr:Tr}
theorem aaZ (hR:R n σ g I a w) {key:Key} {m:Nat} {es:List LT} {rows:List (List T)} {v:Value} (hs:Single v) (hv:v=g.h key) (hc:(σ.k key).ch = .fz es rows):ER σ.k g w I ⟨.sn [],.sl es,.l rows⟩ v:=by
 have hch:=hR.vI key
 rw [hc] at hch
 refine ⟨hs,trivial,uY _,fun _=>aJ.mono (nN _) (fun _ _ _=>rfl) _ ?_⟩
 rw [hv]; exact hch
theorem xg (hR:R n σ g I a w) {nk:Key} {m:PM} {l:Leaf} {v:Value} {os:List (Bool×Key)} {k:Leaf->List (Bool×Key)->Prog} (hnk : ¬ gN n.np nk) (hl:ER σ.k g w I l v) (h:(wS nk m l os k).wp cf σ tr Q) :
  ∃ l' os' σ' g' I' dI,(k l' os').wp cf σ' dI Q/\R n σ' g' I' a w/\gM σ.k g w I σ'.k g' w I'/\σ'.s=σ.s/\ER σ'.k g' w I' l' v:=by
 have same : ∀ {os':List (Bool×Key)},(k l os').wp cf σ tr Q->∃ l' os' σ' g' I' dI,(k l' os').wp cf σ' dI Q/\R n σ' g' I' a w/\gM σ.k g w I σ'.k g' w I'/\σ'.s=σ.s/\ER σ'.k g' w I' l' v:=fun h=>⟨l,_,σ,g,I,tr,h,hR,gM.refl,rfl,hl⟩
 obtain ⟨st,lt,d⟩:=l
 cases m with
 | R=>exact same h
 | F =>
  simp only [wS] at h
  cases st with
  | al key m =>
   obtain ⟨hs,hsl,hm1,hm2⟩:=hl
   obtain ⟨hid,h⟩:=h
   have hv:=hm2 (Nat.eq_of_beq_eq_true hid)
   split at h
   ·rename_i es ms rows hc
    obtain ⟨mE,pE⟩:=hR.freeze hc
    have hch:=hR.vI key
    rw [hc] at hch
    refine ⟨_,_,_,g,_,_,h,mE,pE,rfl,hs,trivial,uY _,fun _=>aJ.mono (nN _) (fun _ _ _=>rfl) _ ?_⟩
    rw [hv]; exact aV.leaf hch (fun _ _ h=>.inl h) (fun _ _ h=>.inr h)
   ·rename_i es rows hc
    exact ⟨_,_,σ,g,I,_,h,hR,gM.refl,rfl,aaZ (m:=m) hR hs hv hc⟩
   ·exact h.elim
  | _=>exact same h
 | O ms =>
  simp only [wS] at h
  cases st with
  | nl =>
   cases ms with
   | nil=>exact same h
   | cons m0 ms =>
    simp only at h
    cases lt with
    | sc s=>exact h.elim
    | sl es =>
     obtain ⟨hne,h⟩:=h
     have hne:es≠[]:=by intro e; subst e; simp at hne
     obtain ⟨hs,hsl,hv,-⟩:=hl
     let e:KE:=⟨.row es (m0::ms) [],(σ.k nk).bQ+1,(σ.k nk).cv+1⟩
     obtain ⟨mE,pE⟩:=hR.renew nk e v (fun _ _=>False) (fun _ _=>False) (by simp [e]) (by simp [e]) (w':=w) (Keeps.refl _ _) DF.none hnk (fun _ _ h=>h.elim)
      (fun _=>by simp only [e,Hf,Gh.oz,Gh.jR]; rw [hv]; exact aV.nil hne fun _ _ h=>h)
     refine ⟨_,_,_,_,I,_,h,mE,pE,rfl,hs,trivial,?_,fun _=>?_⟩
     ·rw [aP]; exact Nat.le_refl _
     ·rw [Gh.oz]
  | sb key m cv r off =>
   obtain ⟨hs,-,hh1,hh2,hh3⟩:=hl
   obtain ⟨hq,h⟩:=h
   simp only [Bool.and_eq_true] at hq
   have hid:=Nat.eq_of_beq_eq_true hq.1
   have hcv:=Nat.eq_of_beq_eq_true hq.2
   obtain ⟨b0,o0,hl1,hl2,hl3⟩:=(hh3 (fun d hd=>by rw [List.mem_singleton.1 hd]; exact hcv)).2 hid
   obtain ⟨es',ms',rows',ls',vs,b,cap,σ1,g1,t1,mm,hc0,hr,h,mE,pE,hs1,DL,Fz,hgh,hgb,hlen,hcells,Ws,-⟩:=Iq hR h
   obtain ⟨hoff,h⟩:=h
   have hoff:off<ls'.length:=Nat.le_of_ble_eq_true hoff
   have aoo:=cu.len' Ws
   have hlf:ER σ1.k g1 w I (ls'.getD off default) (vs.getD off .nilIface):=cu.get Ws off hoff
   rw [hc0,hgh] at hl1
   simp only [addrIn,mW,Option.some.injEq,Prod.mk.injEq,Nat.zero_add] at hl1
   obtain ⟨rfl,rfl⟩:=hl1
   have hval:v=vs.getD off .nilIface:=by
    have:=hcells.get off (by omega)
    rw [hl2] at this
    have e1:vs.getD off .nilIface=vs[off]'(by omega):=by simp [show off<vs.length by omega]
    rw [e1]; exact Option.some.inj this
   exact ⟨_,_,σ1,g1,I,t1,h,mE,pE,hs1,by rw [hval]; exact hlf⟩
  | al key m =>
   cases ms with
   | nil=>exact same h
   | cons m0 ms =>
    simp only at h
    obtain ⟨hid,h⟩:=h
    split at h
    ·rename_i es ms0 rows hc
     rcases jg h with ⟨-,h⟩ | ⟨-,h⟩
     ·exact ⟨_,_,σ,g,I,_,h,hR,gM.refl,rfl,hl⟩
     ·obtain ⟨hm,h⟩:=h
      obtain ⟨g1,I1,mE,pE⟩:=hR.cast hc hm
      exact ⟨_,_,_,g1,I1,_,h,mE,pE,rfl,pE.lf hl⟩
    ·exact ⟨_,_,σ,g,I,_,h,hR,gM.refl,rfl,hl⟩
  | _=>exact same h
theorem pW {nk:Key} : ∀ {ls:List Leaf} {vs:List Value} {j:Nat} {pm:List PM} {os:List (Bool×Key)} {k:List Leaf->List (Bool×Key)->Prog} {σ:S} {g:Gh} {I:aB} {tr:Tr},R n σ g I a w->cu σ.k g w I ls vs->(qw nk j pm ls os k).wp cf σ tr Q ->
  ∃ ls' os' σ' g' I' dI,(k ls' os').wp cf σ' dI Q/\R n σ' g' I' a w/\gM σ.k g w I σ'.k g' w I'/\σ'.s=σ.s/\cu σ'.k g' w I' ls' vs
 | [],[],j,pm,os,k,σ,g,I,tr,hR,hl,h=>⟨[],_,σ,g,I,tr,h,hR,gM.refl,rfl,trivial⟩
 | l::ls,v::vs,j,pm,os,k,σ,g,I,tr,hR,hl,h=>by
  simp only [qw] at h
  obtain ⟨l',os1,σ1,g1,I1,t1,h,mE,pE,hs1,hl1⟩:=xg hR (yA n.big (by omega) _) hl.1 h
  obtain ⟨ls',os2,σ2,g2,I2,t2,h,hR2,zA,hs2,hl2⟩:=pW mE (pE.XQ hl.2) h
  exact ⟨_,_,σ2,g2,I2,t2,h,hR2,pE.trans zA,hs2.trans hs1,⟨zA.lf hl1,hl2⟩⟩
 | [],_::_,_,_,_,_,_,_,_,_,_,hl,_=>hl.elim
 | _::_,[],_,_,_,_,_,_,_,_,_,hl,_=>hl.elim
theorem Iz (hR:R n σ g I a w) {key:Key} {i:Nat} {pm:List PM} {os:List (Bool×Key)} {k:List (Bool×Key)->Prog} (h:(Jq key i pm os k).wp cf σ tr Q) :
  ∃ os' σ' g' I' dI,(k os').wp cf σ' dI Q/\R n σ' g' I' a w/\gM σ.k g w I σ'.k g' w I'/\σ'.s=σ.s:=by
 simp only [Jq,Prog.wp] at h
 obtain ⟨hid,h⟩:=h
 have hid:=Nat.eq_of_beq_eq_true hid
 split at h
 ·rename_i ls hc
  rcases jg h with ⟨-,h⟩ | ⟨-,h⟩
  ·have hch:=hR.vI key
   rw [hc] at hch
   obtain ⟨cs,hat,hls⟩:=mZ.at' hch
   obtain ⟨ls',os1,σ1,g1,I1,t1,h,mE,pE,hs1,hl1⟩:=pW hR hls h
   simp only [Prog.wp] at h
   obtain ⟨DL,h⟩:=h
   have DL:=Nat.eq_of_beq_eq_true DL
   split at h
   ·rename_i ls0 hc1
    obtain ⟨hlen,h⟩:=h
    have hlen:=Nat.eq_of_beq_eq_true hlen
    have hh:=(pE.head key (DL.trans hid.symm)).1
    have hlive:Live (σ1.k key).ch:=by rw [hc1]; trivial
    obtain ⟨hR2,zA⟩:=mE.Wp (e:=⟨.box ls',(σ1.k key).bQ,(σ1.k key).cv+1⟩) (w':=w) hlive rfl (Nat.lt_succ_self _) (by rw [hc1]; rfl) (Keeps.refl _ _) fun zA=>by
     have Fz:=mE.vI key
     rw [hc1] at Fz
     obtain ⟨b,o,c,el,fz,h1,h2,h3,h4,h5,-⟩:=Fz
     obtain ⟨b',o',c',SQ,fz',h6,h7,h8,rfl⟩:=hat
     rw [hh,h6] at h1
     cases h1
     have h9:w.heap[b]? = some (.cells c el fz):=h2
     have h10:w.heap[b]? = some (.cells c' SQ fz'):=h7
     rw [h9] at h10
     cases h10
     refine ⟨b,o,c,el,fz,by rw [hh,h6],h2,by rw [hlen]; exact h3,by rw [hlen]; exact h4,by rw [hlen]; exact h5,?_⟩
     have h11:=cu.len' hl1
     have h12:=cu.len' hls
     rw [show ls'.length=ls.length from by omega]
     exact zA.XQ hl1
    exact ⟨_,_,g1,I1,_,h,hR2,pE.trans zA,hs1⟩
   ·exact h.elim
  ·exact ⟨_,σ,g,I,_,h,hR,gM.refl,rfl⟩
 ·exact ⟨_,σ,g,I,_,h,hR,gM.refl,rfl⟩
theorem aa0 (hR:R n σ g I a w) {nk:Key} {pm:List PM} {e:fC} {v:Value} {os:List (Bool×Key)} {k:fC->List (Bool×Key)->Prog} (hnk : ¬ gN n.np nk) (he:jY σ.k g w I e v) (h:(Jr nk pm e os k).wp cf σ tr Q) :
  ∃ e' os' σ' g' I' dI,(k e' os').wp cf σ' dI Q/\R n σ' g' I' a w/\gM σ.k g w I σ'.k g' w I'/\σ'.s=σ.s/\jY σ'.k g' w I' e' v:=by
 cases e with
 | one l =>
  simp only [Jr] at h
  obtain ⟨l',os',σ',g',I',dI,h1,h2,h3,h4,h5⟩:=xg hR hnk (l:=l) he h
  exact ⟨_,os',σ',g',I',dI,h1,h2,h3,h4,h5⟩
 | agg ls =>
  simp only [Jr] at h
  obtain ⟨cs,rfl,he⟩:=he
  obtain ⟨ls',os',σ',g',I',dI,h1,h2,h3,h4,h5⟩:=pW hR he h
  exact ⟨_,os',σ',g',I',dI,h1,h2,h3,h4,cs,rfl,h5⟩
 | ptr key m r off =>
  simp only [Jr] at h
  rcases jg h with ⟨-,h⟩ | ⟨-,h⟩
  ·obtain ⟨hq,h⟩:=h
   simp only [Bool.and_eq_true] at hq
   have hid:=Nat.eq_of_beq_eq_true hq.1
   have:=Nat.eq_of_beq_eq_true hq.2
   subst this
   obtain ⟨hsg,hm1,hm2⟩:=he
   obtain ⟨b,o,rfl,kH⟩:=hm2 hid
   split at h
   ·rename_i ls hc
    have hch:=hR.vI key
    rw [hc] at hch kH
    obtain ⟨b',o',c,el,fz,hh,-⟩:=hch
    rw [hh] at kH
    simp only [addrIn,Nat.add_zero,Option.some.injEq,Prod.mk.injEq] at kH
    obtain ⟨rfl,rfl⟩:=kH
    rcases jg h with ⟨-,h⟩ | ⟨-,h⟩
    ·obtain ⟨ls1,σ1,g1,t1,i,-,-,h,mE,pE,hs1,hi1,hcb,hgb⟩:=aaQ hR h
     obtain ⟨os',σ2,g2,I2,t2,h,hR2,zA,hs2⟩:=Iz mE h
     have he1:r9 σ1.k g1 w I (.ptr (og key) i 0 0) (.pointer (some ⟨b',o',none⟩)):=⟨hsg,by rw [hi1]; exact Nat.le_refl _,fun _=>⟨b',o',rfl,by rw [hgb,hh]; rfl⟩⟩
     exact ⟨_,_,σ2,g2,I2,t2,h,hR2,pE.trans zA,hs2.trans hs1,zA.Td (x:=.ptr (og key) i 0 0) he1⟩
    ·obtain ⟨os',σ2,g2,I2,t2,h,hR2,zA,hs2⟩:=Iz hR h
     refine ⟨_,_,σ2,g2,I2,t2,h,hR2,zA,hs2,zA.Td (x:=.ptr key m r 0) ⟨hsg,hm1,fun hi=>⟨b',o',rfl,?_⟩⟩⟩
     rw [hh]; simp [addrIn]
   ·rename_i es ms rows hc
    obtain ⟨hlen,h⟩:=h
    obtain ⟨es',ms',rows',ls',vs,b2,cap,σ1,g1,t1,mm,hc0,hr,h,mE,pE,hs1,DL,Fz,hgh,hgb,hl',hcells,Ws,-⟩:=Iq hR h
    rw [hc0] at hc
    cases hc
    rw [hc0,hgh] at kH
    simp only [addrIn,mW,Nat.zero_add,Nat.add_zero,Option.some.injEq,Prod.mk.injEq] at kH
    obtain ⟨rfl,rfl⟩:=kH
    obtain ⟨os',σ2,g2,I2,t2,h,hR2,zA,hs2⟩:=Iz mE h
    have he1:r9 σ1.k g1 w I (.ptr (jc key) mm 0 0) (.pointer (some ⟨b2,r * es.length,none⟩)):=⟨hsg,by rw [DL]; exact Nat.le_refl _,fun _=>⟨b2,_,rfl,by rw [hgb]; rfl⟩⟩
    exact ⟨_,_,σ2,g2,I2,t2,h,hR2,pE.trans zA,hs2.trans hs1,zA.Td (x:=.ptr (jc key) mm 0 0) he1⟩
   ·exact h.elim
  ·exact ⟨_,_,σ,g,I,_,h,hR,gM.refl,rfl,he⟩
 | OT es=>exact ⟨_,_,σ,g,I,_,h,hR,gM.refl,rfl,he⟩
 | rp ds aR row=>exact ⟨_,_,σ,g,I,_,h,hR,gM.refl,rfl,he⟩
 | fn f caps=>exact ⟨_,_,σ,g,I,_,h,hR,gM.refl,rfl,he⟩
 | und=>exact ⟨_,_,σ,g,I,_,h,hR,gM.refl,rfl,he⟩
 | junk=>exact ⟨_,_,σ,g,I,_,h,hR,gM.refl,rfl,he⟩
theorem PZ {d:Nat} : ∀ {es:List fC} {vs:List Value} {i:Nat} {pms:List (List PM)} {os:List (Bool×Key)} {k:List fC->List (Bool×Key)->Prog} {σ:S} {g:Gh} {I:aB} {tr:Tr},R n σ g I a w->wZ σ.k g w I es vs->(Oo d i pms es os k).wp cf σ tr Q ->
  ∃ es' os' σ' g' I' dI,(k es' os').wp cf σ' dI Q/\R n σ' g' I' a w/\gM σ.k g w I σ'.k g' w I'/\σ'.s=σ.s/\wZ σ'.k g' w I' es' vs
 | [],[],i,pms,os,k,σ,g,I,tr,hR,hl,h=>⟨[],_,σ,g,I,tr,h,hR,gM.refl,rfl,trivial⟩
 | e::es,v::vs,i,pms,os,k,σ,g,I,tr,hR,hl,h=>by
  simp only [Oo] at h
  obtain ⟨e',os1,σ1,g1,I1,t1,h,mE,pE,hs1,hl1⟩:=aa0 hR (yA n.big (by omega) _) hl.1 h
  have hev : ∀ {es:List fC} {vs:List Value},wZ σ.k g w I es vs->wZ σ1.k g1 w I1 es vs:=by
   intro es
   induction es with
   | nil=>intro vs h; cases vs with | nil=>trivial | cons _ _=>exact h.elim
   | cons e es ih=>intro vs h; cases vs with | nil=>exact h.elim | cons v vs=>exact ⟨pE.ent h.1,ih h.2⟩
  obtain ⟨es',os2,σ2,g2,I2,t2,h,hR2,zA,hs2,hl2⟩:=PZ mE (hev hl.2) h
  exact ⟨_,_,σ2,g2,I2,t2,h,hR2,pE.trans zA,hs2.trans hs1,⟨zA.ent hl1,hl2⟩⟩
 | [],_::_,_,_,_,_,_,_,_,_,_,hl,_=>hl.elim
 | _::_,[],_,_,_,_,_,_,_,_,_,hl,_=>hl.elim
theorem AY {p:Prog} : ∀ {os:List (Bool×Key)} {σ:S} {g:Gh} {I:aB} {tr:Tr},R n σ g I a w->(closeAll os p).wp cf σ tr Q ->
  ∃ σ' g' I' dI,p.wp cf σ' dI Q/\R n σ' g' I' a w/\gM σ.k g w I σ'.k g' w I'/\σ'.s=σ.s
 | [],σ,g,I,tr,hR,h=>⟨σ,g,I,tr,h,hR,gM.refl,rfl⟩
 | (b,k)::os,σ,g,I,tr,hR,h=>by
  simp only [closeAll] at h
  rcases jg h with ⟨-,h⟩ | ⟨-,h⟩
  ·obtain ⟨σ1,g1,I1,t1,h,mE,pE,hs1⟩:=MC hR h
   obtain ⟨σ2,g2,I2,t2,h,hR2,zA,hs2⟩:=AY mE h
   exact ⟨σ2,g2,I2,t2,h,hR2,pE.trans zA,hs2.trans hs1⟩
  ·obtain ⟨σ1,g1,I1,t1,h,mE,pE,hs1⟩:=X8 hR h
   obtain ⟨σ2,g2,I2,t2,h,hR2,zA,hs2⟩:=AY mE h
   exact ⟨σ2,g2,I2,t2,h,hR2,pE.trans zA,hs2.trans hs1⟩
theorem Ye (hR:R n σ g I a w) {nk:Key} {ms:List M} {es:List fC} {vs:List Value} {k:List fC->Prog} (hnk : ¬ gN n.np nk) (he:pY σ.k g w I es vs) (h:(OZ nk ms es k).wp cf σ tr Q) :
  ∃ es' σ' g' I' dI,(k es').wp cf σ' dI Q/\R n σ' g' I' a w/\gM σ.k g w I σ'.k g' w I'/\σ'.s=σ.s/\pY σ'.k g' w I' es' vs:=by
 match es,vs,he with
 | [],[],he=>exact ⟨_,σ,g,I,_,h,hR,gM.refl,rfl,trivial⟩
 | e::es,v::vs,he =>
  simp only [OZ] at h
  split at h
  ·exact ⟨_,σ,g,I,_,h,hR,gM.refl,rfl,he⟩
  ·split at h
   ·rename_i l
    obtain ⟨l',os',σ',g',I',dI,h1,h2,h3,h4,h5⟩:=xg hR hnk (l:=l) he.1 h
    exact ⟨_,σ',g',I',dI,h1,h2,h3,h4,⟨h5,h3.Ue he.2⟩⟩
   ·rename_i ls
    obtain ⟨⟨cs,rfl,he1⟩,he2⟩:=he
    obtain ⟨ls',os',σ',g',I',dI,h1,h2,h3,h4,h5⟩:=pW hR he1 h
    exact ⟨_,σ',g',I',dI,h1,h2,h3,h4,⟨⟨cs,rfl,h5⟩,h3.Ue he2⟩⟩
   ·exact ⟨_,σ,g,I,_,h,hR,gM.refl,rfl,he⟩
 | [],_::_,he=>exact he.elim
 | _::_,[],he=>exact he.elim
end
section
variable {Γ:Ctx} {P:Program} {cf:FuncId->List Arg->R3 fV}
variable {n:Fr} {σ:S} {g:Gh} {I:aB} {a:Act} {w w':World}
variable {o:Oper} {f:FuncId} {tr:Tr} {Q:S->Tr->Prop} {K:Act->World->Prop} {Qm:Exit->Act->World->Prop}
theorem Yf (hΓ:fE Γ P) (hcf:PY Γ P cf) (hd:dM n.np n.nt o=true) (hR:R n σ g I a w) (hK:Post P n I w Q K) {fr f:FuncId} {es:List fC} {vs:Array Value}
  (hrun : ∀ fn,Γ.fn f=some fn->(execOp a.eval o).run P w = .ok (.enter f vs) w) (hes:wZ σ.k g w I es vs.toList) (h:(O0 Γ fr f o.dst es).wp cf σ tr Q):Goal P o a w K Qm:=by
 unfold O0 at h
 obtain ⟨hfn,h⟩:=h
 obtain ⟨fn,hfn'⟩:=Option.isSome_iff_exists.1 hfn
 obtain ⟨es1,os,σ1,g1,I1,t0,h,mE,pE,hs1,alG⟩:=PZ hR hes h
 obtain ⟨args,c,t1,h,h1,-,h3,h4⟩:=PX mE (c:=⟨[],[],[]⟩) ⟨fun _ h=>(nomatch h),fun _ h=>(nomatch h)⟩ alG h
 obtain ⟨ha,h⟩:=h
 have hpre:=afQ mE h1 ha h3 h4
 simp only [Array.toArray_toList] at hpre
 refine .inl ?_
 unfold Oper.wp
 rw [hrun fn hfn',Oper.upon_enter]
 have hnb:cf f args ≠ .bad:=fun e=>by
  simp only [Prog.wp,e] at h
 refine Calls.mono (hcf f args hfn hnb _ _ _ _ _ hpre) fun e w' he=>?_
 cases e with
 | outgrown=>exact he.elim
 | panicked _=>exact he.elim
 | returned v =>
  obtain ⟨ret,g',I',hret,hr⟩:=he
  simp only [Prog.wp,hret] at h
  obtain ⟨σ2,g2,I2,t2,κ1,gg1,h,hR2,zA,hs2,hk2,evb,hB,haw⟩:=aea mE h1 ha hr h
  have hKK:Keeps (Im n I) w w':=hk2.weaken fun b o hb=>hb.imp (fun hb=>(pE.jP b o hb).1) id
  have hii : ∀ b o,I b o->I2 b o:=fun b o hb=>(zA.jP b o (pE.jP b o hb).1).1
  cases hdst:o.dst with
  | none =>
   rw [hdst] at h
   obtain ⟨σ3,g3,I3,t3,h,PE,ev3,hs3⟩:=AY hR2 h
   exact hK σ3 t3 g3 I3 a w' h PE (fun b o hb=>(ev3.jP b o (hii b o hb)).1) hKK
  | some d =>
   rw [hdst] at h
   simp only at h
   obtain ⟨vs,hv,hres⟩:=hr.res
   obtain ⟨hdn,aqU⟩:=Fu hd hdst
   have hkp:=aqU n.big
   have hsub : ∀ x∈ret.rs.flatMap eD,x∈iA ret:=fun x hx=>List.mem_append.2 (.inl hx)
   obtain ⟨xs,σ3,g3,t3,h,PE,ev3,hs3,hx⟩:=DV hB hkp hR2 evb hres hsub (List.nodup_append.1 hr.nd).1 haw h
   obtain ⟨σ4,g4,I4,t4,h,hR4,ev4,hs4⟩:=AY PE h
   obtain ⟨xs5,σ5,g5,I5,t5,h,hR5,ev5,hs5,hx5⟩:=Ye hR4 (hkp _) (ev4.Ue hx) h
   refine hK _ _ g5 I5 _ w' h ?_ (fun b o hb=>(ev5.jP b o (ev4.jP b o (hii b o hb)).1).1) hKK
   rw [hv]
   exact hR5.put hdn (ad9 hx5)
end
end Go.E

namespace Go.E
open Go
section
variable {Γ:Ctx} {P:Program} {cf:FuncId->List Arg->R3 fV}
variable {n:Fr} {σ:S} {g:Gh} {I:aB} {a:Act} {w w':World}
variable {o:Oper} {f:FuncId} {tr:Tr} {Q:S->Tr->Prop} {K:Act->World->Prop} {Qm:Exit->Act->World->Prop}
theorem Yg {d0:Nat} {c:Array Value} {el:TypeId} {ls:List Leaf} {pm:List M} (hdst:o.dst=some d0) (hd:dM n.np n.nt o=true) (hR:R n σ g I a w) (hK:Post P n I w Q K)
  (hrun:(execOp a.eval o).run P w = .ok (.value (.pointer (some ⟨w.heap.size,0,none⟩))) (World.pushed w (.cells c el))) (hl:cu σ.k g w I ls c.toList)
  (h:(Ot pm d0 ls).wp cf σ tr Q):Goal P o a w K Qm:=by
 cases pm with
 | nil=>exact acr hdst hd hR hK hrun hl h
 | cons m ms =>
  simp only [Ot] at h
  obtain ⟨ls',os',σ1,g1,I1,t1,h,mE,pE,hs1,hl1⟩:=pW hR hl h
  exact acr hdst hd mE (hK.mono fun b o h=>(pE.jP b o h).1) hrun hl1 h
theorem afR (hΓ:fE Γ P) (hd:dM n.np n.nt o=true) (hR:R n σ g I a w) (hK:Post P n I w Q K) {t:TypeId} (hop:o.op = .alloc t)
  (h:(bH Γ f o).wp cf σ tr Q):Goal P o a w K Qm:=by
 simp only [bH,hop] at h
 obtain ⟨d0,hdst,h⟩:=dX h
 obtain ⟨ti,-,hty,h⟩:=gD hΓ h
 obtain ⟨z,hz,hzs⟩:=sM (w:=w) hty
 refine Yg hdst hd hR hK (c:=z.cells) (el:=t) ?_ (Fx hzs) h
 have h1:(Instr.alloc t true (.tuple #[])).run P w = .ok (.pointer (some ⟨w.heap.size,0,none⟩)) (World.pushed w (.cells z.cells t)):=by
  simp only [Instr.alloc,Sem.run_bind,hz,Result.andThen_ok,newVar,uf]
  rfl
 simp only [execOp,hop]
 rw [Sem.run_bind,h1]
 rfl
theorem alN (hΓ:fE Γ P) (hd:dM n.np n.nt o=true) (hR:R n σ g I a w) (hK:Post P n I w Q K) {t:TypeId} {x:Operand} (hop:o.op = .box t x)
  (h:(bH Γ f o).wp cf σ tr Q):Goal P o a w K Qm:=by
 simp only [bH,hop] at h
 obtain ⟨d0,hdst,h⟩:=dX h
 obtain ⟨ti,-,hty,h⟩:=gD hΓ h
 obtain ⟨e,t1,he,h⟩:=jQ hR h
 obtain ⟨ls,hls,h⟩:=dX h
 refine Yg hdst hd hR hK (c:=(a.eval x).cells) (el:=t) ?_ (uE _ (JH he hls)) h
 have h1:(Instr.box t (a.eval x)).run P w = .ok (.pointer (some ⟨w.heap.size,0,none⟩)) (World.pushed w (.cells (a.eval x).cells t)):=by
  simp only [Instr.box,Sem.run_bind,newVar,uf,Result.andThen_ok]
  rfl
 simp only [execOp,hop]
 rw [Sem.run_bind,h1]
 rfl
theorem acC {ls:List Leaf} {pm:List M} {v:Array Value} (hd:dM n.np n.nt o=true) (hR:R n σ g I a w) (hK:Post P n I w Q K)
  (hrun:(execOp a.eval o).run P w = .ok (.value (.agg v)) w) (hl:cu σ.k g w I ls v.toList) (h:(Ou pm o.dst ls).wp cf σ tr Q):Goal P o a w K Qm:=by
 unfold Ou at h
 split at h
 ·rename_i m ms d hdst
  obtain ⟨ls',os',σ1,g1,I1,t1,h,mE,pE,hs1,hl1⟩:=pW hR hl h
  exact kG (e:=.agg ls') hd mE (hK.mono fun b o h=>(pE.jP b o h).1) hrun ⟨v,rfl,hl1⟩ h
 ·exact kG (e:=.agg ls) hd hR hK hrun ⟨v,rfl,hl⟩ h
theorem afS (hΓ:fE Γ P) (hd:dM n.np n.nt o=true) (hR:R n σ g I a w) (hK:Post P n I w Q K) {t:TypeId} {ps:Array (Nat×Operand)} (hop:o.op = .build t ps)
  (h:(bH Γ f o).wp cf σ tr Q):Goal P o a w K Qm:=by
 simp only [bH,hop] at h
 obtain ⟨ti,-,hty,h⟩:=gD hΓ h
 split at h
 ·rename_i fs hk
  obtain ⟨r,t1,hr,h⟩:=BP hR h
  obtain ⟨out,hout,h9⟩:=dX h
  obtain ⟨z,hz,hzs⟩:=sM (w:=w) hty
  obtain ⟨d,hu,hkd⟩:=hty.und
  rw [hk] at hkd
  obtain ⟨fields,rfl,rfl,hfi⟩:=hkd
  have hpl:(fields.mapM fun f=>do pure (f.offset,<-sizeOf f.type):Sem (Array (Nat×Nat))).run P w = .ok (fields.map fun f=>(f.offset,P.cellsOf f.type)) w:=by
   rw [Array.mapM_eq_mapM_toList]
   simp only [Sem.run_map]
   rw [run_places fields.toList fun f hf=>⟨_,(hfi f hf).choose_spec.1⟩]
   simp only [Result.andThen_ok]
   congr 1
   apply Array.toList_inj.1; simp
  obtain ⟨cells',Ul,hl⟩:=BQ (g:=g) (w:=w) (I:=I) (κ:=σ.k) hΓ (places:=((fields.map fun f=>(f.offset,P.cellsOf f.type))[·]?)) (fs:=fields.toList.map fun f=>(f.offset,f.type))
   (by
    intro i off ft hi tf htf
    simp only [List.getElem?_map,Option.map_eq_some_iff,Prod.mk.injEq] at hi
    obtain ⟨fd,hfd,rfl,rfl⟩:=hi
    obtain ⟨ii,h1,h2,-⟩:=(hΓ.ty _ _ htf).info
    have aqW:fields[i]? = some fd:=by simpa using hfd
    simp [aqW,Program.cellsOf,h1,h2]) r _ _ out z.cells hr (Fx hzs) hout
  refine acC hd hR hK (v:=cells') ?_ (uE _ hl) h9
  have h1:(Instr.build t (ps.map fun (i,x)=>(i,a.eval x))).run P w = .ok (.agg cells') w:=by
   simp only [Instr.build,Sem.run_bind,hz,Result.andThen_ok,run_underlying hu,hpl]
   have:(ps.map fun (i,x)=>(i,a.eval x)).toList=ps.toList.map fun p=>(p.1,a.eval p.2):=by simp
   rw [this,Ul]
   rfl
  simp only [execOp,hop]
  rw [Sem.run_bind,h1]
  rfl
 ·rename_i m el hk
  obtain ⟨te,aqX,hte,h⟩:=gD hΓ h
  obtain ⟨r,t1,hr,h⟩:=BP hR h
  obtain ⟨out,hout,h9⟩:=dX h
  obtain ⟨z,hz,hzs⟩:=sM (w:=w) hty
  obtain ⟨d,hu,hkd⟩:=hty.und
  rw [hk] at hkd
  obtain rfl:d = .array m el:=hkd
  obtain ⟨cells',Ul,hl⟩:=BQ (g:=g) (w:=w) (I:=I) (κ:=σ.k) hΓ (places:=fun i=>some (i * te.aR.length,te.aR.length)) (fs:=(List.range m).map fun i=>(i * te.aR.length,el))
   (by
    intro i off ft hi tf htf
    simp only [List.getElem?_map,Option.map_eq_some_iff,Prod.mk.injEq] at hi
    obtain ⟨j,hj,rfl,rfl⟩:=hi
    have hlt:=(List.getElem?_eq_some_iff.1 hj).1
    have hij:j=i:=by
     have:=(List.getElem?_eq_some_iff.1 hj).2
     simpa using this.symm
    subst hij
    rw [aqX] at htf
    cases htf
    rfl) r _ _ out z.cells hr (Fx hzs) hout
  refine acC hd hR hK (v:=cells') ?_ (uE _ hl) h9
  have h1:(Instr.build t (ps.map fun (i,x)=>(i,a.eval x))).run P w = .ok (.agg cells') w:=by
   simp only [Instr.build,Sem.run_bind,hz,Result.andThen_ok,run_underlying hu,run_sizeOf (w:=w) hte]
   have:(ps.map fun (i,x)=>(i,a.eval x)).toList=ps.toList.map fun p=>(p.1,a.eval p.2):=by simp
   rw [this,Ul]
   rfl
  simp only [execOp,hop]
  rw [Sem.run_bind,h1]
  rfl
 ·exact h.elim
end
end Go.E

namespace Go.E
open Go
section
variable {Γ:Ctx} {P:Program} {cf:FuncId->List Arg->R3 fV}
variable {n:Fr} {σ:S} {g:Gh} {I:aB} {a:Act} {w w':World}
variable {o:Oper} {f:FuncId} {tr:Tr} {Q:S->Tr->Prop} {K:Act->World->Prop} {Qm:Exit->Act->World->Prop}
theorem aeb {ρ:Operand->Value} {c:Call} {gx:Operand} {f:FuncId} {fn:Func} {vs:Array Value} (hop:o.op = .call c) (hc:c.callee = .value gx) (hg:ρ gx = .func (.func f) #[] vs)
  (hf:P.funcs[f]? = some fn) (h1:fn.body.isNone=false) (h2:(fn.name == "runtime.NumGoroutine")=false):(execOp ρ o).run P w = .ok (.enter f (c.args.map ρ++vs)) w:=by
 have e1:execOp ρ o=callFunc f (c.args.map ρ++vs):=by
  simp only [execOp,hop]
  simp only [resolve,hc,Deferred.ofValue,hg,pure_bind,invoke,Array.empty_append]
 rw [e1]
 unfold callFunc
 have hp:(program).run P w = .ok P w:=rfl
 rw [Sem.run_bind,hp]
 simp only [Result.andThen_ok,hf,h1,h2,Bool.false_eq_true,if_false]
 rfl
theorem WB (hΓ:fE Γ P) (hcf:PY Γ P cf) (hd:dM n.np n.nt o=true) (hR:R n σ g I a w) (hK:Post P n I w Q K) {c:Call} {gx:Operand} (hop:o.op = .call c) (hc:c.callee = .value gx)
  (h:(bH Γ f o).wp cf σ tr Q):Goal P o a w K Qm:=by
 simp only [bH,hop,hc] at h
 obtain ⟨ge,t1,hg,h⟩:=jQ hR h
 obtain ⟨es,t2,hes,h⟩:=zy hR h
 split at h
 ·rename_i f' caps
  obtain ⟨vs,hv,aou⟩:=hg
  refine Yf (fr:=f) (vs:=c.args.map a.eval++vs) hΓ hcf hd hR hK (fun fn hfn=>?_) ?_ h
  ·obtain ⟨h1,h2⟩:=hΓ.enter _ _ hfn
   exact aeb hop hc hv (hΓ.fn _ _ hfn) h1 h2
  ·rw [Array.toList_append,Array.toList_map]
   exact hes.app aou.ents
 ·exact h.elim
theorem aa1 (hΓ:fE Γ P) (hd:dM n.np n.nt o=true) (hR:R n σ g I a w) (hK:Post P n I w Q K) {s t:TypeId} {x:Operand} (hop:o.op = .convert s t x)
  (h:(bH Γ f o).wp cf σ tr Q):Goal P o a w K Qm:=by
 simp only [bH,hop] at h
 obtain ⟨d0,hdst,h⟩:=dX h
 obtain ⟨ts,-,hts,h⟩:=gD hΓ h
 obtain ⟨tt,-,htt,h⟩:=gD hΓ h
 obtain ⟨e,t1,he,h⟩:=jQ hR h
 by_cases hx:ts.kind = .sc .str /\ ∃ el,tt.kind = .slice el
 ·obtain ⟨h1,el,h2⟩:=hx
  exact Py hΓ hd hR hK hop hdst hts htt he h1 h2 h
 ·exact Nu hΓ hd hR hK hop hdst hts htt he hx h
theorem acD (hΓ:fE Γ P) (hd:dM n.np n.nt o=true) (hR:R n σ g I a w) (hK:Post P n I w Q K) {x:Operand} (hop:o.op = .move x\/o.op = .assign x)
  (h:(bH Γ f o).wp cf σ tr Q):Goal P o a w K Qm:=by
 have hrun:=run_move (P:=P) (w:=w) (ρ:=a.eval) hop
 have h':(rd x fun e=>VU Γ f o.type o.dst e).wp cf σ tr Q:=by
  rcases hop with hop | hop <;> simpa only [bH,hop] using h
 obtain ⟨e,dI,he,h1⟩:=jQ hR h'
 unfold VU at h1
 split at h1
 ·exact kG hd hR hK hrun he h1
 obtain ⟨ti,-,-,h2⟩:=gD hΓ h1
 have he2:=V8 (aR:=ti.aR) he
 have he3:=he2
 unfold afo at h2
 split at h2
 ·rename_i d0 es d hdst hent
  rw [hent] at he2
  cases hc:(Γ.own f d0 && !es.isEmpty) with
  | false=>rw [hc,cond_false] at h2; exact kG hd hR hK hrun he3 h2
  | true =>
   rw [hc,cond_true] at h2
   simp only [Bool.and_eq_true,Bool.not_eq_true',List.isEmpty_eq_false_iff] at hc
   obtain ⟨h3,h4,h5,h6⟩:=he2
   rw [h5] at hrun
   exact CK (F:=fun _ _=>False) (Z:=fun _ _=>False) hdst hd hR hK (Keeps.refl _ _) DF.none (fun _ _ h=>h.elim) hrun (h5 ▸ h3) (aV.nil hc.2 fun _ _ h=>h) h2
 ·exact kG hd hR hK hrun he2 h2
theorem afT (hΓ:fE Γ P) (hcf:PY Γ P cf) (hd:dM n.np n.nt o=true) (hR:R n σ g I a w) (hK:Post P n I w Q K)
  (h:(bH Γ f o).wp cf σ tr Q):Goal P o a w K Qm:=by
 cases hop:o.op with
 | move x=>exact acD hΓ hd hR hK (.inl hop) h
 | assign x=>exact acD hΓ hd hR hK (.inr hop) h
 | pick c x y=>exact aiE hd hR hK hop h
 | alloc t=>exact afR hΓ hd hR hK hop h
 | box t x=>exact alN hΓ hd hR hK hop h
 | build t ps=>exact afS hΓ hd hR hK hop h
 | buildSlice t m ps=>exact Tg hΓ hd hR hK hop h
 | load t x=>exact aiI hΓ hd hR hK hop h
 | store t x y=>exact afL hΓ hd hR hK hop h
 | nilCheck x=>exact XT hd hR hK hop h
 | binOp op t x y t'=>exact afz hΓ hd hR hK hop h
 | unOp op t x=>exact aiH hd hR hK hop h
 | convert s t x=>exact aa1 hΓ hd hR hK hop h
 | makeSlice t l c=>exact Wo hΓ hd hR hK hop h
 | slice t x lo hi mx =>
  cases mx with
  | none=>exact afN hΓ hd hR hK hop h
  | some m=>(cases hi with
   | none=>simp only [bH,hop] at h; exact h.elim
   | some hh=>exact ad4 hΓ hd hR hK hop h)
 | fieldAddr t x i=>exact Wj hΓ hd hR hK hop h
 | field t x i=>exact afA hΓ hd hR hK hop h
 | indexAddr t x i=>exact Wl hΓ hd hR hK hop h
 | index t x i=>exact afC hΓ hd hR hK hop h
 | extract x i=>exact aaM hd hR hK hop h
 | makeFunc fn first caps =>
  cases fn with
  | func fn=>exact X0 hd hR hK hop h
  | _=>simp only [bH,hop] at h; exact h.elim
 | call c =>
  cases hc:c.callee with
  | value gx=>exact WB hΓ hcf hd hR hK hop hc h
  | invoke _ _=>simp only [bH,hop,hc] at h; exact h.elim
  | builtin b =>
   cases b with
   | append=>exact ad2 hΓ hd hR hK hop hc h
   | len=>exact alx hΓ hd hR hK hop hc h
   | min=>exact aly hΓ hd hR hK hop hc h
   | max=>exact alz hΓ hd hR hK hop hc h
   | _=>simp only [bH,hop,hc] at h; exact h.elim
 | _=>simp only [bH,hop] at h; exact h.elim
end
end Go.E

namespace Go.E
open Go
def Prog.exec (cf:FuncId->List Arg->R3 fV):Prog->S->Tr->Option (S×Tr)
 | .ret,σ,tr=>some (σ,tr)
 | .fail,_,_=>none
 | .out,_,_=>none
 | .ig c p,σ,tr=>if c then p.exec cf σ tr else none
 | .lim _ p,σ,tr=>p.exec cf σ tr
 | .br c p q,σ,tr=>if c then p.exec cf σ tr else q.exec cf σ tr
 | .Dq t k,σ,tr=>(k (σ.s t)).exec cf σ { tr with rs:=t::tr.rs }
 | .mG t e p,σ,tr=>p.exec cf (σ.mG t e) { tr with ws:=t::tr.ws }
 | .fZ k c,σ,tr=>(c (σ.k k)).exec cf σ { tr with rk:=k::tr.rk }
 | .bK k e p,σ,tr=>p.exec cf (σ.bK k e) { tr with wk:=k::tr.wk }
 | .call f args k,σ,tr=>match cf f args with
  | .ok r=>(k r).exec cf σ tr
  | _=>none
theorem Prog.pJ {cf:FuncId->List Arg->R3 fV} {α:Type} : ∀ (p:Prog) (σ:S) (tr:Tr) (K:S->Tr->R3 α),
  p.run cf σ tr K ≠ .bad->∃ σ' dI,p.exec cf σ tr=some (σ',dI)/\p.run cf σ tr K=K σ' dI
 | .ret,σ,tr,K,h=>⟨σ,tr,rfl,rfl⟩
 | .fail,_,_,_,h=>(h rfl).elim
 | .out,_,_,_,h=>(h rfl).elim
 | .ig c p,σ,tr,K,h=>by
  cases c
  ·exact (h rfl).elim
  ·exact Prog.pJ p σ tr K h
 | .lim c p,σ,tr,K,h=>Prog.pJ p σ tr K h
 | .br c p q,σ,tr,K,h=>by
  cases c
  ·exact Prog.pJ q σ tr K h
  ·exact Prog.pJ p σ tr K h
 | .Dq t k,σ,tr,K,h=>Prog.pJ (k (σ.s t)) σ _ K h
 | .mG t e p,σ,tr,K,h=>Prog.pJ p _ _ K h
 | .fZ k c,σ,tr,K,h=>Prog.pJ (c (σ.k k)) σ _ K h
 | .bK k e p,σ,tr,K,h=>Prog.pJ p _ _ K h
 | .call f args k,σ,tr,K,h=>by
  simp only [Prog.run,Prog.exec,R3.bind] at h ⊢
  cases hc:cf f args with
  | ok r=>simp only [hc] at h ⊢; exact Prog.pJ (k r) σ tr K h
  | out=>simp [hc] at h
  | bad=>simp [hc] at h
theorem Prog.sZ {cf:FuncId->List Arg->R3 fV} : ∀ (p:Prog) {σ σ':S} {tr dI:Tr},p.exec cf σ tr=some (σ',dI)->p.wp cf σ tr fun s t=>s=σ'/\t=dI
 | .ret,σ,_,tr,_,h=>by cases h; exact ⟨rfl,rfl⟩
 | .fail,_,_,_,_,h=>by cases h
 | .out,_,_,_,_,h=>trivial
 | .ig c p,σ,_,tr,_,h=>by
  cases c
  ·cases h
  ·exact ⟨rfl,Prog.sZ p h⟩
 | .lim c p,σ,_,tr,_,h=>fun _=>Prog.sZ p h
 | .br c p q,σ,_,tr,_,h=>by
  cases c
  ·exact Prog.sZ q h
  ·exact Prog.sZ p h
 | .Dq t k,σ,_,tr,_,h=>Prog.sZ (k (σ.s t)) h
 | .mG t e p,σ,_,tr,_,h=>Prog.sZ p h
 | .fZ k c,σ,_,tr,_,h=>Prog.sZ (c (σ.k k)) h
 | .bK k e p,σ,_,tr,_,h=>Prog.sZ p h
 | .call f args k,σ,_,tr,_,h=>by
  simp only [Prog.wp,Prog.exec] at h ⊢
  cases hc:cf f args with
  | ok r=>simp only [hc] at h ⊢; exact Prog.sZ (k r) h
  | out=>trivial
  | bad=>simp [hc] at h
def Tr.app (d tr:Tr):Tr:=⟨d.rs++tr.rs,d.ws++tr.ws,d.rk++tr.rk,d.wk++tr.wk⟩
theorem Tr.JU (d:Tr):d.app {} = d:=by cases d; simp [Tr.app]
structure Local (cf:FuncId->List Arg->R3 fV) (p:Prog) (σ σ':S) (d:Tr):Prop where
 ext : ∀ σ2 tr2,(∀ t∈d.rs,σ2.s t=σ.s t)->(∀ k∈d.rk,σ2.k k=σ.k k)->∃ JV,p.exec cf σ2 tr2=some (JV,d.app tr2) /\
  (∀ t,(t∈d.ws->JV.s t=σ'.s t)/\(t ∉ d.ws->JV.s t=σ2.s t)) /\ ∀ k,(k∈d.wk->JV.k k=σ'.k k)/\(k ∉ d.wk->JV.k k=σ2.k k)
theorem yZ (σ:S) (t:Nat) (e:fC):(σ.mG t e).s t=e:=by simp [S.mG]
theorem zB (σ:S) {t u:Nat} (e:fC) (h:u≠t):(σ.mG t e).s u=σ.s u:=by
 have:Nat.beq u t=false:=by
  cases hb:Nat.beq u t
  ·rfl
  ·exact absurd (Nat.eq_of_beq_eq_true hb) h
 simp [S.mG,this]
theorem DX (σ:S) (k:Key) (e:KE):(σ.bK k e).k k=e:=by simp [S.bK,gu]
theorem FD (σ:S) {k u:Key} (e:KE) (h:u≠k):(σ.bK k e).k u=σ.k u:=by
 have:dQ u k=false:=by
  cases hb:dQ u k
  ·rfl
  ·exact absurd ((eX _ _).1 hb) h
 simp [S.bK,this]
theorem Prog.kZ {cf:FuncId->List Arg->R3 fV} : ∀ (p:Prog) {σ σ':S} {tr dI:Tr},p.exec cf σ tr=some (σ',dI)->∃ d:Tr,dI=d.app tr/\Local cf p σ σ' d
 | .ret,σ,_,tr,_,h=>by
  cases h
  exact ⟨{},by simp [Tr.app],⟨fun σ2 tr2 _ _=>⟨σ2,by simp [Prog.exec,Tr.app],fun t=>⟨fun h=>(nomatch h),fun _=>rfl⟩,fun k=>⟨fun h=>(nomatch h),fun _=>rfl⟩⟩⟩⟩
 | .fail,_,_,_,_,h=>by cases h
 | .out,_,_,_,_,h=>by cases h
 | .ig c p,σ,_,tr,_,h=>by
  cases c
  ·cases h
  ·obtain ⟨d,h1,h2⟩:=Prog.kZ p h
   exact ⟨d,h1,⟨h2.ext⟩⟩
 | .lim c p,σ,_,tr,_,h=>by
  obtain ⟨d,h1,h2⟩:=Prog.kZ p h
  exact ⟨d,h1,⟨h2.ext⟩⟩
 | .br c p q,σ,_,tr,_,h=>by
  cases c
  ·obtain ⟨d,h1,h2⟩:=Prog.kZ q h
   exact ⟨d,h1,⟨h2.ext⟩⟩
  ·obtain ⟨d,h1,h2⟩:=Prog.kZ p h
   exact ⟨d,h1,⟨h2.ext⟩⟩
 | .Dq t k,σ,_,tr,_,h=>by
  obtain ⟨d,h1,h2⟩:=Prog.kZ (k (σ.s t)) h
  refine ⟨⟨d.rs++[t],d.ws,d.rk,d.wk⟩,by rw [h1]; simp [Tr.app],⟨fun σ2 tr2 hs hk=>?_⟩⟩
  obtain ⟨JV,h3,h4,h5⟩:=h2.ext σ2 { tr2 with rs:=t::tr2.rs } (fun u hu=>hs u (by simp [hu])) hk
  refine ⟨JV,?_,h4,h5⟩
  simp only [Prog.exec]
  rw [hs t (by simp),h3]
  simp [Tr.app]
 | .mG t e p,σ,σ',tr,_,h=>by
  obtain ⟨d,h1,h2⟩:=Prog.kZ p h
  have own:=(h2.ext (σ.mG t e) { tr with ws:=t::tr.ws } (fun _ _=>rfl) fun _ _=>rfl)
  obtain ⟨σo,ho1,ho2,-⟩:=own
  have hoo:σo=σ':=by
   have h':p.exec cf (σ.mG t e) { tr with ws:=t::tr.ws } = some (σ',_):=h
   rw [ho1] at h'
   cases h'; rfl
  subst hoo
  refine ⟨⟨d.rs,d.ws++[t],d.rk,d.wk⟩,by rw [h1]; simp [Tr.app],⟨fun σ2 tr2 hs hk=>?_⟩⟩
  obtain ⟨JV,h3,h4,h5⟩:=h2.ext (σ2.mG t e) { tr2 with ws:=t::tr2.ws } (fun u hu=>by
   by_cases hut:u=t
   ·subst hut; rw [yZ,yZ]
   ·rw [zB _ _ hut,zB _ _ hut]; exact hs u hu) hk
  refine ⟨JV,by simp only [Prog.exec]; rw [h3]; simp [Tr.app],fun u=>⟨fun hu=>?_,fun hu=>?_⟩,h5⟩
  ·by_cases hw:u∈d.ws
   ·exact (h4 u).1 hw
   ·rw [(h4 u).2 hw,(ho2 u).2 hw]
    have hut:u=t:=by simpa [hw] using hu
    subst hut
    rw [yZ,yZ]
  ·simp only [List.mem_append,List.mem_cons,List.not_mem_nil,or_false,not_or] at hu
   rw [(h4 u).2 hu.1,zB _ _ hu.2]
 | .fZ k c,σ,_,tr,_,h=>by
  obtain ⟨d,h1,h2⟩:=Prog.kZ (c (σ.k k)) h
  refine ⟨⟨d.rs,d.ws,d.rk++[k],d.wk⟩,by rw [h1]; simp [Tr.app],⟨fun σ2 tr2 hs hk=>?_⟩⟩
  obtain ⟨JV,h3,h4,h5⟩:=h2.ext σ2 { tr2 with rk:=k::tr2.rk } hs (fun u hu=>hk u (by simp [hu]))
  refine ⟨JV,?_,h4,h5⟩
  simp only [Prog.exec]
  rw [hk k (by simp),h3]
  simp [Tr.app]
 | .bK t e p,σ,σ',tr,_,h=>by
  obtain ⟨d,h1,h2⟩:=Prog.kZ p h
  have own:=(h2.ext (σ.bK t e) { tr with wk:=t::tr.wk } (fun _ _=>rfl) fun _ _=>rfl)
  obtain ⟨σo,ho1,-,ho2⟩:=own
  have hoo:σo=σ':=by
   have h':p.exec cf (σ.bK t e) { tr with wk:=t::tr.wk } = some (σ',_):=h
   rw [ho1] at h'
   cases h'; rfl
  subst hoo
  refine ⟨⟨d.rs,d.ws,d.rk,d.wk++[t]⟩,by rw [h1]; simp [Tr.app],⟨fun σ2 tr2 hs hk=>?_⟩⟩
  obtain ⟨JV,h3,h4,h5⟩:=h2.ext (σ2.bK t e) { tr2 with wk:=t::tr2.wk } hs (fun u hu=>by
   by_cases hut:u=t
   ·subst hut; rw [DX,DX]
   ·rw [FD _ _ hut,FD _ _ hut]; exact hk u hu)
  refine ⟨JV,by simp only [Prog.exec]; rw [h3]; simp [Tr.app],h4,fun u=>⟨fun hu=>?_,fun hu=>?_⟩⟩
  ·by_cases hw:u∈d.wk
   ·exact (h5 u).1 hw
   ·rw [(h5 u).2 hw,(ho2 u).2 hw]
    have hut:u=t:=by simpa [hw] using hu
    subst hut
    rw [DX,DX]
  ·simp only [List.mem_append,List.mem_cons,List.not_mem_nil,or_false,not_or] at hu
   rw [(h5 u).2 hu.1,FD _ _ hu.2]
 | .call f args k,σ,_,tr,_,h=>by
  simp only [Prog.exec] at h
  cases hc:cf f args with
  | ok r =>
   simp only [hc] at h
   obtain ⟨d,h1,h2⟩:=Prog.kZ (k r) h
   refine ⟨d,h1,⟨fun σ2 tr2 hs hk=>?_⟩⟩
   simp only [Prog.exec,hc]
   exact h2.ext σ2 tr2 hs hk
  | out=>simp [hc] at h
  | bad=>simp [hc] at h
theorem S.ext' {σ σ':S} (h : ∀ t,σ.s t=σ'.s t) (h' : ∀ k,σ.k k=σ'.k k):σ=σ':=by
 cases σ; cases σ'
 simp only [S.mk.injEq]
 exact ⟨funext h,funext h'⟩
structure JW (a b:Tr):Prop where
 ww : ∀ t,t∈a.ws->t ∉ b.ws
 wr : ∀ t,t∈a.ws->t ∉ b.rs
 rw : ∀ t,t∈b.ws->t ∉ a.rs
 kww : ∀ t,t∈a.wk->t ∉ b.wk
 kwr : ∀ t,t∈a.wk->t ∉ b.rk
 krw : ∀ t,t∈b.wk->t ∉ a.rk
theorem any_false {α:Type} {l:List α} {p:α->Bool} (h:l.any p=false) (t:α) (ht:t∈l):p t=false:=by
 cases hp:p t with
 | false=>rfl
 | true=>rw [List.any_eq_true.2 ⟨t,ht,hp⟩] at h; cases h
theorem JW.of {a b:Tr} (h:VZ a b=true):JW a b:=by
 unfold VZ at h
 simp only [Bool.and_eq_true,Bool.not_eq_true',Bool.or_eq_false_iff] at h
 obtain ⟨⟨⟨h1,h2⟩,h3⟩,h4⟩:=h
 have nb : ∀ {t u:Nat},t=u->Nat.beq t u=true:=fun h=>by subst h; simp
 refine ⟨fun t ht hb=>?_,fun t ht hb=>?_,fun t ht hb=>?_,fun t ht hb=>?_,fun t ht hb=>?_,fun t ht hb=>?_⟩
 ·have:=any_false h1 t ht
  simp only [Bool.or_eq_false_iff] at this
  rw [List.any_eq_true.2 ⟨t,hb,nb rfl⟩] at this
  cases this.1
 ·have:=any_false h1 t ht
  simp only [Bool.or_eq_false_iff] at this
  rw [List.any_eq_true.2 ⟨t,hb,nb rfl⟩] at this
  cases this.2
 ·have:=any_false h2 t ht
  rw [List.any_eq_true.2 ⟨t,hb,nb rfl⟩] at this
  cases this
 ·have:=any_false h3 t ht
  simp only [Bool.or_eq_false_iff] at this
  rw [List.any_eq_true.2 ⟨t,hb,gu t⟩] at this
  cases this.1
 ·have:=any_false h3 t ht
  simp only [Bool.or_eq_false_iff] at this
  rw [List.any_eq_true.2 ⟨t,hb,gu t⟩] at this
  cases this.2
 ·have:=any_false h4 t ht
  rw [List.any_eq_true.2 ⟨t,hb,gu t⟩] at this
  cases this
theorem aec {cf:FuncId->List Arg->R3 fV} {p q:Prog} {σ σ1 σ2:S} {a b:Tr} (hp:p.exec cf σ {} = some (σ1,a)) (hq:q.exec cf σ1 {} = some (σ2,b)) (hi:JW a b) :
  ∃ σ3,q.exec cf σ {} = some (σ3,b)/\p.exec cf σ3 {} = some (σ2,a):=by
 obtain ⟨da,ha,la⟩:=Prog.kZ p hp
 obtain ⟨db,hb,lb⟩:=Prog.kZ q hq
 rw [Tr.JU] at ha hb
 subst ha; subst hb
 obtain ⟨auN,e1,s1,k1⟩:=la.ext σ {} (fun _ _=>rfl) fun _ _=>rfl
 rw [Tr.JU,hp] at e1; cases e1
 obtain ⟨JV,e2,s2,k2⟩:=lb.ext σ1 {} (fun _ _=>rfl) fun _ _=>rfl
 rw [Tr.JU,hq] at e2; cases e2
 obtain ⟨σ3,e3,s3,k3⟩:=lb.ext σ {} (fun t ht=>((s1 t).2 fun h=>hi.wr t h ht).symm) fun k hk=>((k1 k).2 fun h=>hi.kwr k h hk).symm
 rw [Tr.JU] at e3
 obtain ⟨σ4,e4,s4,k4⟩:=la.ext σ3 {} (fun t ht=>(s3 t).2 fun h=>hi.rw t h ht) fun k hk=>(k3 k).2 fun h=>hi.krw k h hk
 rw [Tr.JU] at e4
 refine ⟨σ3,e3,?_⟩
 have:σ4=σ2:=by
  refine S.ext' (fun t=>?_) fun t=>?_
  ·by_cases ha:t∈a.ws
   ·have hb:=hi.ww t ha
    rw [(s4 t).1 ha,(s2 t).2 hb]
   ·rw [(s4 t).2 ha]
    by_cases hb:t∈b.ws
    ·rw [(s3 t).1 hb]
    ·rw [(s3 t).2 hb,(s2 t).2 hb,(s1 t).2 ha]
  ·by_cases ha:t∈a.wk
   ·have hb:=hi.kww t ha
    rw [(k4 t).1 ha,(k2 t).2 hb]
   ·rw [(k4 t).2 ha]
    by_cases hb:t∈b.wk
    ·rw [(k3 t).1 hb]
    ·rw [(k3 t).2 hb,(k2 t).2 hb,(k1 t).2 ha]
 rw [this] at e4
 exact e4
end Go.E

namespace Go.E
open Go
section
variable {Γ:Ctx} {P:Program} {cf:FuncId->List Arg->R3 fV}
def JX (Γ:Ctx) (f:FuncId) (ops:Array Oper) (o:Oper):Prog :=
 match o.guard with
 | none=>bH Γ f o
 | some (i,want) =>
  match (ops[i]?).bind (·.dst) with
  | none=>.fail
  | some g=>.Dq g fun e=>match e with
   | .und=>put o.dst .und
   | .one ⟨.sc,.sc .bool,d⟩=>.br (d.bool==want) (bH Γ f o) (put o.dst .und)
   | _=>.fail
def Runs (cf:FuncId->List Arg->R3 fV) (Γ:Ctx) (f np nt:Nat) (ops:Array Oper):List Oper->S->List Tr->S->Prop
 | [],σ,Dm,σ'=>Dm=[]/\σ=σ'
 | o::os,σ,Dm,σ'=>dM np nt o=true /\ ∃ σ1 tr ts,(JX Γ f ops o).exec cf σ {} = some (σ1,tr)/\Dm=tr::ts/\Runs cf Γ f np nt ops os σ1 ts σ'
def EC (σ:S) (asm:List (Nat×Bool)):Prop:=∀ p∈asm,∃ d,σ.s p.1 = .one ⟨.sc,.sc .bool,d⟩/\d.bool=p.2
theorem AZ {g:Nat} {b:Bool} : ∀ {asm:List (Nat×Bool)},yw g asm=some b->(g,b)∈asm
 | [],h=>by cases h
 | (u,c)::r,h=>by
  simp only [yw] at h
  cases hb:Nat.beq g u with
  | true=>rw [hb] at h; cases h; have:=Nat.eq_of_beq_eq_true hb; subst this; simp
  | false=>rw [hb] at h; simp [AZ h]
theorem FE {ws:List Nat} {p:Nat×Bool} : ∀ {asm:List (Nat×Bool)},p∈uW ws asm->p∈asm/\p.1 ∉ ws
 | [],h=>by cases h
 | (u,c)::r,h=>by
  simp only [uW] at h
  cases hb:ws.any (Nat.beq u) with
  | true=>rw [hb] at h; obtain ⟨h1,h2⟩:=FE h; exact ⟨by simp [h1],h2⟩
  | false =>
   rw [hb] at h
   rcases List.mem_cons.1 h with rfl | h
   ·refine ⟨by simp,fun hw=>?_⟩
    rw [List.any_eq_true.2 ⟨u,hw,by simp⟩] at hb
    cases hb
   ·obtain ⟨h1,h2⟩:=FE h; exact ⟨by simp [h1],h2⟩
theorem Yh {p:Prog} {σ σ':S} {d0:Tr} {dI:Tr} (h0:d0.ws=[]) (h:p.exec cf σ d0=some (σ',dI)) : ∀ t,t ∉ dI.ws->σ'.s t=σ.s t:=by
 obtain ⟨d,hd,hl⟩:=Prog.kZ p h
 obtain ⟨σ2,h1,h2,-⟩:=hl.ext σ d0 (fun _ _=>rfl) fun _ _=>rfl
 rw [<-hd,h] at h1
 cases h1
 intro t ht
 refine (h2 t).2 fun hw=>ht ?_
 rw [hd]
 simp [Tr.app,hw]
theorem EC.drop {σ σ':S} {asm:List (Nat×Bool)} {ws:List Nat} (h:EC σ asm) (hw : ∀ t,t ∉ ws->σ'.s t=σ.s t):EC σ' (uW ws asm):=by
 intro p hp
 obtain ⟨h1,h2⟩:=FE hp
 rw [hw _ h2]
 exact h p h1
theorem FH {x:Operand} {k k':fC->Prog} {σ:S} {tr:Tr} (h : ∀ e tr,((∃ u,x = .tmp u/\e=σ.s u) \/ ∀ u,x ≠ .tmp u)->(k e).exec cf σ tr=(k' e).exec cf σ tr):(rd x k).exec cf σ tr=(rd x k').exec cf σ tr:=by
 unfold rd
 split
 ·simp only [Prog.exec]; exact h _ _ (.inl ⟨_,rfl,rfl⟩)
 ·exact h _ _ (.inr fun _ h=>nomatch h)
 ·rename_i cs
  cases cs.toList.mapM Dr with
  | none=>rfl
  | some ls=>exact h _ _ (.inr fun _ h=>nomatch h)
 ·rename_i v _ _
  cases Dr v with
  | none=>rfl
  | some l=>exact h _ _ (.inr fun _ h=>nomatch h)
 ·exact h _ _ (.inr fun _ h=>nomatch h)
 ·rfl
theorem Yi {σ:S} {asm:List (Nat×Bool)} (ha:EC σ asm) {x:Operand} {e:fC} {tr:Tr} {o:Oper} (h:(∃ u,x = .tmp u/\e=σ.s u) \/ ∀ u,x ≠ .tmp u) :
  (vO (XP asm x e) fun s x=>qb o.dst s (O7 s x)).exec cf σ tr=(vO e fun s x=>qb o.dst s (O7 s x)).exec cf σ tr:=by
 rcases h with ⟨u,rfl,rfl⟩ | h
 ·unfold XP
  simp only
  cases hl:yw u asm with
  | none=>rfl
  | some w =>
   obtain ⟨d,h1,h2⟩:=ha _ (AZ hl)
   simp only at h1 h2
   rw [h1]
   subst h2
   rfl
 ·unfold XP
  split
  ·exact absurd rfl (h _)
  ·rfl
theorem DY {σ:S} {asm:List (Nat×Bool)} (ha:EC σ asm) (f:FuncId) (o:Oper) (tr:Tr):(Oz Γ f asm o).exec cf σ tr=(bH Γ f o).exec cf σ tr:=by
 unfold Oz
 split
 ·rename_i c a b hop
  split
  ·rename_i v hl
   obtain ⟨d,hd1,hd2⟩:=ha _ (AZ hl)
   simp only at hd1 hd2
   have e:(bH Γ f o)=(.Dq c fun ec=>rd a fun a=>rd b fun b=>vO ec fun sc c=>match sc with
     | .bool=>.br c.bool (vO a fun s x=>qb o.dst s (O7 s x)) (vO b fun s x=>qb o.dst s (O7 s x))
     | _=>.fail):=by simp only [bH,hop]; rfl
   rw [e]
   simp only [Prog.exec,hd1]
   refine FH fun ea tr hea=>FH fun eb tr heb=>?_
   show _=(Prog.br d.bool (vO ea fun s x=>qb o.dst s (O7 s x)) (vO eb fun s x=>qb o.dst s (O7 s x))).exec cf σ tr
   rw [hd2]
   cases v
   ·exact Yi ha heb
   ·exact Yi ha hea
  ·rfl
 ·rfl
theorem MK {α:Type} {f np nt:Nat} {ops:Array Oper} : ∀ {l:List Oper} {σ:S} {Dm:List Tr} {asm:List (Nat×Bool)} {K:S->List Tr->List (Nat×Bool)->R3 α},EC σ asm ->
  uX Γ cf f np nt ops l σ Dm asm K ≠ .bad->∃ σ' ts Yj,Runs cf Γ f np nt ops l σ ts σ'/\EC σ' Yj/\uX Γ cf f np nt ops l σ Dm asm K=K σ' (Dm.reverse++ts) Yj
 | [],σ,Dm,asm,K,ha,h=>⟨σ,[],asm,⟨rfl,rfl⟩,ha,by simp [uX]⟩
 | o::os,σ,Dm,asm,K,ha,h=>by
  simp only [uX] at h ⊢
  cases hd:dM np nt o with
  | false=>rw [hd] at h; exact (h rfl).elim
  | true =>
   rw [hd] at h
   simp only [cond_true] at h ⊢
   have main : ∀ (p:Prog) (tr0:Tr) (asm:List (Nat×Bool)),EC σ asm->tr0.ws=[]->(∀ x,p.exec cf σ tr0=some x->(JX Γ f ops o).exec cf σ {} = some x) ->
     p.run cf σ tr0 (fun σ tr=>uX Γ cf f np nt ops os σ (tr::Dm) (uW tr.ws asm) K) ≠ .bad ->
     ∃ σ' ts Yj,Runs cf Γ f np nt ops (o::os) σ ts σ'/\EC σ' Yj/\p.run cf σ tr0 (fun σ tr=>uX Γ cf f np nt ops os σ (tr::Dm) (uW tr.ws asm) K)=K σ' (Dm.reverse++ts) Yj:=by
    intro p tr0 asm ha h0 hex h
    obtain ⟨σ1,tr1,h1,h2⟩:=Prog.pJ p σ tr0 _ h
    rw [h2] at h ⊢
    obtain ⟨σ',ts,Yj,h3,h4,h5⟩:=MK (ha.drop (Yh h0 h1)) h
    refine ⟨σ',tr1::ts,Yj,⟨hd,σ1,tr1,ts,hex _ h1,rfl,h3⟩,h4,?_⟩
    rw [h5]
    simp
   cases hg:o.guard with
   | none =>
    rw [hg] at h
    simp only at h ⊢
    exact main _ _ _ ha rfl (fun x hx=>by simp only [JX,hg]; rw [DY ha] at hx; exact hx) h
   | some gw =>
    obtain ⟨i,want⟩:=gw
    rw [hg] at h
    simp only at h ⊢
    cases hs:(ops[i]?).bind (·.dst) with
    | none=>rw [hs] at h; exact (h rfl).elim
    | some g =>
     rw [hs] at h
     simp only at h ⊢
     have hgp:JX Γ f ops o = .Dq g fun e=>match e with
       | .und=>put o.dst .und
       | .one ⟨.sc,.sc .bool,d⟩=>.br (d.bool==want) (bH Γ f o) (put o.dst .und)
       | _=>.fail:=by unfold JX; rw [hg]; simp only [hs]
     cases hl:yw g asm with
     | some b =>
      rw [hl] at h
      simp only at h ⊢
      obtain ⟨d,hd1,hd2⟩:=ha _ (AZ hl)
      simp only at hd1 hd2
      cases hb:(b==want) with
      | true =>
       rw [hb] at h
       exact main _ _ _ ha rfl (fun x hx=>by rw [DY ha] at hx; rw [hgp]; simp only [Prog.exec,hd1,hd2,hb,if_true]; exact hx) h
      | false =>
       rw [hb] at h
       exact main _ _ _ ha rfl (fun x hx=>by rw [hgp]; simp only [Prog.exec,hd1,hd2,hb]; exact hx) h
     | none =>
      rw [hl] at h
      simp only at h ⊢
      split at h
      ·rename_i hu
       exact main _ _ _ ha rfl (fun x hx=>by rw [hgp]; simp only [Prog.exec,hu]; exact hx) h
      ·rename_i d hu
       cases hb:(d.bool==want) with
       | true =>
        rw [hb] at h
        have ha':EC σ ((g,want)::asm):=by
         intro p hp
         rcases List.mem_cons.1 hp with rfl | hp
         ·exact ⟨d,hu,by simpa using hb⟩
         ·exact ha p hp
        exact main _ _ _ ha' rfl (fun x hx=>by rw [DY ha'] at hx; rw [hgp]; simp only [Prog.exec,hu,hb,if_true]; exact hx) h
       | false =>
        rw [hb] at h
        refine main _ _ _ ?_ rfl (fun x hx=>by rw [hgp]; simp only [Prog.exec,hu,hb]; exact hx) h
        intro p hp
        rcases List.mem_cons.1 hp with rfl | hp
        ·refine ⟨d,hu,?_⟩
         show d.bool = !want
         cases hd:d.bool <;> cases want <;> simp_all
        ·exact ha p hp
      ·exact (h rfl).elim
variable {n:Fr} {σ σ1:S} {g:Gh} {I:aB} {a:Act} {w w':World}
variable {o:Oper} {f:FuncId} {tr:Tr} {K:Act->World->Prop} {Qm:Exit->Act->World->Prop}
def To (n:Fr) (σ1:S) (I:aB) (w:World) (K:Act->World->Prop):Prop:=∀ g' I' a' w',R n σ1 g' I' a' w'->(∀ b o,I b o->I' b o)->Keeps (Im n I) w w'->K a' w'
theorem To.post (h:To n σ1 I w K):Post P n I w (fun s t=>s=σ1/\t=tr) K:=fun σ' dI g' I' a' w' hq hR hi hk=>h g' I' a' w' (hq.1 ▸ hR) hi hk
theorem afU (hΓ:fE Γ P) (hcf:PY Γ P cf) (hd:dM n.np n.nt o=true) (hR:R n σ g I a w) {ops:Array Oper} (h:(JX Γ f ops o).exec cf σ {} = some (σ1,tr)) (hK:To n σ1 I w K) :
  if Region.wanted o (yielded ops a.tmps) then o.wp P a w K Qm\/(o.asks P a w/\LetsOut Qm) else K (a.put o.dst undef) w:=by
 have hstep : ∀ {tr0:Tr},(bH Γ f o).exec cf σ tr0=some (σ1,tr)->o.wp P a w K Qm\/(o.asks P a w/\LetsOut Qm):=fun h =>
  afT hΓ hcf hd hR hK.post (Prog.sZ _ h)
 have aj1 : ∀ {tr0:Tr},(put o.dst .und).exec cf σ tr0=some (σ1,tr)->K (a.put o.dst undef) w:=fun h=>by
  cases hdst:o.dst with
  | none =>
   rw [hdst] at h
   simp only [put,Prog.exec,Option.some.injEq,Prod.mk.injEq] at h
   obtain ⟨rfl,-⟩:=h
   exact hK g I a w hR (fun _ _ h=>h) (Keeps.refl _ _)
  | some d =>
   rw [hdst] at h
   simp only [put,Prog.exec,Option.some.injEq,Prod.mk.injEq] at h
   obtain ⟨rfl,-⟩:=h
   exact hK g I _ w (hR.put (Fu hd hdst).1 (e:=.und) rfl) (fun _ _ h=>h) (Keeps.refl _ _)
 unfold JX at h
 cases hg:o.guard with
 | none =>
  rw [hg] at h
  rw [if_pos (by simp [Region.wanted,hg])]
  exact hstep h
 | some gw =>
  obtain ⟨i,want⟩:=gw
  rw [hg] at h
  simp only at h
  cases hs:(ops[i]?).bind (·.dst) with
  | none=>rw [hs] at h; cases h
  | some t =>
   rw [hs] at h
   simp only [Prog.exec] at h
   have hsl:=hR.slots t
   split at h
   ·rename_i hu
    rw [hu] at hsl
    have hv:a.tmps.getD t undef=undef:=hsl
    have hw:Region.wanted o (yielded ops a.tmps)=false:=by
     simp only [Region.wanted,hg,yielded,hs,Option.bind_some]
     cases hx:a.tmps[t]? with
     | none=>rfl
     | some v =>
      have:v=undef:=by simpa [Array.getD_eq_getD_getElem?,hx] using hv
      subst this
      rfl
    rw [if_neg (by rw [hw]; simp)]
    exact aj1 h
   ·rename_i d hu
    rw [hu] at hsl
    obtain ⟨-,s',e1,hbb⟩:=hsl
    cases e1
    obtain ⟨b,hv,hd'⟩:=hbb
    simp only at hd'
    subst hd'
    have hw:Region.wanted o (yielded ops a.tmps)=(b==want):=by
     simp only [Region.wanted,hg,yielded,hs,Option.bind_some]
     cases hx:a.tmps[t]? with
     | none=>simp [Array.getD_eq_getD_getElem?,hx,undef] at hv
     | some v =>
      have:v = .bool b:=by simpa [Array.getD_eq_getD_getElem?,hx] using hv
      subst this
      rfl
    have h':(if (b==want)=true then (bH Γ f o).exec cf σ { rs:=[t] } else (put o.dst .und).exec cf σ { rs:=[t] })=some (σ1,tr):=h
    cases hb:(b==want) with
    | true =>
     rw [if_pos hb] at h'
     rw [hb] at hw
     rw [if_pos hw]
     exact hstep h'
    | false =>
     rw [if_neg (by rw [hb]; simp)] at h'
     rw [hb] at hw
     rw [if_neg (by rw [hw]; simp)]
     exact aj1 h'
   ·cases h
theorem To.trans {g1:Gh} {I1:aB} {w1:World} (h:To n σ1 I w K) (hi : ∀ b o,I b o->I1 b o) (hk:Keeps (Im n I) w w1):To n σ1 I1 w1 K :=
 fun g' I' a' w' h1 h2 h3=>h g' I' a' w' h1 (fun b o hb=>h2 b o (hi b o hb)) (Keeps.trans (fun b o hb=>hb.imp (hi b o) id) hk h3)
theorem ML (hΓ:fE Γ P) (hcf:PY Γ P cf) {ops:Array Oper} : ∀ {l:List Oper} {σ σ':S} {ts:List Tr} {g:Gh} {I:aB} {a:Act} {w:World},R n σ g I a w ->
  Runs cf Γ f n.np n.nt ops l σ ts σ'->To n σ' I w (Qm .normal)->wpList P ops Qm l a w
 | [],σ,σ',ts,g,I,a,w,hR,h,hK=>by
  obtain ⟨-,rfl⟩:=h
  exact hK g I a w hR (fun _ _ h=>h) (Keeps.refl _ _)
 | o::os,σ,σ',ts,g,I,a,w,hR,h,hK=>by
  obtain ⟨hd,σ1,tr,ts',h1,rfl,h2⟩:=h
  exact afU (K:=wpList P ops Qm os) hΓ hcf hd hR h1 fun g' I' a' w' hR' hi hk=>ML hΓ hcf hR' h2 (hK.trans (g1:=g') hi hk)
end
end Go.E

namespace Go.E
open Go
section
variable {Γ:Ctx} {P:Program} {cf:FuncId->List Arg->R3 fV}
variable {n:Fr} {f:FuncId} {Qm:Exit->Act->World->Prop}
def P5 (cf:FuncId->List Arg->R3 fV) (Γ:Ctx) (f np nt:Nat) (ops:Array Oper) (T:Nat->Tr):List Nat->S->S->Prop
 | [],σ,σ'=>σ=σ'
 | i::l,σ,σ'=>∃ o σ1,ops[i]? = some o/\dM np nt o=true/\(JX Γ f ops o).exec cf σ {} = some (σ1,T i)/\P5 cf Γ f np nt ops T l σ1 σ'
theorem Runs.len {np nt:Nat} {ops:Array Oper} : ∀ {l:List Oper} {σ σ':S} {ts:List Tr},Runs cf Γ f np nt ops l σ ts σ'->ts.length=l.length
 | [],_,_,_,h=>by rw [h.1]; rfl
 | o::os,σ,σ',ts,h=>by
  obtain ⟨-,σ1,tr,ts',-,rfl,h2⟩:=h
  simp [Runs.len h2]
theorem Runs.toI {np nt:Nat} {ops:Array Oper} {T:Nat->Tr} : ∀ {l:List Oper} {k:Nat} {σ σ':S} {ts:List Tr},Runs cf Γ f np nt ops l σ ts σ'->(∀ j,l[j]? = ops[k+j]?)->(∀ j (h:j<ts.length),T (k+j)=ts[j]) ->
  P5 cf Γ f np nt ops T (List.range' k l.length) σ σ'
 | [],k,σ,σ',ts,h,_,_=>h.2
 | o::os,k,σ,σ',ts,h,hl,hT=>by
  obtain ⟨hd,σ1,tr,ts',h1,rfl,h2⟩:=h
  simp only [List.length_cons,List.range'_succ]
  refine ⟨o,σ1,by simpa using (hl 0).symm,hd,?_,Runs.toI h2 (fun j=>?_) fun j hj=>?_⟩
  ·have:=hT 0 (by simp)
   simp only [Nat.add_zero,List.getElem_cons_zero] at this
   rw [this]; exact h1
  ·have:=hl (j+1)
   simpa [Nat.add_assoc,Nat.add_comm 1 j] using this
  ·have:=hT (j+1) (by simpa using hj)
   simpa [Nat.add_assoc,Nat.add_comm 1 j] using this
theorem P5.front {np nt:Nat} {ops:Array Oper} {T:Nat->Tr} {D:Nat->Nat->Bool} {i:Nat} : ∀ {l:List Nat} {σ σ':S},P5 cf Γ f np nt ops T l σ σ'->i∈l->l.Pairwise (fun p q=>D q p=true\/JW (T p) (T q))->(∀ p∈l,D i p=false) ->
  ∃ o σ1,ops[i]? = some o/\dM np nt o=true/\(JX Γ f ops o).exec cf σ {} = some (σ1,T i)/\P5 cf Γ f np nt ops T (l.erase i) σ1 σ'
 | [],_,_,_,hi,_,_=>by cases hi
 | p::l,σ,σ',h,hi,hp,hd=>by
  obtain ⟨o,σ1,h1,h2,h3,h4⟩:=h
  by_cases hpi:p=i
  ·subst hpi
   refine ⟨o,σ1,h1,h2,h3,?_⟩
   rw [List.erase_cons_head]; exact h4
  ·have hi':i∈l:=(List.mem_cons.1 hi).resolve_left (Ne.symm hpi)
   obtain ⟨o2,σ2,h5,h6,h7,h8⟩:=P5.front h4 hi' (List.Pairwise.of_cons hp) fun q hq=>hd q (by simp [hq])
   have aqZ:JW (T p) (T i):=by
    rcases List.rel_of_pairwise_cons hp hi' with h | h
    ·rw [hd p (by simp)] at h; cases h
    ·exact h
   obtain ⟨σ3,h9,h10⟩:=aec h3 h7 aqZ
   refine ⟨o2,σ3,h5,h6,h9,?_⟩
   rw [List.erase_cons_tail (by simpa using hpi)]
   exact ⟨o,σ2,h1,h2,h10,h8⟩
theorem JY {acc:List Nat} {i:Nat} : ∀ (es:List Edge) (s:Nat),Nat.testBit (es.foldl (fun s e=>cond (Region.binds .any e) (s ||| 2 ^ e.on ||| acc.getD e.on 0) s) s) i=true ->
  Nat.testBit s i=true \/ ∃ e∈es,Region.binds .any e=true/\(i=e.on\/Nat.testBit (acc.getD e.on 0) i=true)
 | [],s,h=>.inl h
 | e::es,s,h=>by
  simp only [List.foldl_cons] at h
  rcases JY es _ h with h1 | ⟨e',h1,h2⟩
  ·cases hb:Region.binds .any e with
   | false=>rw [hb] at h1; exact .inl h1
   | true =>
    rw [hb] at h1
    simp only [cond_true,Nat.testBit_or,Bool.or_eq_true,Nat.testBit_two_pow,decide_eq_true_eq] at h1
    rcases h1 with (h1 | h1) | h1
    ·exact .inl h1
    ·exact .inr ⟨e,by simp,hb,.inl h1.symm⟩
    ·exact .inr ⟨e,by simp,hb,.inr h1⟩
  ·exact .inr ⟨e',by simp [h1],h2⟩
theorem DZ : ∀ (os:List Oper) (acc:List Nat) (j:Nat),j<acc.length->(Ju os acc).getD j 0=acc.getD j 0
 | [],acc,j,h=>rfl
 | o::os,acc,j,h=>by
  simp only [Ju]
  rw [DZ os _ j (by simp; omega)]
  simp [List.getElem?_append_left h]
theorem P6 : ∀ (os:List Oper) (acc:List Nat) (j i:Nat),acc.length<=j->Nat.testBit ((Ju os acc).getD j 0) i=true ->
  ∃ o,os[j-acc.length]? = some o /\ ∃ e∈o.after.toList,Region.binds .any e=true/\(i=e.on\/Nat.testBit ((Ju os acc).getD e.on 0) i=true)
 | [],acc,j,i,hj,h=>by
  simp only [Ju] at h
  rw [List.getD_eq_getElem?_getD,List.getElem?_eq_none hj] at h
  simp at h
 | o::os,acc,j,i,hj,h=>by
  simp only [Ju] at h ⊢
  by_cases he:j=acc.length
  ·subst he
   rw [DZ os _ _ (by simp)] at h
   have h':Nat.testBit (V3 acc o) i=true:=by simpa using h
   rcases JY _ _ h' with h1 | ⟨e,h1,h2,h3⟩
   ·simp at h1
   ·refine ⟨o,by simp,e,h1,h2,h3.imp id fun h3=>?_⟩
    have hlt:e.on<acc.length:=by
     rcases Nat.lt_or_ge e.on acc.length with h | h
     ·exact h
     ·rw [List.getD_eq_getElem?_getD,List.getElem?_eq_none h] at h3; simp at h3
    rw [DZ os _ _ (by simp; omega)]
    rw [List.getD_eq_getElem?_getD,List.getElem?_append_left hlt,<-List.getD_eq_getElem?_getD]
    exact h3
  ·obtain ⟨o',h1,e,h2,h3,h4⟩:=P6 os (acc++[V3 acc o]) j i (by simp; omega) h
   refine ⟨o',?_,e,h2,h3,h4⟩
   simp only [List.length_append,List.length_cons,List.length_nil] at h1
   rw [show j-acc.length=(j-(acc.length+(0+1)))+1 from by omega]
   simpa using h1
theorem JZ : ∀ (os:List Oper) (k:Nat),Ow k os=true->∀ j o,os[j]? = some o->∀ e∈o.after.toList,Region.binds .any e=true->e.on<k+j
 | [],k,h,j,o,hj,e,he,hb=>by simp at hj
 | o::os,k,h,j,o',hj,e,he,hb=>by
  simp only [Ow,Bool.and_eq_true] at h
  cases j with
  | zero =>
   simp only [List.getElem?_cons_zero,Option.some.injEq] at hj
   subst hj
   have:=List.all_eq_true.1 h.1 e he
   rw [hb] at this
   simpa [Nat.blt_eq] using this
  | succ j =>
   have:=JZ os (k+1) h.2 j o' (by simpa using hj) e he hb
   omega
theorem J2 {bf:List Nat} {i:Nat} {ti:Tr} : ∀ (ts:List Tr) (k:Nat),Ox bf i ti k ts=true->∀ j (h:j<ts.length),Nat.testBit (bf.getD (k+j) 0) i=true\/JW ti ts[j]
 | [],_,_,j,hj=>by simp at hj
 | t::ts,k,h,j,hj=>by
  simp only [Ox,Bool.and_eq_true,Bool.or_eq_true] at h
  cases j with
  | zero=>exact h.1.imp id JW.of
  | succ j =>
   have:=J2 ts (k+1) h.2 j (by simpa using hj)
   simpa [show k+1+j=k+(j+1) from by omega] using this
theorem J3 {bf:List Nat} : ∀ (ts:List Tr) (k:Nat),Oy bf k ts=true->∀ i j (hij:i<j) (h:j<ts.length),Nat.testBit (bf.getD (k+j) 0) (k+i)=true\/JW (ts[i]'(by omega)) ts[j]
 | [],_,_,i,j,_,hj=>by simp at hj
 | t::ts,k,h,i,j,hij,hj=>by
  simp only [Oy,Bool.and_eq_true] at h
  cases j with
  | zero=>omega
  | succ j =>
   cases i with
   | zero =>
    have:=J2 ts (k+1) h.1 j (by simpa using hj)
    simpa [show k+1+j=k+(j+1) from by omega] using this
   | succ i =>
    have:=J3 ts (k+1) h.2 i j (by omega) (by simpa using hj)
    simpa [show k+1+j=k+(j+1) from by omega,show k+1+i=k+(i+1) from by omega] using this
theorem any_ok (hΓ:fE Γ P) (hcf:PY Γ P cf) {ops:Array Oper} {T:Nat->Tr} {D:Nat->Nat->Bool} {σ':S}
  (haft : ∀ j o,ops[j]? = some o->∀ e∈o.after,Region.binds .any e=true->e.on<j)
  (hbef : ∀ j i,D j i=true->∃ o,ops[j]? = some o /\ ∃ e∈o.after,Region.binds .any e=true/\(i=e.on\/D e.on i=true)) :
  ∀ (fuel:Nat) (l:List Nat) (listed:Array Bool) {σ:S} {g:Gh} {I:aB} {a:Act} {w:World},l.length=fuel->R n σ g I a w->P5 cf Γ f n.np n.nt ops T l σ σ'->l.Pairwise (· < ·) ->
   l.Pairwise (fun p q=>D q p=true\/JW (T p) (T q))->(∀ i,i∈l ↔ i<ops.size/\listed.getD i true=false)->listed.size=ops.size ->
   (∀ j,listed.getD j false=true->∀ i,D j i=true->listed.getD i false=true)->To n σ' I w (Qm .normal)->wpAny P .any ops Qm fuel listed a w:=by
 intro fuel
 induction fuel with
 | zero =>
  intro l listed σ g I a w hl hR hr hlt hp hmem hsz hcl hK
  have hnil:l=[]:=List.length_eq_zero_iff.1 hl
  subst hnil
  have hr:σ=σ':=hr
  subst hr
  refine ⟨?_,hK g I a w hR (fun _ _ h=>h) (Keeps.refl _ _)⟩
  apply List.eq_nil_iff_forall_not_mem.2
  intro i hi
  obtain ⟨h1,o,h2,-⟩:=mem_ready.1 hi
  have:=(hmem i).2 ⟨(Array.getElem?_eq_some_iff.1 h2).1,h1⟩
  cases this
 | succ fuel ih =>
  intro l listed σ g I a w hl hR hr hlt hp hmem hsz hcl hK
  have hun : ∀ p,p∈l->listed.getD p false=false:=fun p hp=>by
   obtain ⟨h1,h2⟩:=(hmem p).1 hp
   have hps:p<listed.size:=by omega
   rw [Array.getD_eq_getD_getElem?,Array.getElem?_eq_getElem hps] at h2 ⊢
   exact h2
  have hli : ∀ p,p<ops.size->p ∉ l->listed.getD p false=true:=fun p hp hn=>by
   have hps:p<listed.size:=by omega
   cases hb:listed.getD p false with
   | true=>rfl
   | false =>
    refine absurd ((hmem p).2 ⟨hp,?_⟩) hn
    rw [Array.getD_eq_getD_getElem?,Array.getElem?_eq_getElem hps] at hb ⊢
    exact hb
  constructor
  ·intro hnone
   exfalso
   cases l with
   | nil=>simp at hl
   | cons i r =>
    obtain ⟨h1,h2⟩:=(hmem i).1 (by simp)
    have hin:i∈Region.ready .any ops listed:=mem_ready.2 ⟨h2,ops[i],Array.getElem?_eq_getElem h1,fun e he hb=>by
     have hon:=haft i ops[i] (Array.getElem?_eq_getElem h1) e he hb
     refine hli _ (by omega) fun hm=>?_
     rcases List.mem_cons.1 hm with h | h
     ·omega
     ·have:=List.rel_of_pairwise_cons hlt h
      omega⟩
    rw [hnone] at hin
    cases hin
  ·intro i hi
   obtain ⟨h1,o,h2,h3⟩:=mem_ready.1 hi
   have him:i∈l:=(hmem i).2 ⟨(Array.getElem?_eq_some_iff.1 h2).1,h1⟩
   have XZ : ∀ p,D i p=true->listed.getD p false=true:=fun p hd=>by
    obtain ⟨o',h4,e,h5,h6,h7⟩:=hbef i p hd
    rw [h2] at h4; cases h4
    have h8:=h3 e h5 h6
    rcases h7 with rfl | h7
    ·exact h8
    ·exact hcl _ h8 _ h7
   obtain ⟨o',σ1,h4,h5,h6,h7⟩:=hr.front him hp fun p hp=>by
    cases hd:D i p with
    | false=>rfl
    | true=>have:=XZ p hd; rw [hun p hp] at this; cases this
   rw [h2] at h4; cases h4
   have hnd:l.Nodup:=hlt.imp fun h=>Nat.ne_of_lt h
   unfold wpOp
   simp only [h2]
   refine afU (K:=wpAny P .any ops Qm fuel (listed.setIfInBounds i true)) hΓ hcf h5 hR h6 fun g' I' a' w' hR' hinc hk=>?_
   refine ih (l.erase i) (listed.setIfInBounds i true) (by rw [List.length_erase_of_mem him]; omega) hR' h7 (hlt.sublist List.erase_sublist) (hp.sublist List.erase_sublist) (fun j=>?_) (by simpa using hsz) (fun j hj p hd=>?_) (hK.trans (g1:=g') hinc hk)
   ·rw [hnd.mem_erase_iff,hmem j]
    by_cases hji:j=i
    ·subst hji
     have hlt':j<listed.size:=by have:=(Array.getElem?_eq_some_iff.1 h2).1; omega
     simp [hlt']
    ·rw [getD_set_ne true (Ne.symm hji)]
     simp [hji]
   ·by_cases hji:j=i
    ·subst hji
     exact getD_set_true (XZ p hd)
    ·rw [getD_set_ne false (Ne.symm hji)] at hj
     exact getD_set_true (hcl j hj p hd)
theorem aa2 (hΓ:fE Γ P) (hcf:PY Γ P cf) {ops:Array Oper} {σ σ':S} {ts:List Tr} {g:Gh} {I:aB} {a:Act} {w:World} (hR:R n σ g I a w)
  (hr:Runs cf Γ f n.np n.nt ops ops.toList σ ts σ') (hd:O9 ops ts=true) (hK:To n σ' I w (Qm .normal)):wpAny P .any ops Qm ops.size (Array.replicate ops.size false) a w:=by
 unfold O9 at hd
 simp only [Bool.and_eq_true] at hd
 have hlen:=hr.len
 simp only [Array.length_toList] at hlen
 have hI:=hr.toI (T:=fun i=>ts.getD i {}) (k:=0) (fun j=>by simp) fun j hj=>by simp [hj]
 simp only [Array.length_toList] at hI
 refine any_ok (D:=fun j i=>Nat.testBit ((Ju ops.toList []).getD j 0) i) hΓ hcf (fun j o hj e he hb=>?_) (fun j i hd=>?_) ops.size _ _ (by simp) hR hI List.pairwise_lt_range' ?_ (fun i=>?_) (by simp) (fun j hj=>?_) hK
 ·have:=JZ _ 0 hd.1 j o (by simpa using hj) e (by simpa using he) hb
  omega
 ·obtain ⟨o,h1,e,h2,h3⟩:=P6 _ [] j i (by simp) hd
  exact ⟨o,by simpa using h1,e,by simpa using h2,h3⟩
 ·rw [List.pairwise_iff_getElem]
  intro i j hi hj hij
  simp only [List.length_range'] at hi hj
  have:=J3 ts 0 hd.2 i j hij (by omega)
  simp only [List.getElem_range',Nat.zero_add,Nat.one_mul] at this ⊢
  have hii:i<ts.length:=by omega
  have hjj:j<ts.length:=by omega
  simpa [hii,hjj] using this
 ·simp only [List.mem_range'_1,Nat.zero_le,true_and,Nat.zero_add]
  constructor
  ·intro h
   exact ⟨h,by simp [h]⟩
  ·exact fun h=>h.1
 ·exfalso
  rw [Array.getD_eq_getD_getElem?] at hj
  by_cases h:j<ops.size
  ·simp [h] at hj
  ·simp [h] at hj
end
end Go.E

namespace Go.E
open Go
theorem Ca : ∀ (new ks:List Key),ks.Nodup->(Gi ks new).Nodup
 | [],ks,h=>h
 | k::new,ks,h=>by
  simp only [Gi,List.foldl_cons]
  refine Ca new _ ?_
  cases hb:ks.any (dQ k) with
  | true=>exact h
  | false =>
   simp only [cond_false]
   refine List.nodup_append.2 ⟨h,by simp,fun a ha b hb' e=>?_⟩
   simp only [List.mem_cons,List.not_mem_nil,or_false] at hb'
   subst hb'
   subst e
   rw [List.any_eq_true.2 ⟨a,ha,gu a⟩] at hb
   cases hb
theorem P7 {ks:List Key} {k:Key} (h:Lf ks k=true):k∈ks:=by
 obtain ⟨u,h1,h2⟩:=List.any_eq_true.1 h
 rw [(eX _ _).1 h2]; exact h1
theorem D5 {k:Key} : ∀ {ks:List Key} {i:Nat},k∈ks->∃ j,i<=j/\ks[j-i]? = some k/\VX k i ks=[1000000,j]
 | [],_,h=>by cases h
 | u::us,i,h=>by
  simp only [VX]
  cases hb:dQ k u with
  | true =>
   have:=(eX _ _).1 hb
   subst this
   exact ⟨i,Nat.le_refl _,by simp,rfl⟩
  | false =>
   have hne:k≠u:=fun e=>by subst e; rw [gu] at hb; cases hb
   obtain ⟨j,h1,h2,h3⟩:=D5 (ks:=us) (i:=i+1) ((List.mem_cons.1 h).resolve_left hne)
   refine ⟨j,by omega,?_,h3⟩
   rw [show j-i=(j-(i+1))+1 from by omega]
   simpa using h2
theorem afV {np:Nat} {k:Key} : VY np k=true ↔ gN np k:=by
 cases k with
 | nil=>simp [VY,gN]
 | cons i r=>simp [VY,gN,Nat.blt_eq]
theorem P8 {np:Nat} (hnp:np<=1000000) {ks:List Key} {k k':Key} (h:k∈ks) (h':k'∈ks) (e:eO np ks k=eO np ks k'):k=k':=by
 unfold eO at e
 obtain ⟨j,h1,h2,h3⟩:=D5 (i:=0) h
 obtain ⟨j',h1',h2',h3'⟩:=D5 (i:=0) h'
 have key : ∀ {u:Key} {j:Nat},(VY np u||dQ u uS)=true->u=[1000000,j]->False:=fun hp e=>by
  subst e
  rw [Bool.or_eq_true] at hp
  rcases hp with hp | hp
  ·have:=afV.1 hp
   simp only [gN] at this
   omega
  ·have:=(eX _ _).1 hp
   simp [uS] at this
 cases hb:(VY np k||dQ k uS) with
 | true =>
  rw [hb] at e
  cases hb':(VY np k'||dQ k' uS) with
  | true=>rw [hb'] at e; exact e
  | false=>rw [hb',h3'] at e; exact (key hb e).elim
 | false =>
  rw [hb,h3] at e
  cases hb':(VY np k'||dQ k' uS) with
  | true=>rw [hb'] at e; exact (key hb' e.symm).elim
  | false =>
   rw [hb',h3'] at e
   simp only [cond_false,List.cons.injEq,and_true,true_and] at e
   subst e
   rw [h2] at h2'
   exact Option.some.inj h2'
theorem aa3 {np:Nat} (hnp:np<=1000000) {ks:List Key} {k:Key} (h:k∈ks) (hp:gN np (eO np ks k)):eO np ks k=k/\gN np k:=by
 unfold eO at hp ⊢
 cases hb:(VY np k||dQ k uS) with
 | true =>
  rw [hb] at hp
  exact ⟨rfl,hp⟩
 | false =>
  rw [hb] at hp
  obtain ⟨j,-,-,h3⟩:=D5 (i:=0) h
  simp only [cond_false,h3,gN] at hp
  omega
theorem P9 {np:Nat} (hnp:np<=1000000) {ks:List Key} {F:Key->Ch} : ∀ {l:List Key},(∀ u∈l,u∈ks)->l.Nodup->∀ k∈l,Fj (eO np ks k) (l.map fun u=>(eO np ks u,F u))=⟨F k,0,0⟩
 | [],_,_,k,hk=>by cases hk
 | u::l,hs,hnd,k,hk=>by
  simp only [List.map_cons,Fj]
  by_cases e:k=u
  ·subst e; rw [gu]; rfl
  ·have hk':k∈l:=(List.mem_cons.1 hk).resolve_left e
   have:dQ (eO np ks k) (eO np ks u)=false:=by
    cases hb:dQ (eO np ks k) (eO np ks u) with
    | false=>rfl
    | true=>exact absurd (P8 hnp (hs k (by simp [hk'])) (hs u (by simp)) ((eX _ _).1 hb)) e
   rw [this]
   exact P9 hnp (fun v hv=>hs v (by simp [hv])) (List.nodup_cons.1 hnd).2 k hk'
theorem MN {F:Nat->fC} : ∀ (l:List Nat) (t:Nat),wB t (l.map fun u=>(u,F u))=F t\/wB t (l.map fun u=>(u,F u)) = .junk
 | [],t=>.inr rfl
 | u::l,t=>by
  simp only [List.map_cons,wB]
  cases hb:Nat.beq t u with
  | true=>have:=Nat.eq_of_beq_eq_true hb; subst this; exact .inl rfl
  | false=>exact MN l t
section
variable {n:Fr} {σ:S} {g:Gh} {I:aB} {a:Act} {w:World}
def OE (np:Nat) (ks:List Key) (k':Key):Option Key:=ks.find? fun k=>dQ (eO np ks k) k'
def yc (np:Nat) (ks:List Key) (g:Gh):Gh :=
 ⟨fun k'=>match OE np ks k' with | some k=>g.h k | none=>.nilIface,fun k'=>match OE np ks k' with | some k=>g.F k | none=>fun _ _=>False,g.D⟩
theorem MO {np:Nat} (hnp:np<=1000000) {ks:List Key} {k:Key} (h:k∈ks):OE np ks (eO np ks k)=some k:=by
 unfold OE
 cases hf:ks.find? fun u=>dQ (eO np ks u) (eO np ks k) with
 | none =>
  have:=List.find?_eq_none.1 hf k h
  rw [gu] at this
  exact absurd rfl this
 | some u =>
  have h1:=List.find?_some hf
  have h2:=List.mem_of_find?_eq_some hf
  rw [P8 hnp h2 h ((eX _ _).1 h1)]
theorem Gn {np:Nat} (hnp:np<=1000000) {ks:List Key} {k:Key} (h:k∈ks):(yc np ks g).h (eO np ks k)=g.h k:=by simp only [yc,MO hnp h]
theorem D6 {np:Nat} (hnp:np<=1000000) {ks:List Key} {k:Key} (h:k∈ks):(yc np ks g).F (eO np ks k)=g.F k:=by simp only [yc,MO hnp h]
structure Ren (np:Nat) (ks:List Key) (κ κ':Key->KE):Prop where
 at_ : ∀ k∈ks,(κ' (eO np ks k)).bQ=0/\(κ' (eO np ks k)).cv=0/\(Fh (κ k).ch=true->mW (κ' (eO np ks k)).ch=mW (κ k).ch/\(Live (κ k).ch->Live (κ' (eO np ks k)).ch))
theorem afW {np:Nat} {ks:List Key} : eO np ks uS=uS:=by
 unfold eO
 rw [gu,Bool.or_true]; rfl
variable {np:Nat} {ks:List Key} {κ':Key->KE}
theorem Cb {ds:List Dp} (h:uU σ ds=true):Cur σ.k ds:=fun d hd=>by
 have:=List.all_eq_true.1 h d hd
 simp only [Bool.and_eq_true] at this
 exact Nat.eq_of_beq_eq_true this.1
theorem OG (hnp:np<=1000000) (hr:Ren np ks σ.k κ') {ds:List Dp} (hdl:uU σ ds=true) (hks:(qy ds).all (fun d=>Lf ks d.1)=true) :
  ∀ b o,dF σ.k g I ds b o->dF κ' (yc np ks g) I (Du np ks (qy ds)) b o:=by
 intro b o h
 rcases h with h | ⟨d,hd,h1⟩
 ·exact .inl h
 ·have hm:d.1∈ks:=P7 (List.all_eq_true.1 hks (d.1,0) (List.mem_map.2 ⟨d,hd,rfl⟩))
  have hw:=List.all_eq_true.1 hdl d hd
  simp only [Bool.and_eq_true] at hw
  refine .inr ⟨(eO np ks d.1,0),List.mem_map.2 ⟨(d.1,0),List.mem_map.2 ⟨d,hd,rfl⟩,rfl⟩,?_⟩
  rcases h1 with ⟨h1,h2⟩ | ⟨h1,h2⟩
  ·left
   exact ⟨by show eO np ks d.1=uS; rw [h1]; exact afW,h2⟩
  ·right
   refine ⟨((hr.at_ _ hm).2.2 hw.2).2 h1,?_⟩
   show (yc np ks g).F (eO np ks d.1) b o
   rw [D6 hnp hm]; exact h2
theorem aa4 (hnp:np<=1000000) (hr:Ren np ks σ.k κ') {l:Leaf} {v:Value} (h:ER σ.k g w I l v):ER κ' (yc np ks g) w I (uV np ks (Cx σ l)) v:=by
 obtain ⟨st,lt,d⟩:=l
 obtain ⟨hs,h⟩:=h
 refine ⟨?_,?_⟩
 ·exact hs
 ·unfold Cx
  cases st with
  | sc=>exact h
  | nl=>exact h
  | dead=>trivial
  | sb k m cv r off =>
   simp only at h ⊢
   cases hd:uU σ [(k,cv)] with
   | false=>simp only [cond_false,uV]
   | true =>
    simp only [cond_true,uV]
    cases hk:[(k,0)].all (fun d=>Lf ks d.1) with
    | false=>simp only [cond_false]
    | true =>
     simp only [cond_true]
     obtain ⟨h1,-,h2,h3⟩:=h
     refine ⟨h1,fun d hd=>?_,fun _=>((h3 (Cb hd)).1).same (OG hnp hr (ds:=[(k,cv)]) hd hk)⟩
     simp only [Du,List.map_cons,List.map_nil,List.mem_singleton] at hd
     subst hd
     exact Nat.zero_le _
  | sn ds =>
   simp only at h ⊢
   cases hd:uU σ ds with
   | false=>simp only [cond_false,uV]
   | true =>
    simp only [cond_true,uV]
    cases hk:(qy ds).all (fun d=>Lf ks d.1) with
    | false=>simp only [cond_false]
    | true =>
     simp only [cond_true]
     obtain ⟨h1,h2,h3⟩:=h
     refine ⟨h1,fun d hd=>?_,fun _=>(h3 (Cb hd)).same (OG hnp hr hd hk)⟩
     simp only [Du,qy,List.mem_map] at hd
     obtain ⟨x,⟨y,-,rfl⟩,rfl⟩:=hd
     exact Nat.zero_le _
  | al k m =>
   simp only at h ⊢
   cases hd0:(Nat.beq (σ.k k).bQ m&&Fh (σ.k k).ch) with
   | false=>simp only [cond_false,uV]
   | true =>
    have hd:=(Bool.and_eq_true _ _ ▸ hd0).1
    simp only [cond_true,uV]
    cases hk:Lf ks k with
    | false=>simp only [cond_false]
    | true =>
     simp only [cond_true]
     obtain ⟨h1,h2,h3⟩:=h
     refine ⟨h1,Nat.zero_le _,fun _=>?_⟩
     rw [Gn hnp (P7 hk)]
     exact h3 (Nat.eq_of_beq_eq_true hd)
theorem OH (hnp:np<=1000000) (hr:Ren np ks σ.k κ') : ∀ {ls:List Leaf} {vs:List Value},cu σ.k g w I ls vs->cu κ' (yc np ks g) w I ((ls.map (Cx σ)).map (uV np ks)) vs
 | [],[],_=>trivial
 | _::_,_::_,h=>⟨aa4 hnp hr h.1,OH hnp hr h.2⟩
 | [],_::_,h=>h.elim
 | _::_,[],h=>h.elim
theorem Qa (hnp:np<=1000000) (hr:Ren np ks σ.k κ') {m:Nat} {e:fC} {v:Value} (h:r9 σ.k g w I e v):r9 κ' (yc np ks g) w I (zn np ks m (yu σ m e)) v:=by
 cases e with
 | one l=>cases m <;> exact aa4 hnp hr h
 | agg ls =>
  obtain ⟨cs,rfl,h⟩:=h
  cases m <;> exact ⟨cs,rfl,OH hnp hr h⟩
 | OT _=>exact h.elim
 | fn _ _=>exact h.elim
 | und=>cases m <;> exact h
 | junk=>cases m <;> trivial
 | ptr k i j off =>
  obtain ⟨h0,h1,h2⟩:=h
  have key:r9 κ' (yc np ks g) w I (zn np ks m (cond (Nat.beq (σ.k k).bQ i&&Fh (σ.k k).ch) (.ptr k 0 j off) .junk)) v:=by
   cases hd0:(Nat.beq (σ.k k).bQ i&&Fh (σ.k k).ch) with
   | false=>cases m <;> trivial
   | true =>
    have hd:=(Bool.and_eq_true _ _ ▸ hd0).1
    have hw:=(Bool.and_eq_true _ _ ▸ hd0).2
    have key2:r9 κ' (yc np ks g) w I (cond (Lf ks k) (.ptr (eO np ks k) 0 j off) .junk) v:=by
     cases hk:Lf ks k with
     | false=>trivial
     | true =>
      have hm:=P7 hk
      refine ⟨h0,Nat.zero_le _,fun _=>?_⟩
      rw [Gn hnp hm,((hr.at_ _ hm).2.2 hw).1]
      exact h2 (Nat.eq_of_beq_eq_true hd)
    cases m <;> exact key2
  cases m <;> exact key
 | rp ds aR row =>
  obtain ⟨h0,h1,h2⟩:=h
  have key:r9 κ' (yc np ks g) w I (zn np ks m (cond (uU σ ds) (.rp (qy ds) aR row) .junk)) v:=by
   cases hd:uU σ ds with
   | false=>cases m <;> trivial
   | true =>
    have key2:r9 κ' (yc np ks g) w I (cond ((qy ds).all fun d=>Lf ks d.1) (.rp (Du np ks (qy ds)) aR row) .junk) v:=by
     cases hk:(qy ds).all (fun d=>Lf ks d.1) with
     | false=>trivial
     | true =>
      refine ⟨h0,fun d hd=>?_,fun _=>?_⟩
      ·simp only [Du,qy,List.mem_map] at hd
       obtain ⟨x,⟨y,-,rfl⟩,rfl⟩:=hd
       exact Nat.zero_le _
      ·obtain ⟨b,o,h3,h4⟩:=h2 (Cb hd)
       exact ⟨b,o,h3,h4.same (OG hnp hr hd hk) (OG hnp hr hd hk)⟩
    cases m <;> exact key2
  cases m <;> exact key
theorem Lp (hnp:np<=1000000) (hr:Ren np ks σ.k κ') {m:Nat} : ∀ {es:List fC} {vs:List Value},pY σ.k g w I es vs->pY κ' (yc np ks g) w I ((es.map (yu σ m)).map (zn np ks m)) vs
 | [],[],_=>trivial
 | _::_,_::_,h=>⟨Qa hnp hr h.1,Lp hnp hr h.2⟩
 | [],_::_,h=>h.elim
 | _::_,[],h=>h.elim
theorem aiP (hnp:np<=1000000) (hr:Ren np ks σ.k κ') {e:fC} {v:Value} (h:jY σ.k g w I e v):jY κ' (yc np ks g) w I (zn np ks 3 (yu σ 3 e)) v:=by
 cases e with
 | OT es=>obtain ⟨vs,h1,h2⟩:=h; exact ⟨vs,h1,Lp hnp hr h2⟩
 | fn f es=>obtain ⟨vs,h1,h2⟩:=h; exact ⟨vs,h1,Lp hnp hr h2⟩
 | one l=>exact aa4 hnp hr h
 | agg ls=>obtain ⟨cs,rfl,h⟩:=h; exact ⟨cs,rfl,OH hnp hr h⟩
 | und=>exact h
 | junk=>trivial
 | ptr k i j off=>exact r9.ent (σ:=⟨fun _=>.junk,κ'⟩) (Qa hnp hr (e:=.ptr k i j off) h)
 | rp ds aR row=>exact r9.ent (σ:=⟨fun _=>.junk,κ'⟩) (Qa hnp hr (e:=.rp ds aR row) h)
theorem R.pack (hR:R n σ g I a w) (m:Nat) : ∃ g',R n (nK (Ay n.np n.nt m σ)) g' I a w:=by
 have hnp:=n.big
 let es:=(bitsOf n.nt m).map fun t=>(t,yu σ 3 (σ.s t))
 let ks:=Gi [] (es.flatMap fun e=>Ov 3 e.2)
 let Ns:=Gi ks (ks.flatMap fun k=>afs (xP σ (σ.k k).ch))
 have hnd:Ns.Nodup:=Ca _ _ (Ca _ _ List.nodup_nil)
 let κ':=(nK (Ay n.np n.nt m σ)).k
 have hk1 : ∀ k∈Ns,κ' (eO n.np Ns k)=⟨G8 n.np Ns (xP σ (σ.k k).ch),0,0⟩:=fun k hk =>
  P9 (F:=fun k=>G8 n.np Ns (xP σ (σ.k k).ch)) hnp (fun _ h=>h) hnd k hk
 have hk2 : ∀ k',(∃ k∈Ns,k'=eO n.np Ns k)\/κ' k'=⟨.gone,0,0⟩:=fun k'=>by
  rcases DT k' (Ns.map fun k=>(eO n.np Ns k,G8 n.np Ns (xP σ (σ.k k).ch))) with h | ⟨c,h,-⟩
  ·exact .inr h
  ·obtain ⟨k,h1,h2⟩:=List.mem_map.1 h
   cases h2
   exact .inl ⟨k,h1,rfl⟩
 have hch : ∀ c,(Fh c=true->mW (G8 n.np Ns (xP σ c))=mW c/\(Live c->Live (G8 n.np Ns (xP σ c))))/\(Live (G8 n.np Ns (xP σ c))->Live c):=fun c=>by
  cases c <;> first | exact ⟨fun _=>⟨rfl,id⟩,id⟩ | exact ⟨fun h=>(nomatch h),fun h=>h.elim⟩
 have aow:Ren n.np Ns σ.k κ':=⟨fun k hk=>by
  rw [hk1 k hk]
  exact ⟨rfl,rfl,(hch _).1⟩⟩
 have hlive : ∀ k',Live (κ' k').ch->∃ k∈Ns,k'=eO n.np Ns k/\Live (σ.k k).ch:=fun k' h=>by
  rcases hk2 k' with ⟨k,h1,h2⟩ | h1
  ·refine ⟨k,h1,h2,?_⟩
   rw [h2,hk1 k h1] at h
   exact (hch _).2 h
  ·rw [h1] at h; exact h.elim
 refine ⟨yc n.np Ns g,hR.size,hR.nd,fun t=>?_,fun k'=>?_,fun k' u' h h' hne=>?_,fun k' h=>?_,hR.zu,⟨fun k' hp h=>?_,hR.x.dq,hR.x.da,fun k' h=>?_,hR.x.awf,hR.x.ia⟩⟩
 ·have e1:(nK (Ay n.np n.nt m σ)).s t=wB t ((bitsOf n.nt m).map fun t=>(t,zn n.np Ns 3 (yu σ 3 (σ.s t)))):=by
   show wB t (es.map fun e=>(e.1,zn n.np Ns 3 e.2))=_
   simp only [es,List.map_map]
   rfl
  rw [e1]
  rcases MN (F:=fun t=>zn n.np Ns 3 (yu σ 3 (σ.s t))) (bitsOf n.nt m) t with h | h
  ·rw [h]; exact aiP hnp aow (hR.slots t)
  ·rw [h]; trivial
 ·show Hf κ' _ w I k' (κ' k').ch
  rcases hk2 k' with ⟨k,h1,rfl⟩ | h1
  ·rw [hk1 k h1]
   have h:=hR.vI k
   cases hc:(σ.k k).ch with
   | gone=>trivial
   | K9 _ _ _=>trivial
   | hol _ _ _ _ _=>trivial
   | fz es rows =>
    rw [hc] at h
    simp only [xP,G8,Hf,Gn hnp h1]
    exact h
   | row es ms rows =>
    rw [hc] at h
    simp only [xP,G8,Hf,Gn hnp h1,D6 hnp h1]
    exact h
   | box ls =>
    rw [hc] at h
    simp only [xP,G8,Hf,Gn hnp h1,D6 hnp h1]
    obtain ⟨b,o,c,el,fz,h2,h3,h4,h5,h6,h7⟩:=h
    refine ⟨b,o,c,el,fz,h2,h3,?_,?_,?_,?_⟩
    ·simpa using h4
    ·simpa using h5
    ·simpa using h6
    ·simpa using OH hnp aow h7
  ·rw [h1]; trivial
 ·obtain ⟨k,h1,rfl,h2⟩:=hlive k' h
  obtain ⟨u,h3,rfl,h4⟩:=hlive u' h'
  rw [D6 hnp h1,D6 hnp h3]
  exact hR.sep k u h2 h4 fun e=>hne (by rw [e])
 ·obtain ⟨k,h1,rfl,h2⟩:=hlive k' h
  rw [D6 hnp h1]
  exact hR.jP k h2
 ·obtain ⟨k,h1,rfl,h2⟩:=hlive k' h
  obtain ⟨h3,h4⟩:=aa3 hnp h1 hp
  rw [Gn hnp h1,h3]
  exact hR.x.par k h4 h2
 ·obtain ⟨k,h1,rfl,h2⟩:=hlive k' h
  rw [D6 hnp h1]
  exact hR.x.wW k h2
end
end Go.E

namespace Go.E
open Go
section
variable {Γ:Ctx} {P:Program} {cf:FuncId->List Arg->R3 fV}
variable {n:Fr} {σ:S} {g:Gh} {I:aB} {a:Act} {w:World} {Qm:Exit->Act->World->Prop}
def G7.alO:G7->Exit
 | .normal=>.normal
 | .exit id=>.exit id
 | .ret=>.ret
def To' (n:Fr) (ctl:G7) (σ:S) (I:aB) (w:World) (Qm:Exit->Act->World->Prop):Prop:=To n σ I w (Qm ctl.alO)
def aox (Γ:Ctx) (P:Program) (cf:FuncId->List Arg->R3 fV) (fi:Fi) (lf:List (Nat×Nat)->Code->Pack->R3 (G7×Pack)):Prop :=
 ∀ (ex:List (Nat×Nat)) (b:Code) (p:Pack) (ctl:G7) (p':Pack),lf ex b p = .ok (ctl,p')->∀ {n:Fr} {g:Gh} {I:aB} {a:Act} {w:World} {Qm:Exit->Act->World->Prop},fi.np=n.np->fi.nt=n.nt->R n (nK p) g I a w ->
  To' n ctl (nK p') I w Qm->(Code.loop b).wp P Qm a w
theorem aa5 (hR:R n σ g I a w) : ∀ {asm:List (Nat×Bool)},EC σ asm->R n (V4 σ asm) g I a w:=by
 intro asm
 have key : ∀ (asm:List (Nat×Bool)),EC σ asm->(V4 σ asm).k=σ.k /\ ∀ t,jY σ.k g w I ((V4 σ asm).s t) (a.tmps.getD t undef):=by
  intro asm
  induction asm with
  | nil=>intro _; exact ⟨rfl,hR.slots⟩
  | cons p asm ih =>
   obtain ⟨u,b⟩:=p
   intro h
   obtain ⟨h1,h2⟩:=ih fun q hq=>h q (by simp [hq])
   refine ⟨h1,fun t=>?_⟩
   by_cases ht:t=u
   ·subst ht
    obtain ⟨d,h3,h4⟩:=h (t,b) (by simp)
    have h5:=hR.slots t
    simp only at h3 h4
    rw [h3] at h5
    obtain ⟨hs,s',e1,hbb⟩:=h5
    cases e1
    obtain ⟨b',hv,hd'⟩:=hbb
    simp only at hd'
    subst hd'
    have:(V4 σ ((t,b)::asm)).s t=aaG b:=yZ _ _ _
    rw [this]
    have hb:b'=b:=h4
    subst hb
    exact ⟨hs,.bool,rfl,b',hv,rfl⟩
   ·have:(V4 σ ((u,b)::asm)).s t=(V4 σ asm).s t:=zB _ _ ht
    rw [this]
    exact h2 t
 intro h
 obtain ⟨h1,h2⟩:=key asm h
 exact ⟨hR.size,hR.nd,by rw [h1]; exact h2,by rw [h1]; exact hR.vI,by rw [h1]; exact hR.sep,by rw [h1]; exact hR.jP,hR.zu,by rw [h1]; exact hR.x⟩
section
variable {cf:FuncId->List Arg->R3 fV} {n:Fr} {σ:S} {g:Gh} {I:aB} {a:Act} {w:World} {tr:Tr} {Q:S->Tr->Prop}
def Frz (cf:FuncId->List Arg->R3 fV) (n:Fr) (g:Gh) (a:Act) (w:World) (Q:S->Tr->Prop) (p:Prog):Prop :=
 ∀ (σ:S) (I:aB) (tr:Tr),R n σ g I a w->p.wp cf σ tr Q->∃ σ' I' dI,Q σ' dI/\R n σ' g I' a w/\(∀ b o,I b o->I' b o)
theorem Frz.leaf {p:Prog} (h:Frz cf n g a w Q p) (l:Leaf):Frz cf n g a w Q (yx l p):=by
 intro σ I tr hR hw
 unfold yx at hw
 split at hw
 ·simp only [Prog.wp] at hw
  rcases jg hw with ⟨-,hw⟩ | ⟨-,hw⟩
  ·split at hw
   ·rename_i es ms rows hc
    obtain ⟨σ',I',dI,h1,h2,h3⟩:=h _ _ _ (hR.freeze hc).1 hw
    exact ⟨σ',I',dI,h1,h2,fun b o hb=>h3 b o (.inl hb)⟩
   ·exact h _ _ _ hR hw
  ·exact h _ _ _ hR hw
 ·exact h _ _ _ hR hw
theorem Frz.leaves {p:Prog} (h:Frz cf n g a w Q p) : ∀ ls:List Leaf,Frz cf n g a w Q (Cy ls p)
 | []=>h
 | l::ls=>(Frz.leaves h ls).leaf l
theorem Frz.GL : ∀ rs:List (Nat×Nat),Frz cf n g a w Q (GL rs)
 | []=>fun σ I tr hR hw=>⟨σ,I,tr,hw,hR,fun _ _ h=>h⟩
 | (t,j)::rs=>fun σ I tr hR hw=>by
  unfold E.GL at hw
  simp only [Prog.wp] at hw
  split at hw
  ·exact (Frz.GL rs).leaf _ _ _ _ hR hw
  ·exact (Frz.GL rs).leaf _ _ _ _ hR hw
  ·simp only [Prog.wp] at hw
   split at hw
   ·exact (Frz.GL rs).leaf _ _ _ _ hR hw
   ·exact Frz.GL rs _ _ _ hR hw
  ·exact Frz.GL rs _ _ _ hR hw
end
theorem yC {α:Type} (hΓ:fE Γ P) (hcf:PY Γ P cf) {fi:Fi} {lf:List (Nat×Nat)->Code->Pack->R3 (G7×Pack)} (hlf:aox Γ P cf fi lf) :
  ∀ (c:Code) (ex:List (Nat×Nat)) (af:Nat) {n:Fr} {σ:S} {g:Gh} {I:aB} {a:Act} {w:World} {Qm:Exit->Act->World->Prop} {K:G7->S->R3 α} {r:R3 α},fi.np=n.np->fi.nt=n.nt->R n σ g I a w ->
   nL Γ cf lf fi ex af c σ K=r->r ≠ .bad->(∀ ctl σ',K ctl σ'=r->To' n ctl σ' I w Qm)->c.wp P Qm a w
 | .skip,ex,af,n,σ,g,I,a,w,Qm,K,r,hnp,hnt,hR,h,hr,hK=>wp_skip (hK .normal σ h g I a w hR (fun _ _ h=>h) (Keeps.refl _ _))
 | .region id ops dr,ex,af,n,σ,g,I,a,w,Qm,K,r,hnp,hnt,hR,h,hr,hK=>by
  simp only [nL] at h
  obtain ⟨σ0,tr0,he,hrun⟩:=Prog.pJ _ _ _ _ (by rw [h]; exact hr)
  obtain ⟨auR,I0,auS,⟨rfl,rfl⟩,hR0,hi0⟩:=Frz.GL (cf:=cf) (Γ.rg fi.f id) _ _ _ hR (Prog.sZ _ he)
  rw [hrun] at h
  clear hrun he
  revert hR
  intro _
  have hR:=hR0
  have hK : ∀ ctl σ',K ctl σ'=r->To' n ctl σ' I0 w Qm:=fun ctl σ' hc=>fun g' I' a' w' hR' hi hk=>hK ctl σ' hc g' I' a' w' hR' (fun b o hb=>hi b o (hi0 b o hb)) (hk.weaken fun b o hb=>hb.imp (hi0 b o) fun h=>h)
  obtain ⟨σ',ts,Yj,h1,h2,h3⟩:=MK (asm:=[]) (fun _ h=>(nomatch h)) (by rw [h]; exact hr)
  rw [hnp,hnt] at h1
  rw [h3] at h
  simp only [List.reverse_nil,List.nil_append] at h
  cases hd:(!dr||O9 ops ts) with
  | false=>rw [hd] at h; exact (hr h.symm).elim
  | true =>
   rw [hd] at h
   have hto:To n σ' I0 w (Qm .normal):=fun g' I' a' w' hR' hi hk=>hK .normal _ h g' I' a' w' (aa5 hR' h2) hi hk
   cases dr with
   | false=>exact wp_region_list (ML hΓ hcf hR h1 hto)
   | true =>
    refine wp_region_any hΓ.mixed ?_
    have hk:Keeps (fun _ _=>True) w { w with drawn:=w.drawn+1 }:=uJ w (w.drawn+1)
    exact aa2 hΓ hcf (hR.world hk) h1 (by simpa using hd) (hto.trans (g1:=g) (fun _ _ h=>h) (hk.weaken fun _ _ _=>trivial))
 | .seq x y,ex,af,n,σ,g,I,a,w,Qm,K,r,hnp,hnt,hR,h,hr,hK=>by
  simp only [nL] at h
  refine wp_seq (yC hΓ hcf hlf x ex _ hnp hnt hR h hr fun ctl σ' hc=>?_)
  cases ctl with
  | normal =>
   intro g' I' a' w' hR' hi hk
   exact yC hΓ hcf hlf y ex af hnp hnt hR' hc hr fun ctl aq1 hc'=>(hK ctl aq1 hc').trans (g1:=g') hi hk
  | exit id=>exact hK (.exit id) σ' hc
  | ret=>exact hK .ret σ' hc
 | .cond c x y,ex,af,n,σ,g,I,a,w,Qm,K,r,hnp,hnt,hR,h,hr,hK=>by
  simp only [nL] at h
  split at h
  ·rename_i t
   split at h
   ·rename_i d hu
    have hsl:=hR.slots t
    rw [hu] at hsl
    obtain ⟨-,s',e1,hbb⟩:=hsl
    cases e1
    obtain ⟨b,hv,hd'⟩:=hbb
    simp only at hd'
    subst hd'
    have he:a.eval (.tmp t) = .bool b:=hv
    cases b with
    | true=>exact wp_cond_true he (yC hΓ hcf hlf x ex af hnp hnt (aa5 (asm:=[(_,true)]) hR (fun q hq=>by rcases List.mem_singleton.1 hq with rfl; exact ⟨_,hu,rfl⟩)) h hr hK)
    | false=>exact wp_cond_false he (yC hΓ hcf hlf y ex af hnp hnt (aa5 (asm:=[(_,false)]) hR (fun q hq=>by rcases List.mem_singleton.1 hq with rfl; exact ⟨_,hu,rfl⟩)) h hr hK)
   ·exact (hr h.symm).elim
  ·exact wp_cond_true rfl (yC hΓ hcf hlf x ex af hnp hnt hR h hr hK)
  ·exact wp_cond_false rfl (yC hΓ hcf hlf y ex af hnp hnt hR h hr hK)
  ·exact (hr h.symm).elim
 | .block id b,ex,af,n,σ,g,I,a,w,Qm,K,r,hnp,hnt,hR,h,hr,hK=>by
  simp only [nL] at h
  refine wp_block (yC hΓ hcf hlf b _ af hnp hnt hR h hr fun ctl σ' hc=>?_)
  cases ctl with
  | normal=>exact hK .normal σ' hc
  | ret=>exact hK .ret σ' hc
  | exit id' =>
   simp only at hc
   cases hb:Nat.beq id' id with
   | true =>
    rw [hb] at hc
    have:=Nat.eq_of_beq_eq_true hb
    subst this
    intro g' I' a' w' hR' hi hk
    show Exit.inBlock id' Qm (.exit id') a' w'
    simp only [Exit.inBlock,if_true]
    exact hK .normal σ' hc g' I' a' w' hR' hi hk
   | false =>
    rw [hb] at hc
    have hne:id'≠id:=fun e=>by subst e; simp at hb
    intro g' I' a' w' hR' hi hk
    show Exit.inBlock id Qm (.exit id') a' w'
    simp only [Exit.inBlock,if_neg hne]
    exact hK (.exit id') σ' hc g' I' a' w' hR' hi hk
 | .loop b,ex,af,n,σ,g,I,a,w,Qm,K,r,hnp,hnt,hR,h,hr,hK=>by
  simp only [nL,R3.bind] at h
  split at h
  ·rename_i cp hcp
   obtain ⟨g',hR'⟩:=hR.pack (lin fi.ret ex b (lin fi.ret ex b 0))
   rw [<-hnp,<-hnt] at hR'
   exact hlf ex b _ cp.1 cp.2 hcp hnp hnt hR' (hK cp.1 _ h)
  ·exact (hr h.symm).elim
 | .exit id,ex,af,n,σ,g,I,a,w,Qm,K,r,hnp,hnt,hR,h,hr,hK=>wp_exit (hK (.exit id) σ h g I a w hR (fun _ _ h=>h) (Keeps.refl _ _))
 | .ret,ex,af,n,σ,g,I,a,w,Qm,K,r,hnp,hnt,hR,h,hr,hK=>wp_ret (hK .ret σ h g I a w hR (fun _ _ h=>h) (Keeps.refl _ _))
 | .label _,ex,af,n,σ,g,I,a,w,Qm,K,r,hnp,hnt,hR,h,hr,hK=>(hr h.symm).elim
 | .goto _,ex,af,n,σ,g,I,a,w,Qm,K,r,hnp,hnt,hR,h,hr,hK=>(hr h.symm).elim
 | .scope _,ex,af,n,σ,g,I,a,w,Qm,K,r,hnp,hnt,hR,h,hr,hK=>(hr h.symm).elim
 | .refuse _,ex,af,n,σ,g,I,a,w,Qm,K,r,hnp,hnt,hR,h,hr,hK=>(hr h.symm).elim
 | .rangeFunc _ _ _ _,ex,af,n,σ,g,I,a,w,Qm,K,r,hnp,hnt,hR,h,hr,hK=>(hr h.symm).elim
theorem exists_least {p:Nat->Prop} (h : ∃ j,p j) : ∃ j,p j /\ ∀ i,p i->j<=i:=by
 obtain ⟨j,hj⟩:=h
 induction j using Nat.strongRecOn with
 | _ j ih =>
  by_cases hx : ∃ i,i<j/\p i
  ·obtain ⟨i,h1,h2⟩:=hx
   exact ih i h1 h2
  ·refine ⟨j,hj,fun i hi=>?_⟩
   rcases Nat.lt_or_ge i j with h | h
   ·exact absurd ⟨i,h,hi⟩ hx
   ·exact h
theorem aiQ (hΓ:fE Γ P) (hcf:PY Γ P cf) {fi:Fi} : ∀ k,aox Γ P cf fi (G9 Γ cf fi k):=by
 intro k
 induction k using Nat.strongRecOn with
 | _ k ih =>
  intro ex b p ctl p' h n g I a w Qm hnp hnt hR hto
  classical
  let Inv:Nat->Act->World->Prop:=fun j a' w'=>j<=k /\ ∃ q g' I',G9 Γ cf fi j ex b q = .ok (ctl,p')/\R n (nK q) g' I' a' w'/\(∀ b o,I b o->I' b o)/\Keeps (Im n I) w w'
  let μ:Act->World->Nat:=fun a' w'=>if hx : ∃ j,Inv j a' w' then Classical.choose (exists_least hx) else 0
  refine wp_loop (fun a' w'=>∃ j,Inv j a' w') μ ⟨k,Nat.le_refl _,p,g,I,h,hR,fun _ _ h=>h,Keeps.refl _ _⟩ fun a' w' hx=>?_
  have hμ:μ a' w'=Classical.choose (exists_least hx):=by simp only [μ,dif_pos hx]
  obtain ⟨⟨hle,q,g',I',h1,h2,h3,h4⟩,-⟩:=Classical.choose_spec (exists_least hx)
  rw [hμ]
  cases hj:Classical.choose (exists_least hx) with
  | zero=>rw [hj] at h1; simp [G9] at h1
  | succ j =>
   rw [hj] at h1 hle
   simp only [G9] at h1
   refine yC hΓ hcf (ih j (by omega)) b ex _ hnp hnt h2 h1 (fun e=>nomatch e) fun c σ' hc=>?_
   cases c with
   | normal =>
    intro g2 I2 a2 w2 hR2 hi hk
    obtain ⟨g3,PE⟩:=hR2.pack (lin fi.ret ex b (lin fi.ret ex b 0))
    rw [<-hnp,<-hnt] at PE
    have hinv:Inv j a2 w2:=⟨by omega,_,g3,I2,hc,PE,fun b o hb=>hi b o (h3 b o hb),Keeps.trans (fun b o hb=>hb.imp (h3 b o) id) h4 hk⟩
    refine ⟨⟨j,hinv⟩,?_⟩
    have h5 : ∃ j,Inv j a2 w2:=⟨j,hinv⟩
    have:μ a2 w2=Classical.choose (exists_least h5):=by simp only [μ,dif_pos h5]
    rw [this]
    exact Nat.lt_succ_of_le ((Classical.choose_spec (exists_least h5)).2 j hinv)
   | exit id =>
    simp only [R3.ok.injEq,Prod.mk.injEq] at hc
    obtain ⟨rfl,rfl⟩:=hc
    intro g2 I2 a2 w2 hR2 hi hk
    obtain ⟨g3,PE⟩:=hR2.pack (O8 ex id)
    rw [<-hnp,<-hnt] at PE
    exact (hto.trans (g1:=g') h3 h4) g3 I2 a2 w2 PE hi hk
   | ret =>
    simp only [R3.ok.injEq,Prod.mk.injEq] at hc
    obtain ⟨rfl,rfl⟩:=hc
    intro g2 I2 a2 w2 hR2 hi hk
    obtain ⟨g3,PE⟩:=hR2.pack fi.ret
    rw [<-hnp,<-hnt] at PE
    exact (hto.trans (g1:=g') h3 h4) g3 I2 a2 w2 PE hi hk
end
end Go.E

namespace Go.E
open Go
section
variable {Γ:Ctx} {P:Program}
def aa7 (Γ:Ctx) (P:Program) (gF:FuncId->Option (List Arg->R3 fV)):Prop:=∀ f g args,gF f=some g->g args ≠ .bad->Nv P f args (g args)
theorem afX {fn:Func} {args:List Arg} {σ:S} (h:Ez Γ fn args σ ≠ .bad) : ∃ ret,Ez Γ fn args σ = .ok ret:=by
 cases hr:Ez Γ fn args σ with
 | ok ret=>exact ⟨ret,rfl⟩
 | bad=>exact absurd hr h
 | out =>
  exfalso
  unfold Ez at hr
  simp only at hr
  split at hr
  ·cases hr
  ·split at hr
   ·rename_i rs _
    split at hr
    ·rename_i bs _
     cases hc:yX (rs.flatMap eD++bs.flatMap jf) <;> rw [hc] at hr <;> cases hr
    ·cases hr
   ·cases hr
section
variable {cf:FuncId->List Arg->R3 fV} {n:Fr} {σ:S} {g:Gh} {I:aB} {a:Act} {w:World} {tr:Tr} {Q:S->Tr->Prop}
theorem R.move (hR:R n σ g I a w) {key nk:Key} (hne:key≠nk) (hnk : ¬ gN n.np nk) {es:List LT} {ms:List M} {rows:List (List T)} (hc:(σ.k key).ch = .row es ms rows) :
  ∃ g',R n ((σ.bK nk ⟨.row es ms rows,(σ.k nk).bQ+1,(σ.k nk).cv+1⟩).bK key ⟨.gone,(σ.k key).bQ+1,(σ.k key).cv+1⟩) g' I a w /\
   gM σ.k g w I ((σ.bK nk ⟨.row es ms rows,(σ.k nk).bQ+1,(σ.k nk).cv+1⟩).bK key ⟨.gone,(σ.k key).bQ+1,(σ.k key).cv+1⟩).k g' w I/\g'.h nk=g.h key:=by
 have hch:=hR.vI key
 rw [hc] at hch
 have hlive:Live (σ.k key).ch:=by rw [hc]; trivial
 let e:KE:=⟨.row es ms rows,(σ.k nk).bQ+1,(σ.k nk).cv+1⟩
 let e2:KE:=⟨.gone,(σ.k key).bQ+1,(σ.k key).cv+1⟩
 have k1:((σ.bK nk e).bK key e2).k nk=e:=by rw [aO _ _ (Ne.symm hne),aP]
 have k2:((σ.bK nk e).bK key e2).k key=e2:=aP _ _ _
 have k3 : ∀ u,u≠key->u≠nk->((σ.bK nk e).bK key e2).k u=σ.k u:=fun u h1 h2=>by rw [aO _ _ h1,aO _ _ h2]
 have kl : ∀ u,u=key\/u=nk->Live (((σ.bK nk e).bK key e2).k u).ch->u=nk:=fun u hu hl=>by
  rcases hu with rfl | rfl
  ·rw [k2] at hl; exact hl.elim
  ·rfl
 obtain ⟨h1,h2⟩:=hR.touch (σ':=(σ.bK nk e).bK key e2) (g':=g.set nk (g.h key) (g.F key)) (I':=I) (w':=w) (fun u=>u=key\/u=nk) (g.F key) rfl rfl
  (fun u hu=>⟨k3 u (fun h=>hu (.inl h)) (fun h=>hu (.inr h)),Gh.xS _ _ _ (fun h=>hu (.inr h)),Gh.uZ _ _ _ (fun h=>hu (.inr h))⟩)
  (fun u hu=>by
   rcases hu with rfl | rfl
   ·rw [k2]; exact ⟨Nat.lt_succ_self _,Nat.le_succ _,fun h=>absurd h (Nat.succ_ne_self _)⟩
   ·rw [k1]; exact ⟨Nat.lt_succ_self _,Nat.le_succ _,fun h=>absurd h (Nat.succ_ne_self _)⟩)
  (fun u hu hp hl=>by rw [kl u hu hl] at hp; exact absurd hp hnk)
  (fun u hu hl b o hf=>by rw [kl u hu hl,Gh.jR] at hf; exact .inl hf)
  (fun u v hu hv hlu hlv hne=>absurd ((kl u hu hlu).trans (kl v hv hlv).symm) hne)
  (fun u hu hl=>hR.sep u key hl hlive fun h=>hu (.inl h)) (hR.jP key hlive) (hR.x.wW key hlive) (Keeps.refl _ _) (fun _ _ h=>h) (fun _ _ h=>.inl h)
  (fun u hu hl b o hf hi=>by rw [kl u hu hl,Gh.jR] at hf; exact hR.jP key hlive b o hf hi) hR.zu
  (fun _ u hu=>by
   by_cases hun:u=nk
   ·subst hun; rw [k1]
    show aV _ _ _ _ _ ((g.set _ (g.h key) (g.F key)).h _) ((g.set _ (g.h key) (g.F key)).F _)
    rw [Gh.oz,Gh.jR]; exact hch
   ·rcases hu with rfl | hu
    ·rw [k2]; trivial
    ·exact absurd hu hun)
 exact ⟨_,h1,h2,Gh.oz _ _ _ _⟩
theorem Qb (hR:R n σ g I a w) {nk:Key} (hnk : ¬ gN n.np nk) {l:Leaf} {v:Value} {k:Leaf->Prog} (hl:ER σ.k g w I l v) (h:(Dv nk l k).wp cf σ tr Q) :
  ∃ l' σ' g' dI,(k l').wp cf σ' dI Q/\R n σ' g' I a w/\gM σ.k g w I σ'.k g' w I/\σ'.s=σ.s/\ER σ'.k g' w I l' v:=by
 obtain ⟨st,lt,d⟩:=l
 unfold Dv at h
 cases st with
 | al key m =>
  simp only at h
  rcases jg h with ⟨-,h⟩ | ⟨hne,h⟩
  ·exact ⟨_,σ,g,tr,h,hR,gM.refl,rfl,hl⟩
  ·simp only [Prog.wp] at h
   rcases jg h with ⟨hid,h⟩ | ⟨-,h⟩
   ·split at h
    ·rename_i es ms rows hc
     simp only [Prog.wp] at h
     have hne:key≠nk:=fun e=>by rw [(eX _ _).2 e] at hne; cases hne
     obtain ⟨g',mE,pE,hh⟩:=hR.move hne hnk hc
     obtain ⟨hs,hsl,hm1,hm2⟩:=hl
     refine ⟨_,_,g',_,h,mE,pE,rfl,hs,trivial,?_,fun _=>?_⟩
     ·rw [aO _ _ (Ne.symm hne),aP]; exact Nat.le_refl _
     ·rw [hh]; exact hm2 (Nat.eq_of_beq_eq_true hid)
    ·exact ⟨_,σ,g,_,h,hR,gM.refl,rfl,hl⟩
   ·exact ⟨_,σ,g,_,h,hR,gM.refl,rfl,hl⟩
 | _=>exact ⟨_,σ,g,tr,h,hR,gM.refl,rfl,hl⟩
theorem Qc (hR:R n σ g I a w) {nk:Key} (hnk : ¬ gN n.np nk) {m:M} {l:Leaf} {v:Value} {k:Leaf->Prog} (hl:ER σ.k g w I l v) (h:(OB nk m l k).wp cf σ tr Q) :
  ∃ l' σ' g' I' dI,(k l').wp cf σ' dI Q/\R n σ' g' I' a w/\gM σ.k g w I σ'.k g' w I'/\σ'.s=σ.s/\ER σ'.k g' w I' l' v:=by
 have mv : ∀ {tr:Tr},(Dv nk l k).wp cf σ tr Q->∃ l' σ' g' I' dI,(k l').wp cf σ' dI Q/\R n σ' g' I' a w/\gM σ.k g w I σ'.k g' w I'/\σ'.s=σ.s/\ER σ'.k g' w I' l' v:=fun h=>by
  obtain ⟨l2,σ2,g2,t2,h,hR2,zA,hs2,hl2⟩:=Qb hR hnk hl h
  exact ⟨l2,σ2,g2,I,t2,h,hR2,zA,hs2,hl2⟩
 unfold OB at h
 rcases jg h with ⟨-,h⟩ | ⟨-,h⟩
 ·exact ⟨_,σ,g,I,tr,h,hR,gM.refl,rfl,hl⟩
 split at h
 ·obtain ⟨l',-,σ1,g1,I1,t1,h,mE,pE,hs1,hl1⟩:=xg hR hnk hl h
  exact ⟨l',σ1,g1,I1,t1,h,mE,pE,hs1,hl1⟩
 ·split at h
  ·simp only [Prog.wp] at h
   split at h
   ·rcases jg h with ⟨-,h⟩ | ⟨-,h⟩
    ·obtain ⟨l',-,σ1,g1,I1,t1,h,mE,pE,hs1,hl1⟩:=xg hR hnk hl h
     obtain ⟨l2,σ2,g2,t2,h,hR2,zA,hs2,hl2⟩:=Qb mE hnk hl1 h
     exact ⟨l2,σ2,g2,I1,t2,h,hR2,pE.trans zA,hs2.trans hs1,hl2⟩
    ·exact mv h
   ·exact mv h
  ·exact mv h
 ·exact ⟨_,σ,g,I,tr,h,hR,gM.refl,rfl,hl⟩
theorem D7 {base:Nat} : ∀ {ls:List Leaf} {vs:List Value} {j:Nat} {ms:List M} {k:List Leaf->Prog} {σ:S} {g:Gh} {I:aB} {tr:Tr},R n σ g I a w->cu σ.k g w I ls vs->(Cz base j ms ls k).wp cf σ tr Q ->
  ∃ ls' σ' g' I' dI,(k ls').wp cf σ' dI Q/\R n σ' g' I' a w/\gM σ.k g w I σ'.k g' w I'/\σ'.s=σ.s/\cu σ'.k g' w I' ls' vs
 | [],[],j,ms,k,σ,g,I,tr,hR,hl,h=>⟨[],σ,g,I,tr,h,hR,gM.refl,rfl,trivial⟩
 | l::ls,v::vs,j,ms,k,σ,g,I,tr,hR,hl,h=>by
  simp only [Cz] at h
  obtain ⟨l',σ1,g1,I1,t1,h,mE,pE,hs1,hl1⟩:=Qc hR (yA n.big (by omega) _) hl.1 h
  obtain ⟨ls',σ2,g2,I2,t2,h,hR2,zA,hs2,hl2⟩:=D7 mE (pE.XQ hl.2) h
  exact ⟨_,σ2,g2,I2,t2,h,hR2,pE.trans zA,hs2.trans hs1,⟨zA.lf hl1,hl2⟩⟩
 | [],_::_,_,_,_,_,_,_,_,_,hl,_=>hl.elim
 | _::_,[],_,_,_,_,_,_,_,_,hl,_=>hl.elim
theorem aed (hR:R n σ g I a w) {base:Nat} {ms:List M} {key:Key} {i:Nat} {p:Prog} (h:(Lh base ms key i p).wp cf σ tr Q) :
  ∃ σ' g' I' dI,p.wp cf σ' dI Q/\R n σ' g' I' a w/\gM σ.k g w I σ'.k g' w I'/\σ'.s=σ.s:=by
 simp only [Lh,Prog.wp] at h
 rcases jg h with ⟨hid,h⟩ | ⟨-,h⟩
 ·have hid:=Nat.eq_of_beq_eq_true hid
  split at h
  ·rename_i ls hc
   rcases jg h with ⟨-,h⟩ | ⟨-,h⟩
   ·have hch:=hR.vI key
    rw [hc] at hch
    obtain ⟨cs,hat,hls⟩:=mZ.at' hch
    obtain ⟨ls',σ1,g1,I1,t1,h,mE,pE,hs1,hl1⟩:=D7 hR hls h
    simp only [Prog.wp] at h
    obtain ⟨DL,h⟩:=h
    have DL:=Nat.eq_of_beq_eq_true DL
    split at h
    ·rename_i ls0 hc1
     obtain ⟨hlen,h⟩:=h
     have hlen:=Nat.eq_of_beq_eq_true hlen
     have hh:=(pE.head key (DL.trans hid.symm)).1
     have hlive:Live (σ1.k key).ch:=by rw [hc1]; trivial
     obtain ⟨hR2,zA⟩:=mE.Wp (e:=⟨.box ls',(σ1.k key).bQ,(σ1.k key).cv+1⟩) (w':=w) hlive rfl (Nat.lt_succ_self _) (by rw [hc1]; rfl) (Keeps.refl _ _) fun zA=>by
      have Fz:=mE.vI key
      rw [hc1] at Fz
      obtain ⟨b,o,c,el,fz,h1,h2,h3,h4,h5,-⟩:=Fz
      obtain ⟨b',o',c',SQ,fz',h6,h7,h8,rfl⟩:=hat
      rw [hh,h6] at h1
      cases h1
      have h9:w.heap[b]? = some (.cells c el fz):=h2
      have h10:w.heap[b]? = some (.cells c' SQ fz'):=h7
      rw [h9] at h10
      cases h10
      refine ⟨b,o,c,el,fz,by rw [hh,h6],h2,by rw [hlen]; exact h3,by rw [hlen]; exact h4,by rw [hlen]; exact h5,?_⟩
      have h11:=cu.len' hl1
      have h12:=cu.len' hls
      rw [show ls'.length=ls.length from by omega]
      exact zA.XQ hl1
     exact ⟨_,g1,I1,_,h,hR2,pE.trans zA,hs1⟩
    ·exact h.elim
   ·exact ⟨σ,g,I,_,h,hR,gM.refl,rfl⟩
  ·exact ⟨σ,g,I,_,h,hR,gM.refl,rfl⟩
 ·exact ⟨σ,g,I,_,h,hR,gM.refl,rfl⟩
theorem R.slot (hR:R n σ g I a w) {t:Nat} {e:fC} (h:jY σ.k g w I e (a.tmps.getD t undef)):R n (σ.mG t e) g I a w:=by
 refine ⟨hR.size,hR.nd,fun u=>?_,hR.vI,hR.sep,hR.jP,hR.zu,hR.x⟩
 by_cases hu:u=t
 ·subst hu; rw [yZ]; exact h
 ·rw [zB _ _ hu]; exact hR.slots u
def Can (cf:FuncId->List Arg->R3 fV) (n:Fr) (a:Act) (w:World) (Q:S->Tr->Prop) (p:Prog):Prop :=
 ∀ (σ:S) (g:Gh) (I:aB) (tr:Tr),R n σ g I a w->p.wp cf σ tr Q->∃ σ' g' I' dI,Q σ' dI/\R n σ' g' I' a w/\(∀ b o,I b o->I' b o)
theorem Can.ret:Can cf n a w Q .ret:=fun σ g I tr hR hw=>⟨σ,g,I,tr,hw,hR,fun _ _ h=>h⟩
theorem Can.box {p:Prog} (h:Can cf n a w Q p) (base:Nat) (ms:List M) (key:Key) (i:Nat):Can cf n a w Q (Lh base ms key i p):=by
 intro σ g I tr hR hw
 obtain ⟨σ1,g1,I1,t1,h1,h2,h3,-⟩:=aed hR hw
 obtain ⟨σ2,g2,I2,t2,h4,h5,h6⟩:=h _ _ _ _ h2 h1
 exact ⟨σ2,g2,I2,t2,h4,h5,fun b o hb=>h6 b o (h3.jP b o hb).1⟩
theorem Can.args {f:FuncId} {p:Prog} (h:Can cf n a w Q p) : ∀ {i:Nat} {az:List Arg},Can cf n a w Q (Jw Γ f i az p)
 | i,[]=>h
 | i,x::az=>by
  have ih:=Can.args (f:=f) h (i:=i+1) (az:=az)
  cases x <;> first | exact ih | exact Can.box ih _ _ _ _
theorem Can.res {f:FuncId} {p:Prog} (h:Can cf n a w Q p) : ∀ {q:Nat} {rs:List ResultVar},Can cf n a w Q (xQ Γ f q rs p)
 | q,[]=>h
 | q,.tmp t::rs=>fun σ g I tr hR hw=>by
  have ih:=Can.res (f:=f) h (q:=q+1) (rs:=rs)
  simp only [xQ,Prog.wp] at hw
  have hsl:=hR.slots t
  split at hw
  ·rename_i l he
   rw [he] at hsl
   obtain ⟨l',σ1,g1,I1,t1,h1,h2,h3,h4,h5⟩:=Qc hR (yA n.big (by omega) _) hsl hw
   obtain ⟨σ2,g2,I2,t2,h6,h7,h8⟩:=ih _ _ _ _ (h2.slot (t:=t) (e:=.one l') h5) h1
   exact ⟨σ2,g2,I2,t2,h6,h7,fun b o hb=>h8 b o (h3.jP b o hb).1⟩
  ·rename_i ls he
   rw [he] at hsl
   rcases jg hw with ⟨-,hw⟩ | ⟨-,hw⟩
   ·obtain ⟨cs,hv,hls⟩:=hsl
    obtain ⟨ls',σ1,g1,I1,t1,h1,h2,h3,h4,h5⟩:=D7 hR hls hw
    obtain ⟨σ2,g2,I2,t2,h6,h7,h8⟩:=ih _ _ _ _ (h2.slot (t:=t) (e:=.agg ls') ⟨cs,hv,h5⟩) h1
    exact ⟨σ2,g2,I2,t2,h6,h7,fun b o hb=>h8 b o (h3.jP b o hb).1⟩
   ·exact ih _ _ _ _ hR hw
  ·exact (Can.box ih _ _ _ _) _ _ _ _ hR hw
  ·exact ih _ _ _ _ hR hw
 | q,.cell x t::rs=>fun σ g I tr hR hw=>by
  have ih:=Can.res (f:=f) h (q:=q+1) (rs:=rs)
  simp only [xQ,Prog.wp] at hw
  split at hw
  ·exact (Can.box ih _ _ _ _) _ _ _ _ hR hw
  ·exact ih _ _ _ _ hR hw
theorem Can.leaf {p:Prog} (h:Can cf n a w Q p) (l:Leaf):Can cf n a w Q (yx l p):=by
 intro σ g I tr hR hw
 unfold yx at hw
 split at hw
 ·simp only [Prog.wp] at hw
  rcases jg hw with ⟨-,hw⟩ | ⟨-,hw⟩
  ·split at hw
   ·rename_i es ms rows hc
    obtain ⟨σ',g',I',dI,h1,h2,h3⟩:=h _ _ _ _ (hR.freeze hc).1 hw
    exact ⟨σ',g',I',dI,h1,h2,fun b o hb=>h3 b o (.inl hb)⟩
   ·exact h _ _ _ _ hR hw
  ·exact h _ _ _ _ hR hw
 ·exact h _ _ _ _ hR hw
theorem Can.leaves {p:Prog} (h:Can cf n a w Q p) : ∀ ls:List Leaf,Can cf n a w Q (Cy ls p)
 | []=>h
 | l::ls=>(Can.leaves h ls).leaf l
theorem Can.frz {p:Prog} (h:Can cf n a w Q p) : ∀ rs:List ResultVar,Can cf n a w Q (BN rs p)
 | []=>h
 | .tmp t::rs=>fun σ g I tr hR hw=>by
  simp only [BN,Prog.wp] at hw
  split at hw
  ·exact (Can.frz h rs).leaf _ _ _ _ _ hR hw
  ·exact (Can.frz h rs).leaves _ _ _ _ _ hR hw
  ·exact Can.frz h rs _ _ _ _ hR hw
 | .cell x t::rs=>fun σ g I tr hR hw=>by
  simp only [BN,Prog.wp] at hw
  split at hw
  ·simp only [Prog.wp] at hw
   split at hw
   ·exact (Can.frz h rs).leaves _ _ _ _ _ hR hw
   ·exact Can.frz h rs _ _ _ _ hR hw
  ·exact Can.frz h rs _ _ _ _ hR hw
theorem Can.end_ (f:FuncId) (fn:Func) (args:List Arg):Can cf n a w Q (AA Γ f fn args):=by
 intro σ g I tr hR hw
 unfold AA at hw
 have hp:Can cf n a w Q (xQ Γ f 0 fn.results.toList (Jw Γ f 0 args .ret)):=Can.res (Can.args Can.ret)
 rcases jg hw with ⟨-,hw⟩ | ⟨-,hw⟩
 ·exact Can.frz hp _ _ _ _ _ hR hw
 ·exact hp _ _ _ _ hR hw
end
theorem aoy (hΓ:fE Γ P) {cf:FuncId->List Arg->R3 fV} (hcf:PY Γ P cf) {f:FuncId} {fn:Func} {c:Code} (hf:Γ.fn f=some fn) (hb:fn.body=some c) {args:List Arg} {k ret:Nat} {r:R3 fV}
  (h1:args.length<=1000000) (h2:args.length<=fn.ntmps)
  (h:nL Γ cf (G9 Γ cf ⟨f,args.length,fn.ntmps,ret⟩ k) ⟨f,args.length,fn.ntmps,ret⟩ [] ret c (nK (Lg args)) (fun ctl σ=>match ctl with
      | .exit _=>.bad
      | _=>(AA Γ f fn args).run cf σ {} fun σ _=>Ez Γ fn args σ)=r) (hr:r ≠ .bad):Nv P f args r:=by
 intro g0 I A w vs hpre
 refine calls_of_wp (hΓ.fn _ _ hf) hb ?_
 have hR:=aiO (nt:=fn.ntmps) h1 hpre h2
 refine yC hΓ hcf (aiQ hΓ hcf k) c [] ret (n:=Ww fn.ntmps args h1 g0 I A) rfl rfl hR h hr fun ctl σ' hc=>?_
 have fin:(AA Γ f fn args).run cf σ' {} (fun σ _=>Ez Γ fn args σ)=r->∀ g' I' a' w',R (Ww fn.ntmps args h1 g0 I A) σ' g' I' a' w'->(∀ b o,I b o->I' b o)->Keeps (Im (Ww fn.ntmps args h1 g0 I A) I) w w' ->
   a'.defers=[] /\ ∃ v,(results fn a'.tmps).run P w' = .ok v w' /\ ∃ ret g' I',r = .ok ret/\JL g0 I A args w ret g' I' w' v:=by
  intro hc g' I' a' w' hR' hi hk
  obtain ⟨σ2,tr2,he,hrun⟩:=Prog.pJ _ _ _ _ (by rw [hc]; exact hr)
  obtain ⟨σ3,g3,I3,tr3,⟨rfl,rfl⟩,PE,hi3⟩:=Can.end_ (Γ:=Γ) (cf:=cf) f fn args _ _ _ _ hR' (Prog.sZ _ he)
  rw [hc] at hrun
  obtain ⟨ret,hret⟩:=afX (by rw [<-hrun]; exact hr)
  obtain ⟨v,h3,h4⟩:=ad7 hΓ PE (fun b o hb=>hi3 b o (hi b o hb)) hk hret
  exact ⟨hR'.nd,v,h3,ret,g3,I3,by rw [hrun,hret],h4⟩
 cases ctl with
 | normal=>exact fun g' I' a' w' hR' hi hk=>fin hc g' I' a' w' hR' hi hk
 | ret=>exact fun g' I' a' w' hR' hi hk=>fin hc g' I' a' w' hR' hi hk
 | exit id=>exact absurd hc.symm hr
theorem acE (hΓ:fE Γ P) {gF:FuncId->Option (List Arg->R3 fV)} (hp:aa7 Γ P gF) : ∀ k,PY Γ P (Fp Γ gF k)
 | 0=>fun f args _ h=>absurd rfl h
 | k+1=>fun f args hfn h=>by
  have ih:=acE hΓ hp k
  generalize hr:Fp Γ gF (k+1) f args=r at h ⊢
  simp only [Fp] at hr
  split at hr
  ·rename_i g hg
   subst hr
   exact hp f g args hg h
  ·split at hr
   ·exact absurd hr.symm h
   ·rename_i fn hf
    split at hr
    ·exact absurd hr.symm h
    ·rename_i c hc
     cases hb:(Nat.ble args.length 1000000&&Nat.ble args.length fn.ntmps) with
     | false=>rw [hb] at hr; exact absurd hr.symm h
     | true =>
      rw [hb] at hr
      simp only [Bool.and_eq_true] at hb
      exact aoy hΓ ih hf hc (Nat.le_of_ble_eq_true hb.1) (Nat.le_of_ble_eq_true hb.2) hr h
end
end Go.E

namespace Go.E
open Go
mutual
def Uw:T->Nat
 | .i _=>1
 | .b _=>1
 | .s s=>s.size+1
 | .l rows=>CP rows+1
 | .x _=>1
def iq:List T->Nat
 | []=>0
 | d::ds=>Uw d+iq ds
def CP:List (List T)->Nat
 | []=>0
 | r::rs=>iq r+CP rs
end
mutual
def lU {H:Type} : DataW H->Nat
 | .lit (.string bytes)=>bytes.length+1
 | .lit _=>1
 | .nil=>1
 | .ptr d=>lU d+1
 | .slice elems spare=>dS elems+dS spare+1
 | .agg parts=>dS parts+1
 | .iface _ d=>lU d+1
 | .map entries=>xk entries+1
 | .held _=>1
def dS {H:Type} : List (DataW H)->Nat
 | []=>0
 | d::r=>lU d+dS r
def xk {H:Type} : List (Lit×DataW H)->Nat
 | []=>0
 | x::r=>Lr x+xk r
def Lr {H:Type} : Lit×DataW H->Nat
 | (.string bytes,d)=>bytes.length+lU d+1
 | (_,d)=>lU d+1
end
def J4 (P:Program) (f:TypeId->Option (List LT)):Nat->List Field->Option (List LT)
 | _,[]=>some []
 | off,x::fs=>match f x.type,J4 P f (off+P.cellsOf x.type) fs with
  | some es,some r=>if x.offset=off/\es.length=P.cellsOf x.type then some (es++r) else none
  | _,_=>none
def Ho (P:Program):Nat->TypeId->Option (List LT)
 | 0,_=>none
 | k+1,t =>
  match P.underlying t with
  | some .bool=>some [.sc .bool]
  | some (.int kd)=>some [.sc (.int kd)]
  | some .string=>some [.sc .str]
  | some (.slice e)=>match Ho P k e with
   | some es=>if es.length=P.cellsOf e/\es≠[] then some [.sl es] else none
   | none=>none
  | some (.struct fs)=>match J4 P (Ho P k) 0 fs.toList with
   | some es=>if es.length=P.cellsOf t then some es else none
   | none=>none
  | some (.array n e)=>match Ho P k e with
   | some es=>if es.length=P.cellsOf e/\n * es.length=P.cellsOf t then some (List.flatten (List.replicate n es)) else none
   | none=>none
  | _=>none
section
variable {P:Program} {w:World} {H:Type} {enc:TypeId×Value->H} {sp:Nat->Bool} {held:Bool}
def Valid (w:World):aB:=fun b o=>∃ v,cellAt w b o=some v
theorem Yk {a:Addr} : ∀ {n:Nat} {cs:List Value},w.cells? 0 a n=some cs->cs.length=n /\ ∀ j (h:j<cs.length),w.cell? (a.add j)=some cs[j]:=by
 intro n cs h
 unfold World.cells? at h
 rw [if_pos (Nat.zero_le _)] at h
 have key : ∀ (l:List Nat) (cs:List Value),l.mapM (fun i=>w.cell? (a.add i))=some cs->cs.length=l.length /\ ∀ j (h:j<cs.length) (h':j<l.length),w.cell? (a.add l[j])=some cs[j]:=by
  intro l
  induction l with
  | nil=>intro cs h; simp at h; subst h; exact ⟨rfl,fun j hj=>by simp at hj⟩
  | cons i l ih =>
   intro cs h
   simp only [List.mapM_cons] at h
   cases hi:w.cell? (a.add i) with
   | none=>rw [hi] at h; simp at h
   | some v =>
    rw [hi] at h
    cases hr:l.mapM (fun i=>w.cell? (a.add i)) with
    | none=>rw [hr] at h; simp at h
    | some vs =>
     rw [hr] at h
     simp at h
     subst h
     obtain ⟨h1,h2⟩:=ih vs hr
     refine ⟨by simp [h1],fun j hj hj'=>?_⟩
     cases j with
     | zero=>exact hi
     | succ j=>exact h2 j (by simpa using hj) (by simpa using hj')
 obtain ⟨h1,h2⟩:=key _ cs h
 simp only [List.length_range] at h1
 exact ⟨h1,fun j hj=>by have:=h2 j hj (by simp; omega); simpa using this⟩
theorem FI : ∀ (a b:List T),iq (a++b)=iq a+iq b
 | [],b=>by simp [iq]
 | x::a,b=>by simp only [List.cons_append,iq,FI a b]; omega
theorem MP : ∀ (ds:List (DataW H)),ds.length<=dS ds
 | []=>Nat.zero_le _
 | d::r=>by
  have:=MP r
  have h1:1<=lU d:=by
   cases d with
   | lit l=>cases l <;> simp [lU]
   | _=>simp [lU]
  simp only [dS,List.length_cons]
  omega
theorem aee {a:Addr} {v:Value} (h:w.cell? a=some v):a.spot=none:=by
 unfold World.cell? at h
 split at h
 ·split at h
  ·cases h
  ·rename_i hs; simpa using hs
 ·cases h
theorem Tk (a:Addr):a.add 0=a:=by simp [Addr.add]
theorem Yl {a:Addr} (h:a.spot=none):a=⟨a.block,a.off,none⟩:=by cases a; simp_all
theorem aW.append : ∀ {I:aB} {es es':List LT} {vs vs':List Value} {ds ds':List T},aW w I es vs ds->aW w I es' vs' ds'->aW w I (es++es') (vs++vs') (ds++ds'):=fun h h'=>aW.app h h'
theorem Ym : ∀ (k:Nat) (t:TypeId) (aR:List LT),Ho P k t=some aR->∀ (fuel:Nat) (cs:List Value) (x:DataW H×List MemPlace),DataW.trod enc P w 0 sp held fuel t cs=some x->lU x.1<=bG ->
  ∃ ds,aW w (Valid w) aR cs ds/\iq ds<=lU x.1:=by
 intro k
 induction k with
 | zero=>intro t aR h; simp [Ho] at h
 | succ k ih =>
  intro t aR h fuel cs x hx hb
  simp only [Ho] at h
  split at h
  ·rename_i hu
   cases h
   obtain ⟨b,rfl,rfl⟩:=DataW.trod_bool hu hx
   exact ⟨[.b b],⟨by unfold aJ; exact ⟨b,rfl,rfl⟩,trivial⟩,by simp [iq,Uw,lU]⟩
  ·rename_i kd hu
   cases h
   obtain ⟨m,rfl,rfl,hw⟩:=DataW.trod_int hu hx
   simp only [Lit.wf,Bool.and_eq_true,decide_eq_true_eq] at hw
   exact ⟨[.i m],⟨by unfold aJ; exact ⟨m,rfl,rfl,hw⟩,trivial⟩,by simp [iq,Uw,lU]⟩
  ·rename_i hu
   cases h
   obtain ⟨s,rfl,rfl,hs⟩:=DataW.trod_string hu hx
   have hsz:s.size<9223372036854775808:=by
    have:maxLen=9223372036854775807:=rfl
    omega
   refine ⟨[.s s],⟨by unfold aJ; exact ⟨s,rfl,rfl,hsz⟩,trivial⟩,?_⟩
   have:s.data.toList.length=s.size:=rfl
   simp only [iq,Uw,lU]
   omega
  ·rename_i e hu
   split at h
   ·rename_i es he
    split at h
    ·rename_i hes
     obtain ⟨hes,hne⟩:=hes
     cases h
     rcases DataW.trod_slice hu hx with ⟨rfl,rfl⟩ | ⟨a,len,cap,elems,rest,m,-,rfl,rfl,-,h1,h2,h3,h4,-,-⟩
     ·exact ⟨[.l []],⟨by unfold aJ; exact ⟨none,0,[],rfl,rfl,Nat.le_refl _,Nat.zero_le _,.inl rfl⟩,trivial⟩,by simp [iq,Uw,CP,lU]⟩
     ·simp only [lU] at hb ⊢
      have hel : ∀ i (hi:i<elems.length),∃ ds cs,w.cells? 0 (a.add (i * P.cellsOf e)) (P.cellsOf e)=some cs/\aW w (Valid w) es cs ds/\iq ds<=lU elems[i].1:=by
       intro i hi
       have:=h4 i (by omega)
       rw [List.getElem?_eq_getElem hi] at this
       obtain ⟨cs,h5,h6⟩:=Option.bind_eq_some_iff.1 this
       have hle:lU elems[i].1<=bG:=by
        have : ∀ (l:List (DataW H×List MemPlace)) (i:Nat) (hi:i<l.length),lU l[i].1<=dS (l.map (·.1)):=by
         intro l
         induction l with
         | nil=>intro i hi; simp at hi
         | cons y l ih =>
          intro i hi
          simp only [List.map_cons,dS]
          cases i with
          | zero=>simp
          | succ i=>have:=ih i (by simpa using hi); simp only [List.getElem_cons_succ]; omega
        have:=this elems i hi
        omega
       obtain ⟨ds,h7,h8⟩:=ih e es he m cs _ h6 hle
       exact ⟨ds,cs,h5,h7,h8⟩
      have hrows : ∀ (l:List (DataW H×List MemPlace)) (k:Nat),(∀ i (hi:i<l.length),∃ ds cs,w.cells? 0 (a.add ((k+i) * P.cellsOf e)) (P.cellsOf e)=some cs/\aW w (Valid w) es cs ds/\iq ds<=lU l[i].1) ->
        ∃ rows:List (List T),rows.length=l.length/\CP rows<=dS (l.map (·.1)) /\ ∀ i (hi:i<rows.length),∃ cs,w.cells? 0 (a.add ((k+i) * P.cellsOf e)) (P.cellsOf e)=some cs/\aW w (Valid w) es cs rows[i]:=by
       intro l
       induction l with
       | nil=>intro k _; exact ⟨[],rfl,by simp [CP,dS],fun i hi=>by simp at hi⟩
       | cons y l ih =>
        intro k hl
        obtain ⟨ds,cs,h5,h6,h7⟩:=hl 0 (by simp)
        obtain ⟨rows,h8,h9,h10⟩:=ih (k+1) fun i hi=>by
         have:=hl (i+1) (by simpa using hi)
         simpa [show k+(i+1)=k+1+i from by omega] using this
        refine ⟨ds::rows,by simp [h8],?_,fun i hi=>?_⟩
        ·simp only [CP,List.map_cons,dS]
         simp only [List.getElem_cons_zero] at h7
         omega
        ·cases i with
         | zero=>exact ⟨cs,h5,h6⟩
         | succ i =>
          have:=h10 i (by simpa using hi)
          simpa [show k+(i+1)=k+1+i from by omega] using this
      obtain ⟨rows,h5,h6,h7⟩:=hrows elems 0 (fun i hi=>by simpa using hel i hi)
      have aoz:=MP (elems.map (·.1))
      simp only [List.length_map] at aoz
      refine ⟨[.l rows],⟨?_,trivial⟩,by simp only [iq,Uw]; omega⟩
      unfold aJ
      refine ⟨some a,cap,rows,rfl,by rw [h5,h3],by omega,by omega,?_⟩
      by_cases hz:rows=[]
      ·exact .inl hz
      ·right
       have hpos:0<es.length:=List.length_pos_iff.2 hne
       have hr0:0<rows.length:=List.length_pos_iff.2 hz
       have hsp:a.spot=none:=by
        obtain ⟨cs,h8,h9⟩:=h7 0 hr0
        obtain ⟨h10,h11⟩:=Yk h8
        have:=h11 0 (by omega)
        simp only [Nat.zero_add,Nat.zero_mul,Tk] at this
        exact aee this
       refine ⟨a.block,a.off,by rw [<-Yl hsp],fun i hi=>?_⟩
       obtain ⟨cs,h8,h9⟩:=h7 i hi
       obtain ⟨h10,h11⟩:=Yk h8
       have hat : ∀ j (hj:j<cs.length),cellAt w a.block (a.off+i * es.length+j)=some cs[j]:=fun j hj=>by
        have:=h11 j hj
        rw [Yl hsp,addr_add,addr_add] at this
        rw [hes]
        rw [Nat.zero_add] at this
        unfold cellAt
        exact this
       refine dK.CB h9 ?_ fun j hj=>⟨_,hat j hj⟩
       have : ∀ (vs:List Value) (o:Nat),(∀ j (hj:j<vs.length),cellAt w a.block (o+j)=some vs[j])->bO w a.block o vs:=by
        intro vs
        induction vs with
        | nil=>intro o _; trivial
        | cons v vs ih =>
         intro o h
         refine ⟨h 0 (by simp),ih (o+1) fun j hj=>?_⟩
         have:=h (j+1) (by simpa using hj)
         rw [show o+1+j=o+(j+1) from by omega]
         exact this
       exact this cs _ hat
    ·cases h
   ·cases h
  ·rename_i fs hu
   split at h
   ·rename_i es he
    split at h
    ·rename_i hes
     cases h
     obtain ⟨xs,m,-,rfl,h1,h2,h3⟩:=DataW.trod_struct hu hx
     simp only [lU] at hb ⊢
     have key : ∀ (l:List Field) (ys:List (DataW H×List MemPlace)) (off:Nat) (es:List LT),J4 P (Ho P k) off l=some es->l.length=ys.length->(∀ i (hi:i<l.length) (hi':i<ys.length),DataW.trod enc P w 0 sp held m l[i].type ((cs.drop l[i].offset).take (P.cellsOf l[i].type))=some ys[i]) ->
       dS (ys.map (·.1))<=bG->off+es.length<=cs.length->∃ ds,aW w (Valid w) es ((cs.drop off).take es.length) ds/\iq ds<=dS (ys.map (·.1)):=by
      intro l
      induction l with
      | nil =>
       intro ys off es h _ _ _ _
       simp only [J4,Option.some.injEq] at h
       subst h
       exact ⟨[],by simp only [List.length_nil,List.take_zero]; trivial,by simp [iq]⟩
      | cons f l ihl =>
       intro ys off es h hlen hy hbk hoff
       cases ys with
       | nil=>simp at hlen
       | cons y ys =>
        simp only [J4] at h
        split at h
        ·rename_i e1 r1 he1 hr1
         split at h
         ·rename_i hc
          cases h
          simp only [List.map_cons,dS] at hbk ⊢
          simp only [List.length_append] at hoff
          have h4:=hy 0 (by simp) (by simp)
          simp only [List.getElem_cons_zero] at h4
          obtain ⟨ds1,h5,h6⟩:=ih f.type e1 he1 m _ y h4 (by omega)
          obtain ⟨ds2,h7,h8⟩:=ihl ys (off+P.cellsOf f.type) r1 hr1 (by simpa using hlen) (fun i hi hi'=>by
           have:=hy (i+1) (by simpa using hi) (by simpa using hi')
           simpa using this) (by omega) (by omega)
          refine ⟨ds1++ds2,?_,by rw [FI]; omega⟩
          have e2:(cs.drop off).take (e1++r1).length=((cs.drop f.offset).take (P.cellsOf f.type))++((cs.drop (off+P.cellsOf f.type)).take r1.length):=by
           rw [List.length_append,hc.1,hc.2,List.take_add,List.drop_drop]
          rw [e2]
          exact aW.app h5 h7
         ·cases h
        ·cases h
     obtain ⟨ds,h4,h5⟩:=key fs.toList xs 0 aR he (by simp [h2]) (fun i hi hi'=>by
      have:=h3 i fs.toList[i] (by simp at hi ⊢)
      rw [this,List.getElem?_eq_getElem hi']) (by omega) (by omega)
     refine ⟨ds,?_,by omega⟩
     rw [List.drop_zero,List.take_of_length_le (by omega)] at h4
     exact h4
    ·cases h
   ·cases h
  ·rename_i m e hu
   split at h
   ·rename_i es he
    split at h
    ·rename_i hes
     obtain ⟨hes,aq3⟩:=hes
     cases h
     obtain ⟨xs,q,-,rfl,h1,h2,h3⟩:=DataW.trod_array hu hx
     simp only [lU] at hb ⊢
     have key : ∀ (j off:Nat) (ys:List (DataW H×List MemPlace)),ys.length=j->off * es.length+j * es.length<=cs.length->(∀ i (hi:i<ys.length),DataW.trod enc P w 0 sp held q e ((cs.drop ((off+i) * P.cellsOf e)).take (P.cellsOf e))=some ys[i]) ->
       dS (ys.map (·.1))<=bG->∃ ds,aW w (Valid w) (List.flatten (List.replicate j es)) ((cs.drop (off * es.length)).take (j * es.length)) ds/\iq ds<=dS (ys.map (·.1)):=by
      intro j
      induction j with
      | zero=>intro off ys _ _ _ _; exact ⟨[],by simp only [List.replicate_zero,List.flatten_nil,Nat.zero_mul,List.take_zero]; trivial,by simp [iq]⟩
      | succ j ihj =>
       intro off ys hlen hoff hy hbk
       cases ys with
       | nil=>simp at hlen
       | cons y ys =>
        simp only [List.map_cons,dS] at hbk ⊢
        have h4:=hy 0 (by simp)
        simp only [Nat.add_zero,List.getElem_cons_zero] at h4
        obtain ⟨ds1,h5,h6⟩:=ih e es he q _ y h4 (by omega)
        rw [Nat.add_mul,Nat.one_mul] at hoff
        obtain ⟨ds2,h7,h8⟩:=ihj (off+1) ys (by simpa using hlen) (by rw [Nat.add_mul]; omega) (fun i hi=>by
         have:=hy (i+1) (by simpa using hi)
         simpa [show off+(i+1)=off+1+i from by omega] using this) (by omega)
        refine ⟨ds1++ds2,?_,by rw [FI]; omega⟩
        simp only [List.replicate_succ,List.flatten_cons]
        have e2:(cs.drop (off * es.length)).take ((j+1) * es.length)=((cs.drop (off * P.cellsOf e)).take (P.cellsOf e))++((cs.drop ((off+1) * es.length)).take (j * es.length)):=by
         rw [<-hes,Nat.add_mul j,Nat.one_mul,Nat.add_comm,List.take_add,List.drop_drop,Nat.add_mul off,Nat.one_mul]
        rw [e2]
        exact aW.app h5 h7
     obtain ⟨ds,h4,h5⟩:=key m 0 xs h2 (by rw [aq3,<-h1]; omega) (fun i hi=>by
      have:=h3 i (by omega)
      rw [List.getElem?_eq_getElem hi] at this
      simpa using this) (by omega)
     refine ⟨ds,?_,by omega⟩
     rw [Nat.zero_mul,List.drop_zero,List.take_of_length_le (by omega)] at h4
     exact h4
    ·cases h
   ·cases h
  ·cases h
end
end Go.E

namespace Go.E
open Go Go.RowKit
def aoA:LT->T->AL
 | .sc s,d=>.sc s d
 | .sl es,d=>.fz es d.rows
def Ux:List LT->List T->List AL
 | lt::aR,d::ds=>aoA lt d::Ux aR ds
 | _,_=>[]
def mkArg (agg:Bool) (aR:List LT) (ds:List T):Arg:=cond agg (.agg (Ux aR ds)) (match Ux aR ds with | [a]=>.one a | _=>.agg [])
def afY (P:Program) (t:TypeId):Bool:=match P.underlying t with
 | some (.struct _)=>true
 | some (.array _ _)=>true
 | _=>false
section
variable {P:Program} {w w':World} {I:aB} {g0:Gh}
theorem acF {lt:LT} {v:Value} {d:T} {i j:Nat} (h:aJ w I lt v d):AlR g0 w I i j (aoA lt d) v:=by
 cases lt with
 | sc s=>unfold aJ at h; exact h
 | sl es =>
  have h1:=h
  unfold aJ at h1
  obtain ⟨_,_,rows,rfl,-⟩:=h1
  exact h
theorem Yn {i:Nat} : ∀ {aR:List LT} {vs:List Value} {ds:List T} {j:Nat},aW w I aR vs ds->Iu g0 w I i j (Ux aR ds) vs
 | [],[],[],_,_=>trivial
 | _::_,_::_,_::_,_,h=>⟨acF h.1,Yn h.2⟩
 | [],_::_,_,_,h=>h.elim
 | [],[],_::_,_,h=>h.elim
 | _::_,[],_,_,h=>h.elim
 | _::_,_::_,[],_,h=>h.elim
theorem FJ {i:Nat} : ∀ (aR:List LT) (ds:List T) (j:Nat),He i j (Ux aR ds)=[]
 | [],_,_=>rfl
 | _::_,[],_=>rfl
 | lt::aR,d::ds,j=>by
  simp only [Ux]
  cases lt <;> exact FJ aR ds (j+1)
theorem Yo {agg:Bool} {aR:List LT} {ds:List T} {i:Nat} : aci i (mkArg agg aR ds)=[]:=by
 cases agg with
 | true=>exact FJ aR ds 0
 | false =>
  simp only [mkArg,cond_false]
  have:=FJ (i:=i) aR ds 0
  split
  ·rename_i a h
   rw [h] at this
   exact this
  ·rfl
def D8 (P:Program) (w:World):List (Bool×List LT)->List (List T)->List Value->Prop
 | [],[],[]=>True
 | s::ss,ds::Ao,v::vs=>(∃ cs,(if s.1 then v = .agg cs else v.cells=cs/\s.2.length=1/\cs = #[v])/\aW w (Valid w) s.2 cs.toList ds)/\D8 P w ss Ao vs
 | _,_,_=>False
def Cc:List (Bool×List LT)->List (List T)->List Arg
 | s::ss,ds::Ao=>mkArg s.1 s.2 ds::Cc ss Ao
 | _,_=>[]
theorem J5 : ∀ (ss:List (Bool×List LT)) (Ao:List (List T)) (i:Nat),zq i (Cc ss Ao)=[]
 | [],_,_=>rfl
 | _::_,[],_=>rfl
 | s::ss,ds::Ao,i=>by simp only [Cc,zq,Yo,List.nil_append]; exact J5 ss Ao (i+1)
theorem Uy : ∀ {ss:List (Bool×List LT)} {Ao:List (List T)} {vs:List Value} {i:Nat},D8 P w ss Ao vs->AQ g0 w (Valid w) i (Cc ss Ao) vs
 | [],[],[],_,_=>trivial
 | s::ss,ds::Ao,v::vs,i,h=>by
  refine ⟨?_,Uy h.2⟩
  obtain ⟨⟨cs,h1,h2⟩,-⟩:=h
  obtain ⟨agg,aR⟩:=s
  cases agg with
  | true =>
   simp only [if_true] at h1
   subst h1
   exact ⟨cs,rfl,Yn h2⟩
  | false =>
   simp only [Bool.false_eq_true,if_false] at h1
   obtain ⟨-,h3,rfl⟩:=h1
   simp only at h2 h3
   match aR,ds,h3,h2 with
   | [lt],[d],_,h2=>exact acF h2.1
   | [lt],[],_,h2=>exact h2.elim
   | [lt],_::_::_,_,h2=>exact h2.2.elim
 | [],[],_::_,_,h=>h.elim
 | [],_::_,_,_,h=>h.elim
 | _::_,[],_,_,h=>h.elim
 | _::_,_::_,[],_,h=>h.elim
theorem Qd (h:Keeps (fun b o=>Valid w b o\/False) w w'):Below w.heap.size w w':=by
 refine ⟨h.os,h.tape,h.output,h.size,fun k hk=>?_⟩
 have hx:=Array.getElem?_eq_getElem hk
 obtain ⟨y,hy,hko⟩:=h.obj k _ hx
 rw [hy,hx]
 congr 1
 cases hc:w.heap[k] with
 | cells c el fz =>
  rw [hc] at hko hx
  obtain ⟨c',rfl,h1,h2⟩:=hko
  have:c'=c:=by
   apply Array.ext h1
   intro i hi1 hi2
   have:=h2 i (.inl ⟨c[i],by rw [mH (b:=k) (c:=c) (el:=el) (fz:=fz) hx]; exact Array.getElem?_eq_getElem hi2⟩)
   rw [Array.getElem?_eq_getElem hi1,Array.getElem?_eq_getElem hi2] at this
   exact Option.some.inj this
  rw [this]
 | _=>rw [hc] at hko; exact hko
theorem afZ {f:FuncId} {ss:List (Bool×List LT)} {Ao:List (List T)} {vs:Array Value} {r:R3 fV} {owns:List (List (Option (List LT×List M×List (List T))))} (h:Nv P f (Cc ss Ao) r)
  {bs:List (Option (List RL))} (hr:r = .ok ⟨[.one (.sc .bool (.b true))],owns,bs⟩) (hv:D8 P w ss Ao vs.toList):Calls P f vs w fun e w'=>e = .returned (.bool true)/\Below w.heap.size w w':=by
 have hnh : ∀ k,¬ Held (Cc ss Ao) k:=fun k hk=>by
  unfold Held at hk
  rw [J5] at hk
  exact hk
 refine Calls.mono (h ⟨fun _=>.nilIface,fun _ _ _=>False,fun _ _=>False⟩ (Valid w) (fun _ _=>False) w vs ⟨Uy hv,fun k _ hk=>absurd hk (hnh k),fun k hk=>absurd hk (hnh k),fun k hk=>absurd hk (hnh k),fun _ _ h=>h,fun _ _ h=>h.elim,fun _ _ h=>h.elim⟩) fun e w' he=>?_
 cases e with
 | outgrown=>exact he.elim
 | panicked _=>exact he.elim
 | returned v =>
  obtain ⟨ret,g',I',h1,h2⟩:=he
  rw [hr] at h1
  cases h1
  obtain ⟨vs',rfl,hres⟩:=h2.res
  refine ⟨?_,Qd h2.keeps⟩
  match vs',hres with
  | [v],hres =>
   obtain ⟨⟨-,b,hv,hb⟩,-⟩:=hres
   cases hb
   exact congrArg Ending.returned hv
  | [],hres=>exact hres.elim
  | _::_::_,hres=>exact hres.2.elim
end
end Go.E

namespace Go.E
open Go Go.RowKit
section
variable {P:Program} {w w':World} {H:Type} {enc:TypeId×Value->H} {sp:Nat->Bool} {held:Bool}
def shapeOf (P:Program) (k:Nat) (t:TypeId):Option (Bool×List LT):=(Ho P k t).map fun aR=>(afY P t,aR)
theorem aef {k:Nat} {t:TypeId} {s:Bool×List LT} (hs:shapeOf P k t=some s) {base:Nat} {v:Value} {d:DataW H} {ps:List MemPlace} (hval:Value.okWide P w .any base t v) (h:DataW.Trod enc P w 0 sp held t v d ps)
  (hb:lU d<=bG) : ∃ ds,(∃ cs,(if s.1 then v = .agg cs else v.cells=cs/\s.2.length=1/\cs = #[v])/\aW w (Valid w) s.2 cs.toList ds)/\iq ds<=lU d:=by
 unfold shapeOf at hs
 obtain ⟨aR,hl,rfl⟩:=Option.map_eq_some_iff.1 hs
 obtain ⟨fuel,hf⟩:=h
 obtain ⟨ds,h1,h2⟩:=Ym k t aR hl fuel _ _ hf hb
 refine ⟨ds,⟨v.cells,?_,h1⟩,h2⟩
 simp only
 cases k with
 | zero=>simp [Ho] at hl
 | succ k =>
  simp only [Ho] at hl
  unfold afY
  split at hl
  ·rename_i hu
   cases hl
   obtain ⟨b,rfl⟩:=WideShapes.okWide_bool hu hval
   simp [hu,Value.cells]
  ·rename_i kd hu
   cases hl
   obtain ⟨b,rfl⟩:=WideShapes.okWide_int hu hval
   simp [hu,Value.cells]
  ·rename_i hu
   cases hl
   obtain ⟨b,rfl⟩:=WideShapes.okWide_string hu hval
   simp [hu,Value.cells]
  ·rename_i e hu
   obtain ⟨x,y,z,rfl⟩:=WideShapes.okWide_slice hu hval
   split at hl
   ·split at hl
    ·cases hl
     simp [hu,Value.cells]
    ·cases hl
   ·cases hl
  ·rename_i fs hu
   unfold Value.okWide at hval
   rw [hu] at hval
   obtain ⟨cs,rfl,-⟩:=hval
   simp [hu,Value.cells]
  ·rename_i m e hu
   unfold Value.okWide at hval
   rw [hu] at hval
   obtain ⟨cs,rfl,-⟩:=hval
   simp [hu,Value.cells]
  ·cases hl
theorem Uz {k:Nat} {base:Nat} : ∀ {ts:List TypeId} {ss:List (Bool×List LT)} {vs:List Value} {ds:List (DataW H)} {ps:List MemPlace},ts.mapM (shapeOf P k)=some ss->(∀ (j:Nat) t v,ts[j]? = some t->vs[j]? = some v->Value.okWide P w .any base t v) ->
  DataW.TrodAll enc P w 0 sp held ts vs ds ps->dS ds<=bG->∃ Ao,D8 P w ss Ao vs/\(Ao.map iq).sum<=dS ds
 | [],ss,vs,ds,ps,hs,hval,h,hb=>by
  simp at hs
  subst hs
  match vs,ds,h with
  | [],[],_=>exact ⟨[],trivial,by simp [dS]⟩
  | [],_::_,h=>exact h.elim
  | _::_,_,h=>exact h.elim
 | t::ts,ss,vs,ds,ps,hs,hval,h,hb=>by
  match vs,ds,h with
  | v::vs,d::ds,h =>
   obtain ⟨p,q,h1,h2,rfl⟩:=h
   simp only [List.mapM_cons] at hs
   cases hs1:shapeOf P k t with
   | none=>rw [hs1] at hs; simp at hs
   | some s =>
    rw [hs1] at hs
    cases hs2:ts.mapM (shapeOf P k) with
    | none=>rw [hs2] at hs; simp at hs
    | some ss' =>
     rw [hs2] at hs
     simp at hs
     subst hs
     simp only [dS] at hb ⊢
     obtain ⟨x,h3,h4⟩:=aef hs1 (hval 0 t v rfl rfl) h1 (by omega)
     obtain ⟨xs,h5,h6⟩:=Uz hs2 (fun j t' v' ht hv=>hval (j+1) t' v' (by simpa using ht) (by simpa using hv)) h2 (by omega)
     exact ⟨x::xs,⟨h3,h5⟩,by simp only [List.map_cons,List.sum_cons]; omega⟩
  | [],_,h=>exact h.elim
  | _::_,[],h=>exact h.elim
theorem Hq (hl:laidOutB P=true) {W W':World} {sp':Nat->Bool} (hb:Below W.heap.size W W') : ∀ {ts:List TypeId} {vs:List Value} {ds:List (DataW H)} {ps:List MemPlace},(∀ t∈ts,P.readableRec t=true/\t<P.types.size) ->
  DataW.TrodAll enc P W 0 (fun _=>true) true ts vs ds ps->(∀ x∈ps,x.block<W.heap.size)->(∀ x∈ps,sp' x.block=true)->DataW.TrodAll enc P W' 0 sp' true ts vs ds ps
 | [],[],[],ps,_,h,_,_=>h
 | t::ts,v::vs,d::ds,ps,ht,h,hlt,hsp=>by
  obtain ⟨p,q,h1,h2,rfl⟩:=h
  obtain ⟨hr,hrow⟩:=ht t (by simp)
  exact ⟨p,q,WideElems.Trod_stays hl hr hrow h1 (fun x hx=>hb.same (hlt x (by simp [hx]))) (fun x hx=>hsp x (by simp [hx])),
   Hq hl hb (fun t ht'=>ht t (by simp [ht'])) h2 (fun x hx=>hlt x (by simp [hx])) (fun x hx=>hsp x (by simp [hx])),rfl⟩
 | [],_::_,_,_,_,h,_,_=>h.elim
 | [],[],_::_,_,_,h,_,_=>h.elim
 | _::_,[],_,_,_,h,_,_=>h.elim
 | _::_,_::_,[],_,_,h,_,_=>h.elim
end
end Go.E

namespace Go.E
open Go Go.RowKit
theorem MQ {P:Program} {w:World} {H:Type} {enc:TypeId×Value->H} {sp:Nat->Bool} {held:Bool} {base:Nat} : ∀ {ts:List TypeId} {vs:List Value} {ds:List (DataW H)} {ps:List MemPlace},DataW.TrodAll enc P w base sp held ts vs ds ps->ds.length=ts.length
 | [],[],[],_,_=>rfl
 | _::_,_::_,_::_,_,h=>by obtain ⟨p,q,h1,h2,-⟩:=h; simp [MQ h2]
 | [],_::_,_,_,h=>h.elim
 | [],[],_::_,_,h=>h.elim
 | _::_,[],_,_,h=>h.elim
 | _::_,_::_,[],_,h=>h.elim
theorem MR {H:Type} : ∀ (a b:List (DataW H)),dS (a++b)=dS a+dS b
 | [],b=>by simp [dS]
 | x::a,b=>by simp only [List.cons_append,dS,MR a b]; omega
theorem WC {P:Program} (hl:laidOutB P=true) {f:FuncId} {fn:Func} {s:ChangeSpec} {ss:List (Bool×List LT)} {k tb N:Nat} (hts:fn.params.toList.mapM (shapeOf P k)=some ss)
  (hrd : ∀ t∈fn.params.toList,P.readableRec t=true/\t<P.types.size) (hres:fn.resultTypes = #[tb]) (htb:P.underlying tb=some .bool) (hvars:s.vars=[])
  (hs : ∀ (H:Type) (ds:List (DataW H)),ds.length=fn.params.size->s.fn H ds = { results:=[.lit (.bool true)],args:=ds }) (hN:N<=bG)
  (hE : ∀ w Ao vs,D8 P w ss Ao vs->(Ao.map iq).sum<=N->∃ owns bs,Nv P f (Cc ss Ao) (.ok ⟨[.one (.sc .bool (.b true))],owns,bs⟩))
  {H:Type} {enc:TypeId×Value->H} {W:World} {base:Nat} {args:Array Value} {ds gs:List (DataW H)} {before:List MemPlace}
  (hval : ∀ (j:Nat) t v,fn.params[j]? = some t->args[j]? = some v->Value.okWide P W .any base t v) (hW:DataW.Whole enc P fn.params.toList s.vars false W args.toList ds gs before) (hk:dS (ds++gs)<=N) :
  Calls P f args W fun e W'=>∃ v,e = .returned v/\s.post enc P fn false true false false W args v W':=by
 have hlt:=hW.lt
 have hW0:=hW
 obtain ⟨p,q,h1,h2,rfl,h3,h4⟩:=hW
 rw [hvars] at h2
 have hgs:gs=[]/\q=[]:=by
  cases gs with
  | nil=>exact ⟨rfl,h2⟩
  | cons _ _=>exact h2.elim
 obtain ⟨rfl,rfl⟩:=hgs
 rw [MR] at hk
 obtain ⟨Ao,h5,h6⟩:=Uz (k:=k) (base:=base) hts (fun j t v ht hv=>hval j t v (by simpa using ht) (by simpa using hv)) h1 (by omega)
 obtain ⟨owns,bs,h7⟩:=hE W Ao _ h5 (by omega)
 refine Calls.mono (afZ h7 rfl h5) fun e W' he=>?_
 obtain ⟨rfl,hb⟩:=he
 have hfn:s.fn H (ds++[]) = { results:=[.lit (.bool true)],args:=ds }:=by
  rw [List.append_nil]
  exact hs H ds (by rw [MQ h1]; simp)
 refine ⟨_,rfl,ds,[],p++[],[],p,[],hW0,?_,?_,?_,?_,fun h=>by cases h⟩
 ·rw [hfn,hres]
  exact ⟨[],[],shut_bool htb true,rfl,rfl⟩
 ·rw [hfn]
  exact Hq hl hb hrd h1 (fun x hx=>by simpa using hlt x (by simp [hx])) (fun x hx=>by simpa using hlt x (by simp [hx]))
 ·rw [hfn,hvars]; rfl
 ·exact hb.frame _
end Go.E

namespace Go.E
open Go
def af0:LT->Value->Bool
 | .sc (.int k),.int k' n=>decide (k'=k)&&n==0
 | .sc .bool,.bool b=>!b
 | .sc .str,.string s=>s.size==0
 | .sc .any,.agg _=>false
 | .sc .any,.tuple _=>false
 | .sc .any,_=>true
 | .sl _,.slice none 0 0=>true
 | _,_=>false
def WE:List LT->List Value->Bool
 | [],[]=>true
 | l::ls,v::vs=>af0 l v&&WE ls vs
 | _,_=>false
def fieldsB (P:Program):List (Nat×TypeId)->List Field->Bool
 | [],[]=>true
 | p::ps,f::fs=>Nat.beq p.1 f.offset&&Nat.beq p.2 f.type&&(match P.info? f.type with | some i=>!(Nat.beq i.size 0) | none=>false)&&fieldsB P ps fs
 | _,_=>false
def af2 (ty:TypeId->Option TI) (P:Program) (ti:TI):TK->TypeDesc->Bool
 | .sc (.int k),.int k'=>decide (k'=k)&&LT.eH ti.aR [.sc (.int k)]
 | .sc .bool,.bool=>LT.eH ti.aR [.sc .bool]
 | .sc .str,.string=>LT.eH ti.aR [.sc .str]
 | .slice e,.slice e'=>Nat.beq e' e&&(match ty e with | some te=>LT.eH ti.aR [.sl te.aR] && !te.aR.isEmpty | none=>false)
 | .struct fs,.struct fields=>fieldsB P fs fields.toList
 | .array n e,.array n' e'=>Nat.beq n' n&&Nat.beq e' e
 | .ptr e,.pointer e'=>Nat.beq e' e&&LT.eH ti.aR [.sc .any]
 | .other,.struct _=>false
 | .other,.array _ _=>false
 | .other,_=>LT.eH ti.aR [.sc .any]
 | _,_=>false
def aj2 (P:Program) (t:TypeId):LT->Bool
 | .sc (.int k)=>(match P.underlying t with | some (.int k')=>decide (k'=k) | _=>false)
 | .sc .bool=>(match P.underlying t with | some .bool=>true | _=>false)
 | .sc .str=>(match P.underlying t with | some .string=>true | _=>false)
 | _=>false
def OI (P:Program):Nat->List Field->List LT->Bool
 | _,[],[]=>true
 | j,f::fs,lt::aR=>!(f.name == "_")&&Nat.beq f.offset j&&aj2 P f.type lt&&OI P (j+1) fs aR
 | _,_,_=>false
def af3 (P:Program) (t:TypeId) (aR:List LT):Bool :=
 match P.underlying t with
 | some (.struct fields)=>!(P.stoodInHeld t) && !(P.eqGuardType P.depth t)&&OI P 0 fields.toList aR
 | _=>false
def tyB (ty:TypeId->Option TI) (P:Program) (t:TypeId) (ti:TI):Bool :=
 (match P.underlying t with | some d=>af2 ty P ti ti.kind d | none=>false)&&(!ti.flat||af3 P t ti.aR) &&
 (match P.info? t with
  | some i=>Nat.beq i.size ti.aR.length&&Nat.beq ti.bytes i.bytes&&Nat.ble ti.aR.length i.bytes&&Nat.ble i.bytes (24 * ti.aR.length)&&(match i.zero with | some z=>WE ti.aR z.cells.toList | none=>false)
  | none=>false)
section
variable {Γ:Ctx} {P:Program}
theorem af4 {lt:LT} {v:Value} (h:af0 lt v=true):zeroV lt v:=by
 unfold af0 at h
 split at h
 ·simp only [Bool.and_eq_true,decide_eq_true_eq,beq_iff_eq] at h
  obtain ⟨rfl,rfl⟩:=h
  rfl
 ·simp only [Bool.not_eq_true'] at h
  subst h; rfl
 ·rename_i s
  simp only [beq_iff_eq] at h
  have:s = .empty:=by
   cases s with
   | mk data =>
    have:data.size=0:=h
    have:data = #[]:=Array.size_eq_zero_iff.1 this
    subst this; rfl
  subst this; rfl
 ·cases h
 ·cases h
 ·rename_i h1 h2
  exact ⟨fun cs e=>h1 cs e,fun cs e=>h2 cs e⟩
 ·rfl
 ·cases h
theorem UA : ∀ {ls:List LT} {vs:List Value},WE ls vs=true->Fq ls vs
 | [],[],_=>trivial
 | _::_,_::_,h=>by
  simp only [WE,Bool.and_eq_true] at h
  exact ⟨af4 h.1,UA h.2⟩
 | [],_::_,h=>by cases h
 | _::_,[],h=>by cases h
theorem Qe : ∀ {ps:List (Nat×TypeId)} {fs:List Field},fieldsB P ps fs=true->ps=fs.map (fun f=>(f.offset,f.type)) /\ ∀ f∈fs,∃ i,P.info? f.type=some i/\i.size≠0
 | [],[],_=>⟨rfl,fun _ h=>(nomatch h)⟩
 | (a,b)::ps,f::fs,h=>by
  simp only [fieldsB,Bool.and_eq_true] at h
  obtain ⟨⟨⟨h1,h2⟩,h3⟩,h4⟩:=h
  obtain ⟨h5,h6⟩:=Qe h4
  refine ⟨by rw [h5,List.map_cons,Nat.eq_of_beq_eq_true h1,Nat.eq_of_beq_eq_true h2],fun x hx=>?_⟩
  rcases List.mem_cons.1 hx with rfl | hx
  ·cases hi:P.info? x.type with
   | none=>rw [hi] at h3; cases h3
   | some i =>
    rw [hi] at h3
    refine ⟨i,rfl,fun e=>?_⟩
    simp [e] at h3
  ·exact h6 x hx
 | [],_::_,h=>by cases h
 | _::_,[],h=>by cases h
theorem af5 {ti:TI} {k:TK} {d:TypeDesc} (h:af2 Γ.ty P ti k d=true):afw Γ P ti k d:=by
 unfold af2 at h
 split at h
 ·simp only [Bool.and_eq_true,decide_eq_true_eq] at h
  obtain ⟨rfl,h⟩:=h
  exact ⟨rfl,LT.bP h⟩
 ·exact ⟨rfl,LT.bP h⟩
 ·exact ⟨rfl,LT.bP h⟩
 ·simp only [Bool.and_eq_true] at h
  obtain ⟨h1,h2⟩:=h
  rename_i e e'
  cases ht:Γ.ty e with
  | none=>rw [ht] at h2; cases h2
  | some te =>
   rw [ht] at h2
   simp only [Bool.and_eq_true,Bool.not_eq_true',List.isEmpty_eq_false_iff] at h2
   exact ⟨by rw [Nat.eq_of_beq_eq_true h1],te,ht,LT.bP h2.1,h2.2⟩
 ·rename_i fs fields
  obtain ⟨h1,h2⟩:=Qe h
  exact ⟨fields,rfl,h1,h2⟩
 ·simp only [Bool.and_eq_true] at h
  show TypeDesc.array _ _=TypeDesc.array _ _
  rw [Nat.eq_of_beq_eq_true h.1,Nat.eq_of_beq_eq_true h.2]
 ·simp only [Bool.and_eq_true] at h
  exact ⟨by rw [Nat.eq_of_beq_eq_true h.1],LT.bP h.2⟩
 ·cases h
 ·cases h
 ·rename_i h1 h2
  exact ⟨fun fs e=>h1 fs e,fun n e e'=>h2 n e e',LT.bP h⟩
 ·cases h
theorem Qf : ∀ {fs:List Field} {aR:List LT} {j:Nat},OI P j fs aR=true->V5 P j fs aR
 | [],[],_,_=>trivial
 | f::fs,lt::aR,j,h=>by
  simp only [OI,Bool.and_eq_true,Bool.not_eq_true',beq_eq_false_iff_ne] at h
  obtain ⟨⟨⟨h1,h2⟩,h3⟩,h4⟩:=h
  refine ⟨h1,Nat.eq_of_beq_eq_true h2,?_,Qf h4⟩
  unfold aj2 at h3
  split at h3
  ·split at h3
   ·rename_i hu
    simp only [decide_eq_true_eq] at h3
    subst h3
    exact hu
   ·cases h3
  ·split at h3
   ·rename_i hu; exact hu
   ·cases h3
  ·split at h3
   ·rename_i hu; exact hu
   ·cases h3
  ·cases h3
 | [],_::_,_,h=>by cases h
 | _::_,[],_,h=>by cases h
theorem af6 {t:TypeId} {aR:List LT} (h:af3 P t aR=true):aaK P t aR:=by
 unfold af3 at h
 split at h
 ·rename_i fields hu
  simp only [Bool.and_eq_true,Bool.not_eq_true'] at h
  exact ⟨fields,hu,h.1.1,h.1.2,Qf h.2⟩
 ·cases h
theorem alP {t:TypeId} {ti:TI} (h:tyB Γ.ty P t ti=true):vQ Γ P t ti:=by
 simp only [tyB,Bool.and_eq_true,Bool.or_eq_true,Bool.not_eq_true'] at h
 obtain ⟨⟨h1,h2⟩,h3⟩:=h
 refine ⟨?_,fun hf=>?_,?_⟩
 ·cases hu:P.underlying t with
  | none=>rw [hu] at h1; cases h1
  | some d=>rw [hu] at h1; exact ⟨d,rfl,af5 h1⟩
 ·rcases h2 with h2 | h2
  ·rw [hf] at h2; cases h2
  ·exact af6 h2
 ·cases hi:P.info? t with
  | none=>rw [hi] at h3; cases h3
  | some i =>
   rw [hi] at h3
   simp only [Bool.and_eq_true] at h3
   obtain ⟨⟨⟨⟨h4,h5⟩,h6⟩,h7⟩,h8⟩:=h3
   refine ⟨i,rfl,Nat.eq_of_beq_eq_true h4,Nat.eq_of_beq_eq_true h5,Nat.le_of_ble_eq_true h6,Nat.le_of_ble_eq_true h7,?_⟩
   cases hz:i.zero with
   | none=>rw [hz] at h8; cases h8
   | some z=>rw [hz] at h8; exact ⟨z,rfl,UA h8⟩
def aa8 (ty:TypeId->Option TI) (P:Program):Nat->List (Option TI)->Bool
 | _,[]=>true
 | i,some t::ts=>tyB ty P i t&&aa8 ty P (i+1) ts
 | i,none::ts=>aa8 ty P (i+1) ts
theorem WG : ∀ {l:List (Option TI)} {i:Nat},aa8 Γ.ty P i l=true->∀ j ti,l[j]? = some (some ti)->vQ Γ P (i+j) ti
 | [],_,_,j,ti,hj=>by simp at hj
 | some t::ts,i,h,0,ti,hj=>by
  simp only [aa8,Bool.and_eq_true] at h
  simp only [List.getElem?_cons_zero,Option.some.injEq] at hj
  subst hj
  exact alP h.1
 | none::ts,i,h,0,ti,hj=>by simp at hj
 | some t::ts,i,h,j+1,ti,hj=>by
  simp only [aa8,Bool.and_eq_true] at h
  have:=WG h.2 j ti (by simpa using hj)
  rwa [show i+1+j=i+(j+1) from by omega] at this
 | none::ts,i,h,j+1,ti,hj=>by
  simp only [aa8] at h
  have:=WG h j ti (by simpa using hj)
  rwa [show i+1+j=i+(j+1) from by omega] at this
end
end Go.E
namespace Go.E
open Go
def UC (f:Nat):List (Nat×Func)->Option Func
 | []=>none
 | (i,x)::r=>cond (Nat.beq f i) (some x) (UC f r)
def acG (P:Program):List (Nat×Func)->Prop
 | []=>True
 | (i,x)::r=>(P.funcs[i]? = some x/\x.body.isNone=false/\(x.name == "runtime.NumGoroutine")=false)/\acG P r
theorem Qg {P:Program} {f:Nat} {fn:Func} : ∀ {l:List (Nat×Func)},acG P l->UC f l=some fn->P.funcs[f]? = some fn/\fn.body.isNone=false/\(fn.name == "runtime.NumGoroutine")=false
 | [],_,h=>by cases h
 | (i,x)::r,hf,h=>by
  simp only [UC] at h
  cases hb:Nat.beq f i with
  | true =>
   rw [hb] at h
   have:=Nat.eq_of_beq_eq_true hb
   subst this
   cases h
   exact hf.1
  | false =>
   rw [hb] at h
   exact Qg hf.2 h
def Qh (tab:List (Option TI)) (t:TypeId):Option TI:=match tab[t]? with | some (some ti)=>some ti | _=>none
theorem alQ {P:Program} {Γ:Ctx} {tab:List (Option TI)} {fns:List (Nat×Func)} (hty:Γ.ty=Qh tab) (hfn:Γ.fn=fun f=>UC f fns) (h1:aa8 (Qh tab) P 0 tab=true) (h2:acG P fns) (h3:P.follows .mixedOrders=true) :
  fE Γ P:=by
 refine ⟨fun t ti ht=>?_,fun f fn hf=>(Qg h2 (by rw [<-hf,hfn])).1,fun f fn hf=>(Qg h2 (by rw [<-hf,hfn])).2,h3⟩
 have ht':Qh tab t=some ti:=by rw [<-ht,hty]
 have:tab[t]? = some (some ti):=by
  unfold Qh at ht'
  split at ht'
  ·rename_i x hx
   cases ht'
   exact hx
  ·cases ht'
 have:=WG (Γ:=Γ) (by rw [hty]; exact h1) t ti this
 simpa using this
end Go.E

namespace Go.E
open Go Go.RowKit Go.Proofs
theorem A8 {w w':World} (h:Below w.heap.size w w') (A:aB):Keeps A w w' :=
 ⟨h.size,fun b x hx=>⟨x,by
  have hlt:=(Array.getElem?_eq_some_iff.1 hx).1
  rw [h.block b hlt]; exact hx,qc.refl _ _ _⟩,h.os,h.output,h.tape⟩
theorem aeg {g0:Gh} {I A:aB} {args:List Arg} {w w':World} {vs:Array Value} {rl:RL} {v:Value} {owns:List (List (Option (List LT×List M×List (List T))))} (hp:Pre g0 I A args w vs) (hb:Below w.heap.size w w')
  (hs:Single v) (hv : ∀ g',RlR g0 g' w' I rl v) (hk:je rl=[]) (ho : ∀ i j,lI ⟨[.one rl],owns,[]⟩ i j=none):JL g0 I A args w ⟨[.one rl],owns,[]⟩ g0 I w' v:=by
 have hks:iA ⟨[.one rl],owns,[]⟩=[]:=by simp [iA,MJ,hk]
 have hk0 : ∀ {k:Key} {p:Prop},k∈iA ⟨[.one rl],owns,[]⟩->p:=fun h=>by rw [hks] at h; cases h
 have hx : ∀ {i:Nat} {ls:List RL} {p:Prop},xO ⟨[.one rl],owns,[]⟩ i=some ls->p:=fun h=>by simp [xO] at h
 have hno : ∀ {k:Key} {p:Prop},Out ⟨[.one rl],owns,[]⟩ k->p:=fun h=>by
  rcases h with h | ⟨i,j,⟨x,h⟩ | ⟨-,ls,h⟩,-⟩
  ·exact hk0 h
  ·rw [ho] at h; cases h
  ·exact hx h
 refine ⟨⟨[v],rfl,⟨hs,hv g0⟩,trivial⟩,fun i j es ms rows h=>?_,fun i ls h=>hx h,by rw [hks]; exact List.nodup_nil,fun k h=>hk0 h,fun k k' h=>hno h,fun k h=>hno h,fun k h=>hno h,fun _ _ h=>h,fun _ _ h _=>h,fun b o hi=>?_,A8 hb _⟩
 ·rw [ho] at h; cases h
 ·obtain ⟨v,hv⟩:=hp.zu b o hi
  exact ⟨v,((A8 hb (fun _ _=>True)).cell trivial ⟨v,hv⟩).trans hv⟩
end Go.E

namespace Go.E
open Go Go.Sort
def lg (x:Int):List T:=[.i x]
theorem Yp {w:World} {I:aB} {ms:List M} : ∀ {rows:List (List T)} {cs:List Value} {bs:List Nat},aN (fun vs ds bs=>au w I [.sc (.int .i64)] ms vs ds bs) 1 rows cs bs ->
  bs=[] /\ ∃ xs:List Int,rows=xs.map lg/\(∀ x∈xs,IntKind.i64.min<=x/\x<=IntKind.i64.max) /\ ∀ (j:Nat) x,xs[j]? = some x->cs[j]? = some (.int .i64 x)
 | [],cs,bs,h=>⟨h,[],rfl,fun x h=>(nomatch h),fun j x h=>by simp at h⟩
 | r::rows,cs,bs,h=>by
  obtain ⟨b1,b2,rfl,h1,h2⟩:=h
  unfold au at h1
  obtain ⟨v,vs',d,ds',b3,b4,hc,rfl,rfl,h3,h4⟩:=h1
  unfold au at h4
  obtain ⟨rfl,rfl,rfl⟩:=h4
  unfold bU at h3
  obtain ⟨⟨x,rfl,rfl,hx⟩,rfl⟩:=h3
  obtain ⟨rfl,xs,rfl,h5,h6⟩:=Yp h2
  refine ⟨rfl,x::xs,rfl,fun y hy=>?_,fun j y hy=>?_⟩
  ·rcases List.mem_cons.1 hy with rfl | hy
   ·exact hx
   ·exact h5 y hy
  ·cases j with
   | zero =>
    cases hy
    cases cs with
    | nil=>simp at hc
    | cons c cs=>simp at hc; simp [hc]
   | succ j =>
    have:=h6 j y (by simpa using hy)
    rw [List.getElem?_drop] at this
    rw [show j+1=1+j from by omega]; exact this
theorem Qi {w:World} {I:aB} {ms:List M} : ∀ {xs:List Int} {cs:List Value},(∀ x∈xs,IntKind.i64.min<=x/\x<=IntKind.i64.max)->(∀ (j:Nat) x,xs[j]? = some x->cs[j]? = some (.int .i64 x)) ->
  aN (fun vs ds bs=>au w I [.sc (.int .i64)] ms vs ds bs) 1 (xs.map lg) cs []
 | [],cs,_,_=>rfl
 | x::xs,cs,hw,hc=>by
  refine ⟨[],[],rfl,?_,Qi (fun y hy=>hw y (List.mem_cons_of_mem _ hy)) fun j y hy=>?_⟩
  ·have h0:=hc 0 x rfl
   cases cs with
   | nil=>simp at h0
   | cons c cs =>
    simp at h0
    subst h0
    unfold au
    refine ⟨.int .i64 x,[],.i x,[],[],[],by simp,rfl,rfl,?_,?_⟩
    ·unfold bU; exact ⟨⟨x,rfl,rfl,hw x (by simp)⟩,rfl⟩
    ·unfold au; exact ⟨rfl,rfl,rfl⟩
  ·rw [List.getElem?_drop,show 1+j=j+1 from by omega]
   exact hc (j+1) y (by simpa using hy)
theorem heap_put {α:Type} [Inhabited α] (enc:α->Value) {w:World} {b:Nat} {c:Array Value} {el:TypeId} {fz:Nat×Nat} (hB:Block w b c el fz) (d:Array α) (n:Nat) (os:Array Obj) (i:Nat) (x:Obj) (hx:w.heap[i]? = some x) :
  (grow (putRow enc (Sort.ahead w n) b 0 d) os).heap[i]? = some (if i=b then .cells (putCells enc 0 d c) el fz else x):=by
 have hlt:=(Array.getElem?_eq_some_iff.1 hx).1
 have hlt':i<(putRow enc (Sort.ahead w n) b 0 d).heap.size:=by simpa [Sort.ahead] using hlt
 show ((putRow enc (Sort.ahead w n) b 0 d).heap++os)[i]? = _
 rw [Array.getElem?_append_left hlt']
 show ((w.heap.modify b (onCells (putCells enc 0 d))))[i]? = _
 rw [Array.getElem?_modify]
 by_cases h:i=b
 ·subst h
  unfold Block at hB
  rw [if_pos rfl,if_pos rfl,hB]; rfl
 ·rw [if_neg (fun e=>h e.symm),if_neg h,hx]
theorem UD {α:Type} [Inhabited α] (enc:α->Value) {w:World} {b:Nat} {c:Array Value} {el:TypeId} {fz:Nat×Nat} (hB:Block w b c el fz) (d:Array α) (n:Nat) (os:Array Obj) :
  Block (grow (putRow enc (Sort.ahead w n) b 0 d) os) b (putCells enc 0 d c) el fz/\Keeps (fun b' o=>¬ (b'=b/\o<d.size)) w (grow (putRow enc (Sort.ahead w n) b 0 d) os):=by
 refine ⟨?_,⟨?_,fun i x hx=>⟨_,heap_put enc hB d n os i x hx,?_⟩,rfl,rfl,rfl⟩⟩
 ·have:=heap_put enc hB d n os b _ hB
  rwa [if_pos rfl] at this
 ·show w.heap.size<=((putRow enc (Sort.ahead w n) b 0 d).heap++os).size
  simp [Sort.ahead]
 ·by_cases h:i=b
  ·subst h
   unfold Block at hB
   rw [hB] at hx
   cases hx
   rw [if_pos rfl]
   refine ⟨_,rfl,by simp [putCells],fun o ho=>?_⟩
   have ho : ¬ o<d.size:=fun e=>ho ⟨rfl,e⟩
   unfold putCells
   rw [Array.getElem?_mapIdx]
   cases hc:c[o]? with
   | none=>rfl
   | some v=>simp [ho]
  ·rw [if_neg h]; exact qc.refl _ _ _
theorem WH {d:Array Int} {c:Array Value} {j:Nat} {x:Int} (h:d[j]? = some x) (hc:d.size<=c.size):(putCells (Value.int .i64) 0 d c)[j]? = some (.int .i64 x):=by
 obtain ⟨hlt,he⟩:=Array.getElem?_eq_some_iff.1 h
 unfold putCells
 rw [Array.getElem?_mapIdx,Array.getElem?_eq_getElem (by omega)]
 simp only [Option.map_some,Nat.zero_le,Nat.zero_add,hlt,and_self,if_true,Nat.sub_zero]
 rw [getElem!_pos d j hlt,he]
theorem acH {w':World} {I F:aB} {ms:List M} {b cap:Nat} {c:Array Value} {el:TypeId} {fz:Nat×Nat} {d:Array Int} (hB:Block w' b (putCells (Value.int .i64) 0 d c) el fz) (hsz:c.size=cap) (hd:d.size<=c.size)
  (hfz : ∀ o,o<=c.size->¬ (fz.1<=o/\o<fz.2)) (hF : ∀ b' o,F b' o ↔ b'=b/\o<c.size) {ys:List Int} (hy : ∀ (j:Nat) x,ys[j]? = some x->d[j]? = some x) (hw : ∀ x∈ys,IntKind.i64.min<=x/\x<=IntKind.i64.max)
  (hcap:ys.length<=cap) (hmax:ys.length<=bG):aV w' I [.sc (.int .i64)] ms (ys.map lg) (.slice (some ⟨b,0,none⟩) ys.length cap) F:=by
 have hps:(putCells (Value.int .i64) 0 d c).size=c.size:=by simp [putCells]
 have:=aV.mk' (w:=w') (I:=I) (F:=F) (es:=[.sc (.int .i64)]) (ms:=ms) (rows:=ys.map lg) (cap:=cap) (bs:=[]) (by simp) (by simpa using hmax) (by simpa using hcap) hB (by rw [hps,hsz]; simp) (by rw [hps]; exact hfz)
  (Qi hw fun j x hx=>by
   have:=WH (c:=c) (hy j x hx) hd
   rw [Array.getElem?_toList]; exact this) ⟨fun h=>(nomatch h),trivial⟩ (fun b' o=>by rw [hps,hF]; exact ⟨.inl,fun h=>h.elim id fun h=>(nomatch h.1)⟩)
 rwa [List.length_map] at this
theorem Yq {w:World} {I F:aB} {ms:List M} {rows:List (List T)} {h:Value} (hr:aV w I [.sc (.int .i64)] ms rows h F) :
  ((∃ a,h = .slice a 0 0)/\rows=[] /\ ∀ b o,¬ F b o) \/
  ∃ b cap c el fz xs,h = .slice (some ⟨b,0,none⟩) xs.length cap/\rows=List.map lg xs/\(∀ x∈xs,IntKind.i64.min<=x/\x<=IntKind.i64.max)/\xs.length<=cap/\xs.length<=bG/\Block w b c el fz/\c.size=cap /\
   (∀ o,o<=c.size->¬ (fz.1<=o/\o<fz.2))/\(∀ b' o,F b' o ↔ b'=b/\o<c.size)/\Holds (Value.int .i64) w b 0 xs.toArray:=by
 obtain ⟨-,hmax,h1 | ⟨b,cap,c,el,fz,bs,e1,hcap,hB,hsz,hfz,hrows,hn,hF⟩⟩:=hr.cases
 ·exact .inl h1
 ·obtain ⟨rfl,xs,rfl,hxs,hcell⟩:=Yp hrows
  simp only [List.length_map] at hmax hcap e1
  simp only [List.length_cons,List.length_nil,Nat.zero_add,Nat.mul_one] at hsz
  refine .inr ⟨b,cap,c,el,fz,xs,e1,rfl,hxs,hcap,hmax,hB,hsz,hfz,fun b' o=>(hF b' o).trans ⟨fun h=>h.elim id fun h=>(nomatch h.1),.inl⟩,fun j hj=>?_⟩
  have hj':j<xs.length:=by simpa using hj
  refine ⟨?_,?_⟩
  ·have:=hcell j _ (List.getElem?_eq_getElem hj')
   rw [Array.getElem?_toList] at this
   have hb:cellAt w b (0+j)=some (.int .i64 xs[j]):=by rw [mH hB,Nat.zero_add]; exact this
   show w.cell? ⟨b,0+j,none⟩=_
   unfold cellAt at hb
   rw [hb]; simp [hj']
  ·have:=hfz (0+j) (by omega)
   unfold Block at hB
   simp only [World.frozen?,hB]
   cases hd:(decide (fz.1<=0+j)&&decide (0+j<fz.2)) with
   | false=>rfl
   | true =>
    simp only [Bool.and_eq_true,decide_eq_true_eq] at hd
    exact absurd hd this
end Go.E

namespace Go.E
open Go Go.Sort Go.Shelf Go.Proofs
def zC (rows:List (List T)):List (List T):=((rows.map fun r=>(r.getD 0 dflt).int).mergeSort fun x y=>decide (x<=y)).map lg
def FK:List Arg->R3 fV
 | [.one (.own [.sc (.int .i64)] ms rows)]=>.ok ⟨[],[[some ([.sc (.int .i64)],ms,zC rows)]],[]⟩
 | _=>.bad
theorem IB (xs:List Int):zC (xs.map lg)=(xs.mergeSort fun x y=>decide (x<=y)).map lg:=by
 unfold zC
 congr 2
 rw [List.map_map]
 simp [Function.comp_def,lg,T.int]
section
variable {g0:Gh} {I A:aB} {w w':World} {vs:Array Value} {es:List LT} {ms ms':List M} {rows rows':List (List T)}
theorem J6 {k:Key} {x} (h:Out ⟨[],[[some x]],[]⟩ k):k=[0,0]:=by
 rcases h with h | ⟨i,j,⟨y,h⟩ | ⟨-,ls,h⟩,rfl⟩
 ·simp [iA] at h
 ·match i,j with
  | 0,0=>rfl
  | 0,j+1=>simp [lI] at h
  | i+1,j=>simp [lI] at h
 ·simp [xO] at h
theorem Yr (hp:Pre g0 I A [.one (.own es ms rows)] w vs)
  (hk:Keeps (fun b o=>¬ g0.F [0,0] b o) w w') (hrow:aV w' I es ms' rows' (g0.h [0,0]) (g0.F [0,0])) :
  JL g0 I A [.one (.own es ms rows)] w ⟨[],[[some (es,ms',rows')]],[]⟩ g0 I w' (.tuple #[]):=by
 have AX:Held [.one (.own es ms rows)] [0,0]:=trivial
 have hk0 : ∀ {k:Key} {p:Prop},k∈iA ⟨[],[[some (es,ms',rows')]],[]⟩->p:=fun h=>by simp [iA] at h
 have hk1:Keeps (fun b o=>I b o\/A b o) w w':=hk.weaken fun b o h hf=>h.elim (hp.jP _ AX b o hf) (hp.wW _ AX b o hf)
 refine ⟨⟨[],rfl,trivial⟩,fun i j es1 ms1 J7 h=>?_,fun i ls h=>by simp [xO] at h,by simp [iA],fun k h=>hk0 h,fun k k' h h' hne=>absurd ((J6 h).trans (J6 h').symm) hne,fun k h=>by rw [J6 h]; exact hp.jP _ AX,fun k h=>by rw [J6 h]; exact hp.wW _ AX,
  fun _ _ h=>h,fun _ _ h _=>h,fun b o hi=>?_,hk1⟩
 ·match i,j with
  | 0,0 =>
   simp only [lI,List.getD_cons_zero,Option.some.injEq,Prod.mk.injEq] at h
   obtain ⟨rfl,rfl,rfl⟩:=h
   exact hrow
  | 0,j+1=>simp [lI] at h
  | i+1,j=>simp [lI] at h
 ·obtain ⟨v,hv⟩:=hp.zu b o hi
  exact ⟨v,(hk1.cell (.inl hi) ⟨v,hv⟩).trans hv⟩
theorem acI (hp:Pre g0 I A [.one (.own es ms rows)] w vs) : ∃ v,vs = #[v]/\v=g0.h [0,0]/\aV w I es ms rows v (g0.F [0,0]):=by
 have hrel:=hp.rel
 match hl:vs.toList,hrel with
 | [v],hrel=>exact ⟨v,Array.toList_inj.1 (by simpa using hl),hrel.1⟩
 | [],hrel=>exact hrel.elim
 | _::_::_,hrel=>exact hrel.2.elim
end
theorem Yt {P:Program} {ρ:Shelf.Ren} (L:Lays.n189 P ρ) {args:List Arg} (h:FK args ≠ .bad):Nv P (ρ.f 189) args (FK args):=by
 unfold FK at h ⊢
 split at h
 ·rename_i ms rows
  intro g0 I A w vs hp
  obtain ⟨v,rfl,hv,hrow⟩:=acI hp
  rcases Yq hrow with ⟨⟨aa,e1⟩,rfl,hF⟩ | ⟨b,cap,c,el,fz,xs,e1,rfl,hxs,hcap,hmax,hB,hsz,hfz,hF,hH⟩
  ·have aoB:=hrow
   subst e1
   refine (calls_of_every_depth fun D=>AnyS.slices_Sort_int_none_in L D aa 0 w).mono fun e w' ⟨he,hw⟩=>?_
   subst he hw
   refine ⟨_,g0,I,rfl,Yr hp (Keeps.refl _ _) ?_⟩
   rw [<-hv,show zC []=[] from by simp [zC]]; exact aoB
  ·subst e1
   have hbs:b<w.heap.size:=(Array.getElem?_eq_some_iff.1 hB).1
   refine (Any.slices_Sort_int L b 0 cap xs w hH hbs (by unfold bG at hmax; omega)).mono fun e w' ⟨he,n,os,hw⟩=>?_
   subst he hw
   have hperm:=List.mergeSort_perm xs fun x y=>decide (x<=y)
   have hlen:=hperm.length_eq
   obtain ⟨hB',hk⟩:=UD (Value.int .i64) hB (xs.mergeSort fun x y=>decide (x<=y)).toArray n os
   refine ⟨_,g0,I,rfl,Yr hp (hk.weaken fun b' o hnf hh=>hnf ((hF b' o).2 ⟨hh.1,?_⟩)) ?_⟩
   ·have:=hh.2
    simp only [List.size_toArray] at this
    omega
   ·rw [<-hv,IB,<-hlen]
    refine acH hB' hsz (by simp only [List.size_toArray]; omega) hfz hF (fun j x hx=>by simpa using hx) (fun x hx=>hxs x (hperm.mem_iff.1 hx)) (by omega) (by omega)
 ·exact absurd rfl h
end Go.E

namespace Go.E
open Go Go.Sort Go.Shelf Go.Proofs
theorem Yu {zs:List Int} {x:Int} (h:x∈Lib.compact zs):x∈zs:=by
 unfold Lib.compact Lib.compactUpTo at h
 obtain ⟨j,hj,rfl⟩:=List.mem_map.1 h
 have hj':j<zs.length:=List.mem_range.1 (List.mem_filter.1 hj).1
 rw [getElem!_pos zs.toArray j (by simpa using hj')]
 simp
theorem Yv (zs:List Int):(Lib.compact zs).length<=zs.length:=by
 unfold Lib.compact Lib.compactUpTo
 rw [List.length_map]
 exact Nat.le_trans (List.length_filter_le _ _) (by simp)
theorem af7 (X:World):grow X #[]=X:=by
 unfold grow
 rw [Array.append_empty]
def qC (rows:List (List T)):List (List T):=(Lib.compact (rows.map fun r=>(r.getD 0 dflt).int)).map lg
theorem Hr (xs:List Int):qC (xs.map lg)=(Lib.compact xs).map lg:=by
 unfold qC
 rw [List.map_map]
 simp [Function.comp_def,lg,T.int]
def xq:List Arg->R3 fV
 | [.one (.own [.sc (.int .i64)] ms rows)]=>.ok ⟨[.one (.own [7000000] [.sc (.int .i64)] ms (qC rows))],[[none]],[]⟩
 | _=>.bad
section
variable {g0:Gh} {I A:aB} {w w':World} {vs:Array Value} {es:List LT} {ms ms':List M} {rows rows':List (List T)}
theorem uL {k:Key} {x1 x2 x3} (h:Out ⟨[.one (.own [7000000] x1 x2 x3)],[[none]],[]⟩ k):k=[7000000]:=by
 rcases h with h | ⟨i,j,⟨y,h⟩ | ⟨-,ls,h⟩,rfl⟩
 ·simpa [iA,eD] using h
 ·match i,j with
  | 0,0=>simp [lI] at h
  | 0,j+1=>simp [lI] at h
  | i+1,j=>simp [lI] at h
 ·simp [xO] at h
theorem Yw {h:Value} (hp:Pre g0 I A [.one (.own es ms rows)] w vs)
  (hk:Keeps (fun b o=>¬ g0.F [0,0] b o) w w') (hrow:aV w' I es ms' rows' h (g0.F [0,0])) (hs:Single h) :
  JL g0 I A [.one (.own es ms rows)] w ⟨[.one (.own [7000000] es ms' rows')],[[none]],[]⟩ (g0.set [7000000] h (g0.F [0,0])) I w' h:=by
 have AX:Held [.one (.own es ms rows)] [0,0]:=trivial
 have hno : ∀ {i j:Nat} {x:List LT×List M×List (List T)},lI ⟨[.one (.own [7000000] es ms' rows')],[[none]],[]⟩ i j≠some x:=by
  intro i j x
  match i,j with
  | 0,0=>simp [lI]
  | 0,j+1=>simp [lI]
  | i+1,j=>simp [lI]
 have hk1:Keeps (fun b o=>I b o\/A b o) w w':=hk.weaken fun b o h hf=>h.elim (hp.jP _ AX b o hf) (hp.wW _ AX b o hf)
 refine ⟨⟨[h],rfl,⟨hs,?_⟩,trivial⟩,fun i j es1 ms1 J7 h=>absurd h hno,fun i ls h=>by simp [xO] at h,by simp [iA,eD],fun k hk i j hij=>?_,fun k k' h h' hne=>absurd ((uL h).trans (uL h').symm) hne,fun k h=>?_,fun k h=>?_,fun _ _ h=>h,fun _ _ h _=>h,fun b o hi=>?_,hk1⟩
 ·exact ⟨by rw [Gh.oz],by rw [Gh.jR]; exact hrow⟩
 ·rcases hij with ⟨y,h⟩ | ⟨-,ls,h⟩
  ·exact absurd h hno
  ·simp [xO] at h
 ·rw [uL h,Gh.jR]; exact hp.jP _ AX
 ·rw [uL h,Gh.jR]; exact hp.wW _ AX
 ·obtain ⟨v,hv⟩:=hp.zu b o hi
  exact ⟨v,(hk1.cell (.inl hi) ⟨v,hv⟩).trans hv⟩
end
theorem Qj {P:Program} {ρ:Shelf.Ren} (L:Lays2.n20 P ρ) {args:List Arg} (h:xq args ≠ .bad):Nv P (ρ.f 20) args (xq args):=by
 unfold xq at h ⊢
 split at h
 ·rename_i ms rows
  intro g0 I A w vs hp
  obtain ⟨v,rfl,hv,hrow⟩:=acI hp
  rcases Yq hrow with ⟨⟨aa,e1⟩,rfl,hF⟩ | ⟨b,cap,c,el,fz,xs,e1,rfl,hxs,hcap,hmax,hB,hsz,hfz,hF,hH⟩
  ·subst e1
   refine (Any.slices_Compact_int_empty L aa 0 w).mono fun e w' ⟨he,hw⟩=>?_
   subst he hw
   refine ⟨_,_,I,rfl,Yw hp (Keeps.refl _ _) ?_ ⟨fun _ h=>(nomatch h),fun _ h=>(nomatch h)⟩⟩
   rw [show qC []=[] from by simp [qC,Lib.compact,Lib.compactUpTo]]; exact hrow
  ·subst e1
   refine (Any.slices_Compact_int L b 0 cap xs w hH (by unfold bG at hmax; omega) hcap).mono fun e w' ⟨he,n,hw⟩=>?_
   have hcl:=Yv xs
   obtain ⟨hB',hk⟩:=UD (Value.int .i64) hB (Lib.compact xs++List.replicate (xs.length-(Lib.compact xs).length) 0).toArray n #[]
   have hw':grow (putRow (Value.int .i64) (Sort.ahead w n) b 0 (Lib.compact xs++List.replicate (xs.length-(Lib.compact xs).length) 0).toArray) #[]=w':=by
    rw [hw]; exact af7 _
   rw [hw'] at hB' hk
   subst he
   refine ⟨_,_,I,rfl,Yw hp (hk.weaken fun b' o hnf hh=>hnf ((hF b' o).2 ⟨hh.1,?_⟩)) ?_ ⟨fun _ h=>(nomatch h),fun _ h=>(nomatch h)⟩⟩
   ·have:=hh.2
    simp only [List.size_toArray,List.length_append,List.length_replicate] at this
    omega
   ·rw [Hr]
    refine acH hB' hsz (by simp only [List.size_toArray,List.length_append,List.length_replicate]; omega) hfz hF (fun j x hx=>?_) (fun x hx=>hxs x (Yu hx)) (by omega) (by omega)
    rw [List.getElem?_toArray,List.getElem?_append_left (List.getElem?_eq_some_iff.1 hx).1]
    exact hx
 ·exact absurd rfl h
end Go.E

namespace Go.Proofs
open Go Go.Shelf Go.RowKit Go.Lib
variable {P:Program} {ρ:Ren}
set_option maxHeartbeats 2000000 in
set_option maxRecDepth 100000 in
theorem Qk (L:SlLaysE0.n41 P ρ) (i0:TypeInfo) (z:Value) (size bytes:Nat) (hi:P.info? (ρ.t 23)=some i0) (hz0:i0.zero=some z) (hz1:i0.size=size) (hz2:i0.bytes=bytes) (hzs:z.cells.size=size) (hsz:0<size)
  (z23 : ∀ w,(Go.sizeOf (ρ.t 23)).run P w = .ok size w) (ad:Addr) (c:Nat) (w:World) :
  Calls P (ρ.f 41) #[.slice (some ad) 0 c] w fun e w'=>∃ v',e = .returned v'/\w'.ownsRow w.heap.size (ρ.t 23) size v' 0 []/\Below w.heap.size w w':=by
 have mixed:=L.mixed; have t4:=L.t4; have a4:=L.a4; have z4:=L.z4; have v4:=L.v4; have t22:=L.t22; have a22:=L.a22; have z22:=L.z22; have v22:=L.v22
 have q22 : ∀ (w:World) (a:Option Addr) (n c n' c':Nat),(binOp .eql (ρ.t 22) (.slice a n c) (.slice none n' c')).run P w = .ok (.bool a.isNone) w:=fun w a n c n' c'=>Lib.run_eql_slice_nil w _ _ a n c n' c' L.t22
 have u22 : ∀ w,Sem.run P (underlying (ρ.t 22)) w = .ok (TypeDesc.slice (ρ.t 23)) w:=run_underlying t22
 obtain ⟨_,_,FG⟩:=L.f41
 go_enter FG,SlBodyN.n41_ntmps ρ
 go_wp2_with (at_builtin; refine wpList_append_own _ rfl _ _ (ρ.t 22) rfl w.heap.size (ρ.t 23) i0 z size bytes t22 hi hz0 hz1 hz2 hzs hsz _ _ _ rfl (World.ownsRow_made w #[] 0 (Nat.le_refl _) (Nat.zero_le _) (by simp)) ad 0 c [] rfl ?qc1 ?qc2 ?qc3 ?qc4 ?qc5 ?qc6 ?_)
 case qc1=>simp
 case qc2=>intro j u hj; simp at hj
 case qc3=>intro u hu; cases hu
 case qc4=>simp
 case qc5=>simp
 case qc6=>simp
 intro v' w1 hown hgrow hnil
 go_wp2
 go_ret
 refine ⟨v',rfl,by simpa using hown,?_⟩
 exact ((Below.refl _ w).alloc (Nat.le_refl _) _).grown hgrow (by simp) (by intro k hk; simp [Value.ownBlock] at hk; omega)
end Go.Proofs
namespace Go.E
open Go Go.Shelf Go.Proofs Go.RowKit
section
variable {g0:Gh} {I A:aB} {w w':World} {vs:Array Value} {es:List LT} {ms:List M} {rows:List (List T)}
theorem aiR {args:List Arg} {h:Value} {F:aB} (hp:Pre g0 I A args w vs) (hb:Below w.heap.size w w') (hrow:aV w' I es ms rows h F) (hF : ∀ b o,F b o->w.heap.size<=b) (hs:Single h) :
  JL g0 I A args w ⟨[.one (.own [7000000] es ms rows)],[[none]],[]⟩ (g0.set [7000000] h F) I w' h:=by
 have hno : ∀ {i j:Nat} {x:List LT×List M×List (List T)},lI ⟨[.one (.own [7000000] es ms rows)],[[none]],[]⟩ i j≠some x:=by
  intro i j x
  match i,j with
  | 0,0=>simp [lI]
  | 0,j+1=>simp [lI]
  | i+1,j=>simp [lI]
 have hk1:=A8 hb (fun _ _=>True)
 refine ⟨⟨[h],rfl,⟨hs,?_⟩,trivial⟩,fun i j es1 ms1 J7 h=>absurd h hno,fun i ls h=>by simp [xO] at h,by simp [iA,eD],fun k hk i j hij=>?_,fun k k' h h' hne=>absurd ((uL h).trans (uL h').symm) hne,fun k h=>?_,fun k h=>?_,fun _ _ h=>h,fun _ _ h _=>h,fun b o hi=>?_,hk1.weaken fun _ _ _=>trivial⟩
 ·exact ⟨by rw [Gh.oz],by rw [Gh.jR]; exact hrow⟩
 ·rcases hij with ⟨y,h⟩ | ⟨-,ls,h⟩
  ·exact absurd h hno
  ·simp [xO] at h
 ·rw [uL h,Gh.jR]
  intro b o hf hi
  have:=nO (hp.zu b o hi)
  have:=hF b o hf
  omega
 ·rw [uL h,Gh.jR]
  intro b o hf hi
  have:=nO (hp.awf b o hi)
  have:=hF b o hf
  omega
 ·obtain ⟨v,hv⟩:=hp.zu b o hi
  exact ⟨v,(hk1.cell trivial ⟨v,hv⟩).trans hv⟩
theorem af8 {S:aB} {el:TypeId} {v:Value} {news:List Value} {base:Nat} (hes:es≠[]) (hm:noO ms) (hmax:rows.length<=bG) (hr:dR w' I es rows news) (ho:w'.ownsRow base el es.length v rows.length news) :
  ∃ F,aV w' I es ms rows v F/\(∀ b o,F b o->base<=b)/\Single v:=by
 obtain ⟨hl,⟨rfl,h0⟩ | ⟨g,cap,cur,rfl,hb,hg,hc,-,hsz,ht⟩⟩:=ho
 ·have:rows=[]:=List.length_eq_zero_iff.1 h0
  subst this
  exact ⟨fun _ _=>False,aV.nil hes fun _ _ h=>h,fun _ _ h=>h.elim,⟨fun _ h=>(nomatch h),fun _ h=>(nomatch h)⟩⟩
 ·refine ⟨fun b o=>b=g/\o<cur.size,aV.mk' (bs:=[]) hes hmax hc hg hsz (fun o ho=>by omega) ?_ ⟨fun h=>(nomatch h),trivial⟩ (fun b' o'=>⟨.inl,fun h=>h.elim (fun h=>h) fun h=>(nomatch h.1)⟩),fun b o h=>h.1 ▸ hb,⟨fun _ h=>(nomatch h),fun _ h=>(nomatch h)⟩⟩
  refine aN.cells (hr.toM hm) ?_
  rw [<-hl,List.take_length,hl]; exact ht
end
def oC (es:List LT):List Arg->R3 fV
 | [.one (.dz es' rows)]=>cond (LT.eH es es'&&xM es&&Nat.ble es.length 1000) (cond (decide (rows.length * es.length<=ak)) (.ok ⟨[.one (.own [7000000] es (es.map fun _=>.F) rows)],[[none]],[]⟩) .bad) .bad
 | [.one (.fz es' rows)]=>cond (LT.eH es es'&&xM es&&Nat.ble es.length 1000) (cond (decide (rows.length * es.length<=ak)) (.ok ⟨[.one (.own [7000000] es (es.map fun _=>.F) rows)],[[none]],[]⟩) .bad) .bad
 | _=>.bad
theorem Ql : ∀ {aR:List LT} {vs:List Value},Fq aR vs->vs.length=aR.length
 | [],[],_=>rfl
 | _::_,_::_,h=>by simp [Ql h.2]
 | [],_::_,h=>h.elim
 | _::_,[],h=>h.elim
theorem yD {Γ:Ctx} {P:Program} {ρ:Shelf.Ren} (hΓ:fE Γ P) (L:SlLaysE0.n41 P ρ) {te:TI} (hte:Γ.ty (ρ.t 23)=some te) (hne:te.aR≠[]) {args:List Arg} (h:oC te.aR args ≠ .bad):Nv P (ρ.f 41) args (oC te.aR args):=by
 have Il:=hΓ.ty _ _ hte
 obtain ⟨i0,hi1,hi2,hi3,hi4,hi5,z,hz,hzs⟩:=Il.info
 have hzl:=Ql hzs
 have key : ∀ (S:aB) (arg:Arg) (rows:List (List T)) (g0:Gh) (I A:aB) (w:World) (vs:Array Value),Pre g0 I A [arg] w vs->(∀ v,Ti g0 w I 0 arg v->aJ w S (.sl te.aR) v (.l rows)) ->
   xM te.aR=true->te.aR.length<=1000->rows.length * te.aR.length<=ak ->
   Calls P (ρ.f 41) vs w fun
    | .returned v,w'=>∃ ret g' I',R3.ok (⟨[.one (.own [7000000] te.aR (te.aR.map fun _=>.F) rows)],[[none]],[]⟩:fV) = .ok ret/\JL g0 I A [arg] w ret g' I' w' v
    | .panicked _,_=>False
    | .outgrown,_=>False:=by
  intro S arg rows g0 I A w vs hp hv hf hle hmr
  obtain ⟨v,rfl,hav⟩ : ∃ v,vs = #[v]/\Ti g0 w I 0 arg v:=by
   have hrel:=hp.rel
   match hl:vs.toList,hrel with
   | [v],hrel=>exact ⟨v,Array.toList_inj.1 (by simpa using hl),hrel.1⟩
   | [],hrel=>exact hrel.elim
   | _::_::_,hrel=>exact hrel.2.elim
  obtain ⟨aa,cap,news,rfl,hcap,hmax,hnl,hrv,Qn⟩:=DN (hv v hav)
  have hone : ∀ u∈news,u.oneCell'=true:=fun u hu=>(hrv.single hnl u hu).one
  have hpos:0<te.aR.length:=List.length_pos_iff.2 hne
  have fin : ∀ (v':Value) (w':World),w'.ownsRow w.heap.size (ρ.t 23) te.aR.length v' rows.length news->Below w.heap.size w w' ->
    ∃ ret g' I',R3.ok (⟨[.one (.own [7000000] te.aR (te.aR.map fun _=>.F) rows)],[[none]],[]⟩:fV) = .ok ret/\JL g0 I A [arg] w ret g' I' w' v':=by
   intro v' w' ho hb
   obtain ⟨F,h1,h2,h3⟩:=af8 (I:=I) (S:=S) hne (an8 te.aR) hmax (hrv.flat hf) ho
   exact ⟨_,_,_,rfl,aiR hp hb h1 h2 h3⟩
  cases aa with
  | none =>
   refine (AnyE.slices_Clone_nil L rows.length cap w).mono fun e w' ⟨he,hw⟩=>?_
   subst he hw
   have hr0:rows=[]:=by
    rcases Qn with h | ⟨b,o,h,-⟩
    ·exact h
    ·cases h
   subst hr0
   exact fin _ _ ⟨by simpa using hnl,.inl ⟨rfl,rfl⟩⟩ (Below.refl _ _)
  | some ad =>
   rcases Qn with hr0 | ⟨b,o,h,hc,-⟩
   ·subst hr0
    have hn0:news=[]:=List.length_eq_zero_iff.1 (by simpa using hnl)
    subst hn0
    refine (Qk L i0 z te.aR.length i0.bytes hi1 hz hi2 rfl (by rw [<-Array.length_toList]; exact hzl) hpos (fun w=>run_sizeOf Il) ad cap w).mono fun e w' ⟨v',he,ho,hb⟩=>?_
    subst he
    exact fin v' w' ho hb
   ·cases h
    refine (AnyE.slices_Clone L i0 z te.aR.length i0.bytes hi1 hz hi2 rfl (by rw [<-Array.length_toList]; exact hzl) hpos (fun w=>run_sizeOf Il) b o rows.length cap news w hnl (by unfold maxLen; unfold bG at hmax; omega) ?_ ?_ hone).mono fun e w' ⟨v',he,ho,_,hb⟩=>?_
    ·have h1:rows.length * i0.bytes<=rows.length * (24 * te.aR.length):=Nat.mul_le_mul_left _ hi5
     have h2:rows.length * (24 * te.aR.length)=24 * (rows.length * te.aR.length):=by rw [Nat.mul_left_comm]
     unfold ak at hmr
     omega
    ·intro j u hu
     obtain ⟨hj,rfl⟩:=List.getElem?_eq_some_iff.1 hu
     exact hc.get j hj
    ·subst he
     exact fin v' w' ho hb
 unfold oC at h ⊢
 split at h
 ·rename_i es' rows
  cases hc:(LT.eH te.aR es'&&xM te.aR&&Nat.ble te.aR.length 1000) with
  | false=>rw [hc] at h; exact absurd rfl h
  | true =>
   cases hm:decide (rows.length * te.aR.length<=ak) with
   | false=>rw [hc,hm] at h; exact absurd rfl h
   | true =>
    simp only [Bool.and_eq_true] at hc
    have:=LT.bP hc.1.1
    subst this
    intro g0 I A w vs hp
    exact key (ID g0 I) _ rows g0 I A w vs hp (fun v hv=>hv) hc.1.2 (Nat.le_of_ble_eq_true hc.2) (of_decide_eq_true hm)
 ·rename_i es' rows
  cases hc:(LT.eH te.aR es'&&xM te.aR&&Nat.ble te.aR.length 1000) with
  | false=>rw [hc] at h; exact absurd rfl h
  | true =>
   cases hm:decide (rows.length * te.aR.length<=ak) with
   | false=>rw [hc,hm] at h; exact absurd rfl h
   | true =>
    simp only [Bool.and_eq_true] at hc
    have:=LT.bP hc.1.1
    subst this
    intro g0 I A w vs hp
    exact key I _ rows g0 I A w vs hp (fun v hv=>hv) hc.1.2 (Nat.le_of_ble_eq_true hc.2) (of_decide_eq_true hm)
 ·exact absurd rfl h
end Go.E

namespace Go.E
open Go
abbrev An:=R3 fV
section
variable (Γ:Ctx) (cf:FuncId->List Arg->(fV->An)->An)
def Prog.runK:Prog->S->Tr->(S->Tr->An)->An
 | .ret,σ,tr,K=>K σ tr
 | .fail,_,_,_=>.bad
 | .out,_,_,_=>.bad
 | .ig c p,σ,tr,K=>cond c (p.runK σ tr K) .bad
 | .lim _ p,σ,tr,K=>p.runK σ tr K
 | .br c p q,σ,tr,K=>cond c (p.runK σ tr K) (q.runK σ tr K)
 | .Dq t k,σ,tr,K=>(k (σ.s t)).runK σ { tr with rs:=t::tr.rs } K
 | .mG t e p,σ,tr,K=>p.runK (σ.mG t e) { tr with ws:=t::tr.ws } K
 | .fZ k c,σ,tr,K=>(c (σ.k k)).runK σ { tr with rk:=k::tr.rk } K
 | .bK k e p,σ,tr,K=>p.runK (σ.bK k e) { tr with wk:=k::tr.wk } K
 | .call f args k,σ,tr,K=>cf f args fun r=>(k r).runK σ tr K
def J8 (f np nt:Nat) (ops:Array Oper):List Oper->S->List Tr->List (Nat×Bool)->(S->List Tr->List (Nat×Bool)->An)->An
 | [],σ,Dm,asm,K=>K σ Dm.reverse asm
 | o::os,σ,Dm,asm,K =>
  cond (dM np nt o) (
   let step (tr0:Tr) (asm:List (Nat×Bool)):An:=(Oz Γ f asm o).runK cf σ tr0 fun σ tr=>J8 f np nt ops os σ (tr::Dm) (uW tr.ws asm) K
   let skip (g:Nat) (asm:List (Nat×Bool)):An:=(put o.dst .und).runK cf σ { rs:=[g] } fun σ tr=>J8 f np nt ops os σ (tr::Dm) (uW tr.ws asm) K
   match o.guard with
   | none=>step {} asm
   | some (i,want) =>
    match (ops[i]?).bind (·.dst) with
    | none=>.bad
    | some g =>
     match yw g asm with
     | some b=>cond (b==want) (step { rs:=[g] } asm) (skip g asm)
     | none =>
      match σ.s g with
      | .und=>skip g asm
      | .one ⟨.sc,.sc .bool,d⟩=>cond (d.bool==want) (step { rs:=[g] } ((g,want)::asm)) (skip g ((g,!want)::asm))
      | _=>.bad) .bad
def yg (lf:List Nat->Pack->(G7->Pack->An)->An) (fi:Fi):List Nat->List (Nat×Nat)->Nat->Code->S->(G7->S->An)->An
 | _,_,_,.skip,σ,K=>K .normal σ
 | _,_,_,.region id ops dr,σ,K=>(GL (Γ.rg fi.f id)).runK cf σ {} fun σ _=>J8 Γ cf fi.f fi.np fi.nt ops ops.toList σ [] [] fun σ Dm asm=>cond (!dr||O9 ops Dm) (K .normal (V4 σ asm)) .bad
 | pos,ex,af,.seq a b,σ,K=>yg lf fi (0::pos) ex (lin fi.ret ex b af) a σ fun c σ=>match c with
   | .normal=>yg lf fi (1::pos) ex af b σ K
   | c=>K c σ
 | pos,ex,af,.cond c a b,σ,K =>
  match c with
  | .tmp t=>(match σ.s t with
   | .one ⟨.sc,.sc .bool,d⟩=>(match d.bool with
    | true=>yg lf fi (0::pos) ex af a (σ.mG t (aaG true)) K
    | false=>yg lf fi (1::pos) ex af b (σ.mG t (aaG false)) K)
   | _=>.bad)
  | .const (.bool true)=>yg lf fi (0::pos) ex af a σ K
  | .const (.bool false)=>yg lf fi (1::pos) ex af b σ K
  | _=>.bad
 | pos,ex,af,.block id b,σ,K=>yg lf fi (0::pos) ((id,af)::ex) af b σ fun c σ=>match c with
   | .exit id'=>cond (Nat.beq id' id) (K .normal σ) (K (.exit id') σ)
   | c=>K c σ
 | pos,ex,_,.loop b,σ,K=>lf pos (Ay fi.np fi.nt (lin fi.ret ex b (lin fi.ret ex b 0)) σ) fun c p=>K c (nK p)
 | _,_,_,.exit id,σ,K=>K (.exit id) σ
 | _,_,_,.ret,σ,K=>K .ret σ
 | _,_,_,_,_,_=>.bad
def ug (ret:Nat):Code->List (Nat×Nat)->Nat->List Nat->Option (List (Nat×Nat)×Code)
 | .loop b,ex,_,[]=>some (ex,b)
 | .seq a b,ex,af,0::p=>ug ret a ex (lin ret ex b af) p
 | .seq _ b,ex,af,_::p=>ug ret b ex af p
 | .cond _ a _,ex,af,0::p=>ug ret a ex af p
 | .cond _ _ b,ex,af,_::p=>ug ret b ex af p
 | .block id b,ex,af,_::p=>ug ret b ((id,af)::ex) af p
 | .loop b,ex,_,_::p=>ug ret b ex (lin ret ex b (lin ret ex b 0)) p
 | _,_,_,_=>none
def FL (fi:Fi) (c0:Code):Nat->List Nat->Pack->(G7->Pack->An)->An
 | 0,_,_,_=>.bad
 | n+1,pos,p,kx =>
  match ug fi.ret c0 [] fi.ret pos.reverse with
  | none=>.bad
  | some (ex,b)=>yg Γ cf (FL fi c0 n) fi (0::pos) ex (lin fi.ret ex b (lin fi.ret ex b 0)) b (nK p) fun c σ=>match c with
   | .normal=>FL fi c0 n pos (Ay fi.np fi.nt (lin fi.ret ex b (lin fi.ret ex b 0)) σ) kx
   | .exit id=>kx (.exit id) (Ay fi.np fi.nt (O8 ex id) σ)
   | .ret=>kx .ret (Ay fi.np fi.nt fi.ret σ)
end
def MS (Γ:Ctx) (cf:FuncId->List Arg->(fV->An)->An) (lf:List Nat->Pack->(G7->Pack->An)->An) (f:FuncId) (fn:Func) (c:Code) (args:List Arg) (k:fV->An):An :=
 cond (Nat.ble args.length 1000000&&Nat.ble args.length fn.ntmps) (yg Γ cf lf ⟨f,args.length,fn.ntmps,Jy fn ||| Jz args⟩ [] [] (Jy fn ||| Jz args) c (nK (Lg args)) fun ctl σ=>match ctl with
  | .exit _=>.bad
  | _=>(AA Γ f fn args).runK cf σ {} fun σ _=>(Ez Γ fn args σ).bind k) .bad
def jS (Γ:Ctx) (gF:FuncId->Option (List Arg->R3 fV)):Nat->FuncId->List Arg->(fV->An)->An
 | 0,_,_,_=>.bad
 | n+1,f,args,k =>
  match gF f with
  | some g=>(g args).bind k
  | none =>
   match Γ.fn f with
   | none=>.bad
   | some fn =>
    match fn.body with
    | none=>.bad
    | some c=>MS Γ (jS Γ gF n) (FL Γ (jS Γ gF n) ⟨f,args.length,fn.ntmps,Jy fn ||| Jz args⟩ c n) f fn c args k
section
variable {Γ:Ctx} {cf:FuncId->List Arg->R3 fV} {cK:FuncId->List Arg->(fV->An)->An}
theorem R3.UE {α β γ:Type} (r:R3 α) (f:α->R3 β) (g:β->R3 γ):(r.bind f).bind g=r.bind fun x=>(f x).bind g:=by cases r <;> rfl
theorem gG {α β:Type} (c:Bool) (a b:R3 α) (k:α->R3 β):(cond c a b).bind k=cond c (a.bind k) (b.bind k):=by cases c <;> rfl
theorem run_bind {α β:Type} (k:α->R3 β) : ∀ (p:Prog) (σ:S) (tr:Tr) (K:S->Tr->R3 α),(p.run cf σ tr K).bind k=p.run cf σ tr fun σ tr=>(K σ tr).bind k:=by
 intro p
 induction p with
 | ret=>intro σ tr K; rfl
 | fail=>intro σ tr K; rfl
 | out=>intro σ tr K; rfl
 | ig c p ih=>intro σ tr K; simp only [Prog.run,gG,ih]; rfl
 | lim c p ih=>intro σ tr K; simp only [Prog.run,ih]
 | br c p q ih1 ih2=>intro σ tr K; simp only [Prog.run,gG,ih1,ih2]
 | Dq t k ih=>intro σ tr K; simp only [Prog.run,ih]
 | mG t e p ih=>intro σ tr K; simp only [Prog.run,ih]
 | fZ t k ih=>intro σ tr K; simp only [Prog.run,ih]
 | bK t e p ih=>intro σ tr K; simp only [Prog.run,ih]
 | call f args kk ih=>intro σ tr K; simp only [Prog.run,R3.UE,ih]
theorem WI (hc : ∀ f a k,cK f a k=(cf f a).bind k) : ∀ (p:Prog) (σ:S) (tr:Tr) (K:S->Tr->An),p.runK cK σ tr K=p.run cf σ tr K:=by
 intro p
 induction p with
 | ret=>intro σ tr K; rfl
 | fail=>intro σ tr K; rfl
 | out=>intro σ tr K; rfl
 | ig c p ih=>intro σ tr K; simp only [Prog.run,Prog.runK,ih]
 | lim c p ih=>intro σ tr K; simp only [Prog.run,Prog.runK,ih]
 | br c p q ih1 ih2=>intro σ tr K; simp only [Prog.run,Prog.runK,ih1,ih2]
 | Dq t k ih=>intro σ tr K; simp only [Prog.run,Prog.runK,ih]
 | mG t e p ih=>intro σ tr K; simp only [Prog.run,Prog.runK,ih]
 | fZ t k ih=>intro σ tr K; simp only [Prog.run,Prog.runK,ih]
 | bK t e p ih=>intro σ tr K; simp only [Prog.run,Prog.runK,ih]
 | call f args kk ih=>intro σ tr K; simp only [Prog.run,Prog.runK,hc,ih]
theorem MU {α β:Type} (k:α->R3 β) (f np nt:Nat) (ops:Array Oper) : ∀ (os:List Oper) (σ:S) (Dm:List Tr) (asm:List (Nat×Bool)) (K:S->List Tr->List (Nat×Bool)->R3 α),
  (uX Γ cf f np nt ops os σ Dm asm K).bind k=uX Γ cf f np nt ops os σ Dm asm fun σ Dm asm=>(K σ Dm asm).bind k
 | [],σ,Dm,asm,K=>rfl
 | o::os,σ,Dm,asm,K=>by
  have ih:=MU k f np nt ops os
  simp only [uX,gG]
  cases dM np nt o with
  | false=>rfl
  | true =>
   simp only [cond_true]
   split
   ·simp only [run_bind,ih]
   ·split
    ·rfl
    ·split
     ·simp only [gG,run_bind,ih]
     ·split
      ·simp only [run_bind,ih]
      ·simp only [gG,run_bind,ih]
      ·rfl
theorem Qo (hc : ∀ f a k,cK f a k=(cf f a).bind k) (f np nt:Nat) (ops:Array Oper) : ∀ (os:List Oper) (σ:S) (Dm:List Tr) (asm:List (Nat×Bool)) (K:S->List Tr->List (Nat×Bool)->An),
  J8 Γ cK f np nt ops os σ Dm asm K=uX Γ cf f np nt ops os σ Dm asm K
 | [],σ,Dm,asm,K=>rfl
 | o::os,σ,Dm,asm,K=>by
  have ih:=Qo hc f np nt ops os
  simp only [uX,J8,WI hc,ih]
  cases dM np nt o <;> rfl
theorem UF {α β:Type} {lf:List (Nat×Nat)->Code->Pack->R3 (G7×Pack)} {fi:Fi} (k:α->R3 β) : ∀ (c:Code) (ex:List (Nat×Nat)) (af:Nat) (σ:S) (K:G7->S->R3 α),
  (nL Γ cf lf fi ex af c σ K).bind k=nL Γ cf lf fi ex af c σ fun c σ=>(K c σ).bind k:=by
 intro c
 induction c with
 | region i ops dr =>
  intro ex af σ K
  simp only [nL,run_bind,MU,gG]
  rfl
 | seq a b iha ihb =>
  intro ex af σ K
  simp only [nL]
  rw [iha]
  congr 1
  funext c σ
  cases c <;> simp only [ihb]
 | cond c a b iha ihb =>
  intro ex af σ K
  simp only [nL]
  split
  ·split
   ·simp only [gG,iha,ihb]
   ·rfl
  ·simp only [iha]
  ·simp only [ihb]
  ·rfl
 | block id b ih =>
  intro ex af σ K
  simp only [nL]
  rw [ih]
  congr 1
  funext c σ
  cases c <;> simp only [gG]
 | loop b ih=>intro ex af σ K; simp only [nL,R3.UE]
 | _=>intros; rfl
theorem Yx (hc : ∀ f a k,cK f a k=(cf f a).bind k) {lf:List (Nat×Nat)->Code->Pack->R3 (G7×Pack)} {lK:List Nat->Pack->(G7->Pack->An)->An} {fi:Fi} {c0:Code}
  (hl : ∀ pos ex b p kx,(∀ q,ug fi.ret c0 [] fi.ret (pos.reverse++q)=ug fi.ret (.loop b) ex 0 q)->lK pos p kx=(lf ex b p).bind fun cp=>kx cp.1 cp.2) :
  ∀ (c:Code) (pos:List Nat) (ex:List (Nat×Nat)) (af:Nat) (σ:S) (K:G7->S->An),(∀ q,ug fi.ret c0 [] fi.ret (pos.reverse++q)=ug fi.ret c ex af q) ->
   yg Γ cK lK fi pos ex af c σ K=nL Γ cf lf fi ex af c σ K:=by
 intro c
 induction c with
 | region i ops dr=>intro pos ex af σ K h; simp only [nL,yg,Qo hc,WI hc]
 | seq a b iha ihb =>
  intro pos ex af σ K h
  simp only [nL,yg]
  rw [iha (0::pos) ex _ σ _ fun q=>by rw [List.reverse_cons,List.append_assoc,h]; rfl]
  congr 1
  funext c σ
  cases c with
  | normal=>exact ihb (1::pos) ex af σ K fun q=>by rw [List.reverse_cons,List.append_assoc,h]; rfl
  | exit id=>rfl
  | ret=>rfl
 | cond c a b iha ihb =>
  intro pos ex af σ K h
  have ha:=fun σ K=>iha (0::pos) ex af σ K fun q=>by rw [List.reverse_cons,List.append_assoc,h]; rfl
  have hb:=fun σ K=>ihb (1::pos) ex af σ K fun q=>by rw [List.reverse_cons,List.append_assoc,h]; rfl
  simp only [nL,yg,ha,hb]
  rfl
 | block id b ih =>
  intro pos ex af σ K h
  simp only [nL,yg]
  rw [ih (0::pos) _ af σ _ fun q=>by rw [List.reverse_cons,List.append_assoc,h]; rfl]
  rfl
 | loop b ih =>
  intro pos ex af σ K h
  simp only [nL,yg]
  exact hl pos ex b _ _ fun q=>(h q).trans (by cases q <;> rfl)
 | _=>intros; rfl
theorem Yy (hc : ∀ f a k,cK f a k=(cf f a).bind k) {fi:Fi} {c0:Code} : ∀ (n:Nat) (pos:List Nat) (ex:List (Nat×Nat)) (b:Code) (p:Pack) (kx:G7->Pack->An),
  (∀ q,ug fi.ret c0 [] fi.ret (pos.reverse++q)=ug fi.ret (.loop b) ex 0 q) ->
  FL Γ cK fi c0 n pos p kx=(G9 Γ cf fi n ex b p).bind fun cp=>kx cp.1 cp.2
 | 0,pos,ex,b,p,kx,h=>rfl
 | n+1,pos,ex,b,p,kx,h=>by
  have ih:=Yy hc (fi:=fi) (c0:=c0) n
  have h0:ug fi.ret c0 [] fi.ret pos.reverse=some (ex,b):=by
   have:=h []
   rw [List.append_nil] at this
   rw [this]; rfl
  simp only [FL,h0,G9,UF]
  rw [Yx hc (fun pos ex b p kx hh=>ih pos ex b p kx hh) b (0::pos) ex _ _ _ fun q=>by rw [List.reverse_cons,List.append_assoc,h]; rfl]
  congr 1
  funext c σ
  cases c with
  | normal=>exact ih pos ex b _ kx h
  | exit id=>rfl
  | ret=>rfl
end
theorem Yz {Γ:Ctx} {gF:FuncId->Option (List Arg->R3 fV)} : ∀ (n:Nat) (f:FuncId) (args:List Arg) (k:fV->An),jS Γ gF n f args k=(Fp Γ gF n f args).bind k
 | 0,_,_,_=>rfl
 | n+1,f,args,k=>by
  have ih:=Yz (Γ:=Γ) (gF:=gF) n
  simp only [jS,Fp]
  cases hp:gF f with
  | some g=>rfl
  | none =>
   simp only
   cases hf:Γ.fn f with
   | none=>rfl
   | some fn =>
    simp only
    cases hb:fn.body with
    | none=>rfl
    | some c =>
     simp only [MS,gG,UF]
     congr 1
     rw [Yx (fun f a k=>ih f a k) (fi:=⟨f,args.length,fn.ntmps,Jy fn ||| Jz args⟩) (c0:=c) (fun pos ex b p kx hh=>Yy (fun f a k=>ih f a k) n pos ex b p kx hh) c [] [] _ _ _ fun q=>rfl]
     congr 1
     funext ctl σ
     have e : ∀ σ,(AA Γ f fn args).runK (jS Γ gF n) σ {} (fun σ _=>(Ez Γ fn args σ).bind k)=((AA Γ f fn args).run (Fp Γ gF n) σ {} fun σ _=>Ez Γ fn args σ).bind k:=fun σ=>by
      rw [run_bind,WI (fun f a k=>ih f a k)]
     cases ctl <;> first | rfl | exact e σ
theorem af9 {Γ:Ctx} {gF:FuncId->Option (List Arg->R3 fV)} {n:Nat} {f:FuncId} {args:List Arg} {r:fV} (h:jS Γ gF n f args .ok = .ok r):Fp Γ gF n f args = .ok r:=by
 rw [Yz] at h
 cases hr:Fp Γ gF n f args with
 | ok a=>rw [hr] at h; exact h
 | out=>rw [hr] at h; cases h
 | bad=>rw [hr] at h; cases h
end Go.E

namespace Go.E
open Go
def IC:List Dp->List Dp->Bool
 | [],[]=>true
 | a::az,b::bs=>dQ a.1 b.1&&Nat.beq a.2 b.2&&IC az bs
 | _,_=>false
theorem Gp : ∀ {a b:List Dp},IC a b=true->a=b
 | [],[],_=>rfl
 | (a,x)::az,(b,y)::bs,h=>by
  simp only [IC,Bool.and_eq_true] at h
  rw [(eX _ _).1 h.1.1,Nat.eq_of_beq_eq_true h.1.2,Gp h.2]
 | [],_::_,h=>by simp [IC] at h
 | _::_,[],h=>by simp [IC] at h
def WJ:T->Bool | .l []=>true | _=>false
theorem UG {t:T} (h:WJ t=true):t = .l []:=by
 unfold WJ at h; split at h <;> first | rfl | cases h
def alR:St->St->Bool
 | .sc,.sc=>true
 | .nl,.nl=>true
 | .sn a,.sn b=>IC a b
 | .al k n,.al k' n'=>dQ k k'&&Nat.beq n n'
 | .dead,.dead=>true
 | _,_=>false
theorem aiS {a b:St} (h:alR a b=true):a=b:=by
 cases a <;> cases b <;> simp only [alR] at h <;> first | rfl | cases h | skip
 ·rw [Gp h]
 ·simp only [Bool.and_eq_true] at h; rw [(eX _ _).1 h.1,Nat.eq_of_beq_eq_true h.2]
def stD:St->Bool | .sc=>true | .sn _=>true | _=>false
def acJ (l:Leaf):List T:=cond (stD l.st) [l.d] []
def Qp (s:Leaf) (vs:List T):Leaf×List T:=cond (stD s.st) (⟨s.st,s.lt,vs.headD dflt⟩,vs.tail) (s,vs)
def acK (s l:Leaf):Bool:=alR s.st l.st&&LT.beq s.lt l.lt&&(stD s.st||(WJ s.d&&WJ l.d))
theorem Qq {s l:Leaf} (h:acK s l=true) (r:List T):Qp s (acJ l++r)=(l,r):=by
 obtain ⟨st,lt,d⟩:=s
 obtain ⟨st',lt',d'⟩:=l
 simp only [acK,Bool.and_eq_true,Bool.or_eq_true] at h
 obtain ⟨⟨h1,h2⟩,h3⟩:=h
 cases aiS h1
 cases LT.beq_eq h2
 unfold Qp acJ
 cases hs:stD st with
 | true=>simp [hs]
 | false =>
  rw [hs] at h3
  rcases h3 with h3 | h3
  ·cases h3
  ·rw [UG h3.1,UG h3.2]; simp [hs]
def J9:List Leaf->List T
 | []=>[]
 | l::ls=>acJ l++J9 ls
def A9:List Leaf->List T->List Leaf×List T
 | [],vs=>([],vs)
 | s::ss,vs=>((Qp s vs).1::(A9 ss (Qp s vs).2).1,(A9 ss (Qp s vs).2).2)
def D9:List Leaf->List Leaf->Bool
 | [],[]=>true
 | s::ss,l::ls=>acK s l&&D9 ss ls
 | _,_=>false
theorem Ea : ∀ {ss ls:List Leaf},D9 ss ls=true->∀ r,A9 ss (J9 ls++r)=(ls,r)
 | [],[],_,r=>rfl
 | s::ss,l::ls,h,r=>by
  simp only [D9,Bool.and_eq_true] at h
  simp only [A9,J9,List.append_assoc,Qq h.1,Ea h.2]
 | [],_::_,h,_=>by simp [D9] at h
 | _::_,[],h,_=>by simp [D9] at h
def bJ (t:T):List T:=t.rows.headD []
def Ka:Nat->fC->List T
 | _,.one l=>acJ l
 | _,.agg ls=>J9 ls
 | n+1,.OT es=>es.flatMap (Ka n)
 | _,.ptr _ _ i _=>[.i i]
 | _,.rp _ _ row=>[.l [row]]
 | n+1,.fn _ caps=>caps.flatMap (Ka n)
 | _,_=>[]
def nX {α:Type} (f:α->List T->α×List T):List α->List T->List α×List T
 | [],vs=>([],vs)
 | s::ss,vs=>((f s vs).1::(nX f ss (f s vs).2).1,(nX f ss (f s vs).2).2)
def eList {α:Type} (e:α->α->Bool):List α->List α->Bool
 | [],[]=>true
 | s::ss,l::ls=>e s l&&eList e ss ls
 | _,_=>false
theorem qD {α:Type} {f:α->List T->α×List T} {e:α->α->Bool} {d:α->List T} (hok : ∀ s l,e s l=true->∀ r,f s (d l++r)=(l,r)) :
  ∀ {ss ls:List α},eList e ss ls=true->∀ r,nX f ss (ls.flatMap d++r)=(ls,r)
 | [],[],_,r=>rfl
 | s::ss,l::ls,h,r=>by
  simp only [eList,Bool.and_eq_true] at h
  simp only [nX,List.flatMap_cons,List.append_assoc,hok _ _ h.1,qD hok h.2]
 | [],_::_,h,_=>by simp [eList] at h
 | _::_,[],h,_=>by simp [eList] at h
def FM:Nat->fC->List T->fC×List T
 | _,.one l,vs=>(.one (Qp l vs).1,(Qp l vs).2)
 | _,.agg ls,vs=>(.agg (A9 ls vs).1,(A9 ls vs).2)
 | n+1,.OT es,vs=>(.OT (nX (FM n) es vs).1,(nX (FM n) es vs).2)
 | _,.ptr k m _ off,vs=>(.ptr k m (vs.headD dflt).int.toNat off,vs.tail)
 | _,.rp ds aR _,vs=>(.rp ds aR (bJ (vs.headD dflt)),vs.tail)
 | n+1,.fn g caps,vs=>(.fn g (nX (FM n) caps vs).1,(nX (FM n) caps vs).2)
 | _,e,vs=>(e,vs)
def aeh:Nat->fC->fC->Bool
 | _,.one s,.one l=>acK s l
 | _,.agg ss,.agg ls=>D9 ss ls
 | n+1,.OT ss,.OT ls=>eList (aeh n) ss ls
 | _,.ptr k m _ off,.ptr k' m' _ off'=>dQ k k'&&Nat.beq m m'&&Nat.beq off off'
 | _,.rp ds aR _,.rp ds' aiG _=>IC ds ds'&&LT.eH aR aiG
 | n+1,.fn g caps,.fn g' aga=>Nat.beq g g'&&eList (aeh n) caps aga
 | _,.und,.und=>true
 | _,.junk,.junk=>true
 | _,_,_=>false
theorem aiT : ∀ (n:Nat) {s l:fC},aeh n s l=true->∀ r,FM n s (Ka n l++r)=(l,r):=by
 intro n
 induction n with
 | zero =>
  intro s l h r
  cases s <;> cases l <;> simp only [aeh] at h <;> first | (cases h; done) | skip
  ·simp only [FM,Ka,Qq h]
  ·simp only [FM,Ka,Ea h]
  ·simp only [Bool.and_eq_true] at h
   rw [(eX _ _).1 h.1.1,Nat.eq_of_beq_eq_true h.1.2,Nat.eq_of_beq_eq_true h.2]
   simp [FM,Ka,T.int]
  ·simp only [Bool.and_eq_true] at h
   rw [Gp h.1,LT.bP h.2]
   simp [FM,Ka,bJ,T.rows]
  ·rfl
  ·rfl
 | succ n ih =>
  intro s l h r
  cases s <;> cases l <;> simp only [aeh] at h <;> first | (cases h; done) | skip
  ·simp only [FM,Ka,Qq h]
  ·simp only [FM,Ka,Ea h]
  ·simp only [FM,Ka,qD (fun s l h r=>ih h r) h]
  ·simp only [Bool.and_eq_true] at h
   rw [(eX _ _).1 h.1.1,Nat.eq_of_beq_eq_true h.1.2,Nat.eq_of_beq_eq_true h.2]
   simp [FM,Ka,T.int]
  ·simp only [Bool.and_eq_true] at h
   rw [Gp h.1,LT.bP h.2]
   simp [FM,Ka,bJ,T.rows]
  ·simp only [Bool.and_eq_true] at h
   rw [Nat.eq_of_beq_eq_true h.1]
   simp only [FM,Ka,qD (fun s l h r=>ih h r) h.2]
  ·rfl
  ·rfl
def dCh:Ch->List T
 | .box ls=>J9 ls
 | .row _ _ rows=>[.l rows]
 | .fz _ rows=>[.l rows]
 | _=>[]
def fCh:Ch->List T->Ch×List T
 | .box ls,vs=>(.box (A9 ls vs).1,(A9 ls vs).2)
 | .row es ms _,vs=>(.row es ms (vs.headD dflt).rows,vs.tail)
 | .fz es _,vs=>(.fz es (vs.headD dflt).rows,vs.tail)
 | c,vs=>(c,vs)
def eCh:Ch->Ch->Bool
 | .box ss,.box ls=>D9 ss ls
 | .row es ms _,.row es' ms' _=>LT.eH es es'&&M.eH ms ms'
 | .fz es _,.fz es' _=>LT.eH es es'
 | .gone,.gone=>true
 | _,_=>false
theorem alS {s l:Ch} (h:eCh s l=true) (r:List T):fCh s (dCh l++r)=(l,r):=by
 cases s <;> cases l <;> simp only [eCh] at h <;> first | (cases h; done) | skip
 ·simp only [fCh,dCh,Ea h]
 ·simp only [Bool.and_eq_true] at h
  rw [LT.bP h.1,M.bP h.2]
  simp [fCh,dCh,T.rows]
 ·rw [LT.bP h]
  simp [fCh,dCh,T.rows]
 ·rfl
def dNE (x:Nat×fC):List T:=Ka 3 x.2
def fNE (x:Nat×fC) (vs:List T):(Nat×fC)×List T:=((x.1,(FM 3 x.2 vs).1),(FM 3 x.2 vs).2)
def eNE (x y:Nat×fC):Bool:=Nat.beq x.1 y.1&&aeh 3 x.2 y.2
theorem alT (s l:Nat×fC) (h:eNE s l=true) (r:List T):fNE s (dNE l++r)=(l,r):=by
 simp only [eNE,Bool.and_eq_true] at h
 simp only [fNE,dNE,aiT 3 h.2,Nat.eq_of_beq_eq_true h.1]
def dKC (x:Key×Ch):List T:=dCh x.2
def fKC (x:Key×Ch) (vs:List T):(Key×Ch)×List T:=((x.1,(fCh x.2 vs).1),(fCh x.2 vs).2)
def eKC (x y:Key×Ch):Bool:=dQ x.1 y.1&&eCh x.2 y.2
theorem alU (s l:Key×Ch) (h:eKC s l=true) (r:List T):fKC s (dKC l++r)=(l,r):=by
 simp only [eKC,Bool.and_eq_true] at h
 simp only [fKC,dKC,alS h.2,(eX _ _).1 h.1]
def agb (p:Pack):List T:=p.es.flatMap dNE++p.ks.flatMap dKC
def oN (s:Pack) (vs:List T):Pack:=⟨(nX fNE s.es vs).1,(nX fKC s.ks (nX fNE s.es vs).2).1⟩
def acL (s p:Pack):Bool:=eList eNE s.es p.es&&eList eKC s.ks p.ks
theorem agc {s p:Pack} (h:acL s p=true):oN s (agb p)=p:=by
 simp only [acL,Bool.and_eq_true] at h
 simp only [oN,agb,qD (fun s l h r=>alT s l h r) h.1]
 have:=qD (fun s l h r=>alU s l h r) h.2 []
 rw [List.append_nil] at this
 rw [this]
def dAL:AL->List T
 | .sc _ d=>[d]
 | .fz _ rows=>[.l rows]
 | .own _ _ rows=>[.l rows]
 | .nl _=>[]
 | .dz _ rows=>[.l rows]
def fAL:AL->List T->AL×List T
 | .sc s _,vs=>(.sc s (vs.headD dflt),vs.tail)
 | .fz es _,vs=>(.fz es (vs.headD dflt).rows,vs.tail)
 | .own es ms _,vs=>(.own es ms (vs.headD dflt).rows,vs.tail)
 | .nl es,vs=>(.nl es,vs)
 | .dz es _,vs=>(.dz es (vs.headD dflt).rows,vs.tail)
def eAL:AL->AL->Bool
 | .sc s _,.sc s' _=>decide (s=s')
 | .fz es _,.fz es' _=>LT.eH es es'
 | .own es ms _,.own es' ms' _=>LT.eH es es'&&M.eH ms ms'
 | .nl es,.nl es'=>LT.eH es es'
 | .dz es _,.dz es' _=>LT.eH es es'
 | _,_=>false
theorem Lu (s l:AL) (h:eAL s l=true) (r:List T):fAL s (dAL l++r)=(l,r):=by
 cases s <;> cases l <;> simp only [eAL] at h <;> first | (cases h; done) | skip
 ·rw [of_decide_eq_true h]; rfl
 ·rw [LT.bP h]; rfl
 ·simp only [Bool.and_eq_true] at h
  rw [LT.bP h.1,M.bP h.2]; rfl
 ·rw [LT.bP h]; rfl
 ·rw [LT.bP h]; rfl
def dArg:Nat->Arg->List T
 | _,.one l=>dAL l
 | _,.agg ls=>ls.flatMap dAL
 | _,.Ie _ row=>[.l [row]]
 | _,.bx ls=>ls.flatMap dAL
 | n+1,.fn _ caps=>caps.flatMap (dArg n)
 | _,_=>[]
def fArg:Nat->Arg->List T->Arg×List T
 | _,.one l,vs=>(.one (fAL l vs).1,(fAL l vs).2)
 | _,.agg ls,vs=>(.agg (nX fAL ls vs).1,(nX fAL ls vs).2)
 | _,.Ie aR _,vs=>(.Ie aR (bJ (vs.headD dflt)),vs.tail)
 | _,.bx ls,vs=>(.bx (nX fAL ls vs).1,(nX fAL ls vs).2)
 | n+1,.fn g caps,vs=>(.fn g (nX (fArg n) caps vs).1,(nX (fArg n) caps vs).2)
 | _,a,vs=>(a,vs)
def eArg:Nat->Arg->Arg->Bool
 | _,.one s,.one l=>eAL s l
 | _,.agg ss,.agg ls=>eList eAL ss ls
 | _,.Ie aR _,.Ie aiG _=>LT.eH aR aiG
 | _,.bx ss,.bx ls=>eList eAL ss ls
 | n+1,.fn g caps,.fn g' aga=>Nat.beq g g'&&eList (eArg n) caps aga
 | _,_,_=>false
theorem aiU : ∀ (n:Nat) {s l:Arg},eArg n s l=true->∀ r,fArg n s (dArg n l++r)=(l,r):=by
 intro n
 induction n with
 | zero =>
  intro s l h r
  cases s <;> cases l <;> simp only [eArg] at h <;> first | (cases h; done) | skip
  ·simp only [fArg,dArg,Lu _ _ h]
  ·simp only [fArg,dArg,qD Lu h]
  ·rw [LT.bP h]; rfl
  ·simp only [fArg,dArg,qD Lu h]
 | succ n ih =>
  intro s l h r
  cases s <;> cases l <;> simp only [eArg] at h <;> first | (cases h; done) | skip
  ·simp only [fArg,dArg,Lu _ _ h]
  ·simp only [fArg,dArg,qD Lu h]
  ·rw [LT.bP h]; rfl
  ·simp only [fArg,dArg,qD Lu h]
  ·simp only [Bool.and_eq_true] at h
   rw [Nat.eq_of_beq_eq_true h.1]
   simp only [fArg,dArg,qD (fun s l h r=>ih h r) h.2]
def dArgs (az:List Arg):List T:=az.flatMap (dArg 2)
def fArgs (ss:List Arg) (vs:List T):List Arg:=(nX (fArg 2) ss vs).1
def eArgs (ss az:List Arg):Bool:=eList (eArg 2) ss az
theorem agd {ss az:List Arg} (h:eArgs ss az=true):fArgs ss (dArgs az)=az:=by
 have:=qD (fun s l h r=>aiU 2 h r) h []
 rw [List.append_nil] at this
 simp only [fArgs,dArgs,this]
abbrev CF:=FuncId->List Arg->(fV->An)->An
abbrev LF:=List Nat->Pack->(G7->Pack->An)->An
def agf (f:FuncId) (ss:List Arg) (G:List T->(fV->An)->An) (cf:CF):CF:=fun g az k=>cond (Nat.beq g f&&eArgs ss az) (G (dArgs az) k) (cf g az k)
theorem acM {f:FuncId} {ss:List Arg} {G:List T->(fV->An)->An} {cf:CF} (h : ∀ vs k,cf f (fArgs ss vs) k=G vs k):cf=agf f ss G cf:=by
 funext g az k
 unfold agf
 cases hc:(Nat.beq g f&&eArgs ss az) with
 | false=>rfl
 | true =>
  simp only [Bool.and_eq_true] at hc
  rw [cond_true,<-h,agd hc.2,Nat.eq_of_beq_eq_true hc.1]
def aiV (pos:List Nat) (s:Pack) (L:List T->(G7->Pack->An)->An) (lf:LF):LF:=fun q p k=>cond (dQ q pos&&acL s p) (L (agb p) k) (lf q p k)
theorem aiW {pos:List Nat} {s:Pack} {L:List T->(G7->Pack->An)->An} {lf:LF} (h : ∀ vs k,lf pos (oN s vs) k=L vs k):lf=aiV pos s L lf:=by
 funext q p k
 unfold aiV
 cases hc:(dQ q pos&&acL s p) with
 | false=>rfl
 | true =>
  simp only [Bool.and_eq_true] at hc
  rw [cond_true,<-h,agc hc.2,(eX _ _).1 hc.1]
end Go.E

namespace Go.E
open Go
def agh (Γ:Ctx) (cf:CF) (lf:LF) (fi:Fi) (c0:Code) (pos:List Nat) (p:Pack) (kx:G7->Pack->An):An :=
  match ug fi.ret c0 [] fi.ret pos.reverse with
  | none=>.bad
  | some (ex,b)=>yg Γ cf lf fi (0::pos) ex (lin fi.ret ex b (lin fi.ret ex b 0)) b (nK p) fun c σ=>match c with
   | .normal=>lf pos (Ay fi.np fi.nt (lin fi.ret ex b (lin fi.ret ex b 0)) σ) kx
   | .exit id=>kx (.exit id) (Ay fi.np fi.nt (O8 ex id) σ)
   | .ret=>kx .ret (Ay fi.np fi.nt fi.ret σ)
theorem YA {Γ:Ctx} {cf cf':CF} {fi:Fi} {c0:Code} {n:Nat} {lf:LF} (hc:cf=cf') (hl:FL Γ cf fi c0 n=lf) (pos:List Nat) (p:Pack) (kx:G7->Pack->An) :
  FL Γ cf fi c0 (n+1) pos p kx=agh Γ cf' lf fi c0 pos p kx:=by
 subst hc hl; rfl
theorem YB {Γ:Ctx} {cf cf':CF} {lf lf':LF} (hc:cf=cf') (hl:lf=lf') (f:FuncId) (fn:Func) (c:Code) (args:List Arg) (k:fV->An) :
  MS Γ cf lf f fn c args k=MS Γ cf' lf' f fn c args k:=by
 subst hc hl; rfl
end Go.E
namespace Go.E
open Go
def alW (tab:List (Option TI)) (t:TypeId):List LT :=
 match Qh tab t with
 | some ti=>(match ti.kind with
  | .ptr e=>(match Qh tab e with | some te=>te.aR | none=>[])
  | _=>ti.aR)
 | none=>[]
def aj3 {α:Type} (f:Nat):List (Nat×α)->Option α
 | []=>none
 | (i,x)::r=>cond (Nat.beq f i) (some x) (aj3 f r)
def alX (tab:List (Option TI)) (fns:List (Nat×Func)) (ov:List (Nat×Sig)) (f:FuncId):Sig :=
 match aj3 f ov with
 | some s=>s
 | none=>match UC f fns with
  | some fn=>⟨fn.params.toList.map fun t=>(alW tab t).map fun _=>.R⟩
  | none=>⟨[]⟩
end Go.E

namespace Go.E
open Go
def Ar (α:Type):Nat->Type
 | 0=>α
 | n+1=>T->Ar α n
def ap {α:Type} : (n:Nat)->Ar α n->List T->α
 | 0,f,_=>f
 | n+1,f,vs=>ap n (f (vs.headD dflt)) vs.tail
def lm {α:Type} : (n:Nat)->(List T->α)->Ar α n
 | 0,f=>f []
 | n+1,f=>fun x=>lm n fun xs=>f (x::xs)
def fRL:RL->List T->RL×List T
 | .sc s _,vs=>(.sc s (vs.headD dflt),vs.tail)
 | .fz es _,vs=>(.fz es (vs.headD dflt).rows,vs.tail)
 | .own k es ms _,vs=>(.own k es ms (vs.headD dflt).rows,vs.tail)
 | .dz es _,vs=>(.dz es (vs.headD dflt).rows,vs.tail)
 | r,vs=>(r,vs)
def fRE:RE->List T->RE×List T
 | .one l,vs=>(.one (fRL l vs).1,(fRL l vs).2)
 | .agg ls,vs=>(.agg (nX fRL ls vs).1,(nX fRL ls vs).2)
 | .bx k ls,vs=>(.bx k (nX fRL ls vs).1,(nX fRL ls vs).2)
 | .none,vs=>(.none,vs)
def fOw:Option (List LT×List M×List (List T))->List T->Option (List LT×List M×List (List T))×List T
 | some (es,ms,_),vs=>(some (es,ms,(vs.headD dflt).rows),vs.tail)
 | none,vs=>(none,vs)
def fBx:Option (List RL)->List T->Option (List RL)×List T
 | some ls,vs=>(some (nX fRL ls vs).1,(nX fRL ls vs).2)
 | none,vs=>(none,vs)
def Tm (s:fV) (vs:List T):fV :=
 let r:=nX fRE s.rs vs
 let o:=nX (nX fOw) s.owns r.2
 ⟨r.1,o.1,(nX fBx s.bxs o.2).1⟩
def ard (a:Arg):List (Option (List LT×List M×List (List T))):=match a with | .one _=>[none] | .agg az=>az.map fun _=>none | .bx az=>az.map fun _=>none | _=>[]
structure Fs where
 f:Nat
 a:List Arg
 w:Nat->List T->(fV->An)->An
structure Ls where
 pos:List Nat
 s:Pack
 w:Nat->Nat->List T->(G7->Pack->An)->An
def WK (m:Nat) (cf:CF):List Fs->CF
 | []=>cf
 | x::l=>agf x.f x.a (x.w m) (WK m cf l)
def MV (m n:Nat) (lf:LF):List Ls->LF
 | []=>lf
 | x::l=>aiV x.pos x.s (x.w m n) (MV m n lf l)
section
variable (Γ:Ctx) (gF:FuncId->Option (List Arg->R3 fV))
def Qr (l:List Fs):Prop:=∀ m,jS Γ gF m=WK m (jS Γ gF m) l
def aa9 (x:Fs):Prop:=∀ m vs k,jS Γ gF m x.f (fArgs x.a vs) k=x.w m vs k
def Ce (fn:Func):Code:=fn.body.getD .skip
def Nw (P:Ls->Prop):List Ls->Prop
 | []=>True
 | l::ls=>P l/\Nw P ls
variable {Γ gF}
theorem agi:Qr Γ gF []:=fun _=>rfl
theorem UH {tb:List Fs} (g:Qr Γ gF tb) {x:Fs} (h:aa9 Γ gF x):Qr Γ gF (x::tb):=fun m=>by
 have h1:=acM (f:=x.f) (ss:=x.a) (G:=x.w m) (cf:=jS Γ gF m) (fun vs k=>h m vs k)
 show _=agf x.f x.a (x.w m) (WK m (jS Γ gF m) tb)
 rw [<-g m]; exact h1
theorem Qs {m n:Nat} {lf:LF} : ∀ {ls:List Ls},Nw (fun l=>∀ vs k,lf l.pos (oN l.s vs) k=l.w m n vs k) ls->lf=MV m n lf ls
 | [],_=>rfl
 | l::ls,h=>by
  show lf=aiV l.pos l.s (l.w m n) (MV m n lf ls)
  rw [<-Qs h.2]; exact aiW h.1
theorem Nw.imp {P Q:Ls->Prop} (h : ∀ l,P l->Q l) : ∀ {ls:List Ls},Nw P ls->Nw Q ls
 | [],_=>trivial
 | l::ls,a=>⟨h l a.1,Nw.imp h a.2⟩
theorem fnG {tb:List Fs} (g:Qr Γ gF tb) (x:Fs) (fn:Func) (fi:Fi) (ls:List Ls)
  (h0 : ∀ vs k,R3.bad=x.w 0 vs k)
  (h1 : ∀ m vs k,jS Γ gF (m+1) x.f (fArgs x.a vs) k=MS Γ (jS Γ gF m) (FL Γ (jS Γ gF m) fi (Ce fn) m) x.f fn (Ce fn) (fArgs x.a vs) k)
  (hl0:Nw (fun l=>∀ m vs k,R3.bad=l.w m 0 vs k) ls)
  (hl:Nw (fun l=>∀ (c:CF) (f:LF) m n vs k,agh Γ (WK m c (x::tb)) (MV m n f ls) fi (Ce fn) l.pos (oN l.s vs) k=l.w m (n+1) vs k) ls)
  (h2 : ∀ (c:CF) (f:LF) m vs k,MS Γ (WK m c (x::tb)) (MV m m f ls) x.f fn (Ce fn) (fArgs x.a vs) k=x.w (m+1) vs k):Qr Γ gF (x::tb)/\aa9 Γ gF x:=by
 have key:aa9 Γ gF x:=by
  intro m
  induction m with
  | zero=>intro vs k; rw [<-h0]; rfl
  | succ m ih =>
   intro vs k
   have hc:jS Γ gF m=WK m (jS Γ gF m) (x::tb):=by
    show _=agf x.f x.a (x.w m) (WK m (jS Γ gF m) tb)
    rw [<-g m]; exact acM ih
   have hlf : ∀ n,FL Γ (jS Γ gF m) fi (Ce fn) n=MV m n (FL Γ (jS Γ gF m) fi (Ce fn) n) ls:=by
    intro n
    induction n with
    | zero=>exact Qs (Nw.imp (fun l h vs k=>by rw [<-h]; rfl) hl0)
    | succ n ihn=>exact Qs (Nw.imp (fun l h vs k=>(YA hc ihn _ _ _).trans (h _ _ _ _ _ _)) hl)
   rw [h1,YB hc (hlf m)]
   exact h2 _ _ _ _ _
 exact ⟨UH g key,key⟩
theorem aa9.at {x:Fs} (h:aa9 Γ gF x) (m:Nat) (vs:List T) (k:fV->An):jS Γ gF m x.f (fArgs x.a vs) k=x.w m vs k:=h m vs k
end
def jn {α:Type} (b:α->An) (r:α):An:=b r
theorem jn1 (c:Bool) (a b:T) (r:T->An):jn (fun j=>cond c (j a) (j b)) r=r (cond c a b):=by cases c <;> rfl
abbrev AI:AL:=.sc (.int .i64) (.l [])
abbrev AS:AL:=.sc .str (.l [])
abbrev AB:AL:=.sc .bool (.l [])
abbrev LI:Leaf:=⟨.sc,.sc (.int .i64),.l []⟩
abbrev LS:Leaf:=⟨.sc,.sc .str,.l []⟩
abbrev LB:Leaf:=⟨.sc,.sc .bool,.l []⟩
abbrev LD (es:List LT):Leaf:=⟨.sn [([4000000],0)],.sl es,.l []⟩
abbrev LZ (es:List LT):Leaf:=⟨.sn [],.sl es,.l []⟩
abbrev LA (k:Key) (es:List LT):Leaf:=⟨.al k 0,.sl es,.l []⟩
abbrev LN (es:List LT):Leaf:=⟨.nl,.sl es,.l []⟩
abbrev RI:RL:=.sc (.int .i64) dflt
abbrev RS:RL:=.sc .str dflt
abbrev RB:RL:=.sc .bool dflt
abbrev KI (i:Nat):Key:=[1000000,i]
abbrev KR (i j:Nat):Key:=[6000000,i,j]
abbrev EP (i:Nat):fC:=.ptr [1000000,i] 0 0 0
end Go.E

namespace Go.E
open Go
structure PS (Γ:Ctx) (gF:FuncId->Option (List Arg->R3 fV)) where
 l:List Fs
 g:Qr Γ gF l
def eF {Γ:Ctx} {gF:FuncId->Option (List Arg->R3 fV)} (p:PS Γ gF) (x:Fs) (fn:Func) (fi:Fi) (ls:List Ls:=[])
  (h0 : ∀ vs k,R3.bad=x.w 0 vs k:=by intros; rfl)
  (h1 : ∀ m vs k,jS Γ gF (m+1) x.f (fArgs x.a vs) k=MS Γ (jS Γ gF m) (FL Γ (jS Γ gF m) fi (Ce fn) m) x.f fn (Ce fn) (fArgs x.a vs) k:=by intros; kernel_rfl)
  (hl0:Nw (fun l=>∀ m vs k,R3.bad=l.w m 0 vs k) ls:=by repeat first | exact trivial | refine ⟨fun _ _ _=>rfl,?_⟩)
  (hl:Nw (fun l=>∀ (c:CF) (f:LF) m n vs k,agh Γ (WK m c (x::p.l)) (MV m n f ls) fi (Ce fn) l.pos (oN l.s vs) k=l.w m (n+1) vs k) ls:=by repeat first | exact trivial | refine ⟨fun _ _ _ _ _ _=>by kernel_rfl,?_⟩)
  (h2 : ∀ (c:CF) (f:LF) m vs k,MS Γ (WK m c (x::p.l)) (MV m m f ls) x.f fn (Ce fn) (fArgs x.a vs) k=x.w (m+1) vs k:=by intros; kernel_rfl):PS Γ gF:=⟨x::p.l,(fnG p.g x fn fi ls h0 h1 hl0 hl h2).1⟩
def pS {Γ:Ctx} {gF:FuncId->Option (List Arg->R3 fV)} (p:PS Γ gF) (x:Fs) (h:aa9 Γ gF x):PS Γ gF:=⟨x::p.l,UH p.g h⟩
def F1 (f:Nat) (a:List Arg) (n i:Nat) (w:Nat->Ar (Ar An i->An) n) (r:fV):Fs:=⟨f,a,fun m vs k=>ap n (w m) vs (lm i fun z=>k (Tm r z))⟩
def FN (f:Nat) (a:List Arg) (n i:Nat) (w:Nat->Ar (Ar An i->An) n) (r:List RE):Fs:=F1 f a n i w ⟨r,a.map ard,a.map fun _=>none⟩
def F2 (f:Nat) (a:List Arg) (n i j:Nat) (w:Nat->Ar (Ar An i->Ar An j->An) n) (r r':fV):Fs:=⟨f,a,fun m vs k=>ap n (w m) vs (lm i fun z=>k (Tm r z)) (lm j fun z=>k (Tm r' z))⟩
def L1 (q:List Nat) (s:Pack) (n i:Nat) (w:Nat->Nat->Ar (Ar An i->An) n) (c:G7) (p:Pack):Ls:=⟨q,s,fun m n' vs k=>ap n (w m n') vs (lm i fun z=>k c (oN p z))⟩
def L2 (q:List Nat) (s:Pack) (n i j:Nat) (w:Nat->Nat->Ar (Ar An i->Ar An j->An) n) (c:G7) (p:Pack) (d:G7) (p':Pack):Ls:=⟨q,s,fun m n' vs k=>ap n (w m n') vs (lm i fun z=>k c (oN p z)) (lm j fun z=>k d (oN p' z))⟩
def L3 (q:List Nat) (s:Pack) (n i j l:Nat) (w:Nat->Nat->Ar (Ar An i->Ar An j->Ar An l->An) n) (c:G7) (p:Pack) (d:G7) (p':Pack) (e:G7) (p'':Pack):Ls:=⟨q,s,fun m n' vs k=>ap n (w m n') vs (lm i fun z=>k c (oN p z)) (lm j fun z=>k d (oN p' z)) (lm l fun z=>k e (oN p'' z))⟩
def aQ (i x:T) (k:An):An:=cond (decide ((0:Int)<=i.int/\i.int<(x.rows.length:Int))) k .bad
def aG (x i:T) (j:Nat):T:=(x.rows.getD (Int.toNat i.int) []).getD j dflt
def uM (x i:T) (j:Nat):T:=((x.rows.getD (Int.toNat i.int) []).drop j).getD 0 dflt
def wL (x:T):T:=T.l x.rows
def aT (x:T):T:=T.i (IntKind.i64.wrap (x.int+1))
def jl (i x:T) (a b:An):An:=cond (decide (i.int<(x.rows.length:Int))) a b
theorem aS (n:Nat) (h:0<n:=by omega) : ∃ m,n=m+1:=⟨n-1,by omega⟩
theorem bD {p:Prop} {i:Decidable p} {α:Type} {a b:α} (h:p:=by first | omega | (simp <;> omega)):cond (@decide p i) a b=a:=by rw [decide_eq_true h]; rfl
theorem jX {p:Prop} {i:Decidable p} {α:Type} {a b:α} (h : ¬p:=by first | omega | (simp <;> omega)):cond (@decide p i) a b=b:=by rw [decide_eq_false h]; rfl
end Go.E

namespace Go.E
open Go Go.RowKit
mutual
def WtT:LT->T->Prop
 | .sc (.int k),d=>∃ n,d = .i n/\k.min<=n/\n<=k.max
 | .sc .bool,d=>∃ b,d = .b b
 | .sc .str,d=>∃ s,d = .s s/\s.size<9223372036854775808
 | .sc .any,d=>True
 | .sl es,d=>∃ rows,d = .l rows /\ ∀ r∈rows,FP es r
def FP:List LT->List T->Prop
 | [],ds=>ds=[]
 | e::es,ds=>∃ d r,ds=d::r/\WtT e d/\FP es r
end
mutual
theorem aJ.wt {w:World} {S:aB} : ∀ (lt:LT) {v:Value} {d:T},aJ w S lt v d->WtT lt d
 | .sc s,v,d,h=>by
  unfold aJ at h
  unfold WtT
  cases s with
  | int k=>obtain ⟨n,-,rfl,h1,h2⟩:=h; exact ⟨n,rfl,h1,h2⟩
  | bool=>obtain ⟨n,-,rfl⟩:=h; exact ⟨n,rfl⟩
  | str=>obtain ⟨n,-,rfl,h1⟩:=h; exact ⟨n,rfl,h1⟩
  | any=>trivial
 | .sl es,v,d,h=>by
  unfold aJ at h
  unfold WtT
  obtain ⟨a,cap,rows,rfl,-,-,-,h⟩:=h
  refine ⟨rows,rfl,fun r hr=>?_⟩
  rcases h with rfl | ⟨b,o,-,h⟩
  ·cases hr
  ·obtain ⟨i,hi,rfl⟩:=List.mem_iff_getElem.1 hr
   exact dK.wt es (h i hi)
theorem dK.wt {w:World} {A S:aB} : ∀ (es:List LT) {b o:Nat} {row:List T},dK w A S es b o row->FP es row
 | [],b,o,row,h=>by unfold dK at h; unfold FP; exact h
 | e::es,b,o,row,h=>by
  unfold dK at h
  unfold FP
  obtain ⟨d,rest,v,rfl,-,-,h1,h2⟩:=h
  exact ⟨d,rest,rfl,aJ.wt e h1,dK.wt es h2⟩
end
theorem aW.wt {w:World} {S:aB} : ∀ {es:List LT} {vs:List Value} {ds:List T},aW w S es vs ds->FP es ds
 | [],[],[],_=>by unfold FP; rfl
 | e::es,v::vs,d::ds,h=>by unfold FP; exact ⟨d,ds,rfl,aJ.wt e h.1,aW.wt h.2⟩
 | [],_::_,_,h=>h.elim
 | [],[],_::_,h=>h.elim
 | _::_,[],_,h=>h.elim
 | _::_,_::_,[],h=>h.elim
def Qt:List (Bool×List LT)->List (List T)->Prop
 | [],Ao=>Ao=[]
 | s::ss,Ao=>∃ ds r,Ao=ds::r/\FP s.2 ds/\Qt ss r
theorem D8.wt {P:Program} {w:World} : ∀ {ss:List (Bool×List LT)} {Ao:List (List T)} {vs:List Value},D8 P w ss Ao vs->Qt ss Ao
 | [],[],[],_=>rfl
 | s::ss,ds::Ao,v::vs,h=>by
  obtain ⟨⟨cs,-,h1⟩,h2⟩:=h
  exact ⟨ds,Ao,rfl,h1.wt,h2.wt⟩
 | [],_::_,_,h=>h.elim
 | [],[],_::_,h=>h.elim
 | _::_,[],_,h=>h.elim
 | _::_,_::_,[],h=>h.elim
theorem Tn {P:Program} (hl:laidOutB P=true) {Γ:Ctx} (hΓ:fE Γ P) {gF:FuncId->Option (List Arg->R3 fV)} (hp:aa7 Γ P gF)
  {f:FuncId} {fn:Func} {s:ChangeSpec} {ss:List (Bool×List LT)} {k tb N:Nat} (hf:(Γ.fn f).isSome=true) (hts:fn.params.toList.mapM (shapeOf P k)=some ss)
  (hrd : ∀ t∈fn.params.toList,P.readableRec t=true/\t<P.types.size) (hres:fn.resultTypes = #[tb]) (htb:P.underlying tb=some .bool) (hvars:s.vars=[])
  (hs : ∀ (H:Type) (ds:List (DataW H)),ds.length=fn.params.size->s.fn H ds = { results:=[.lit (.bool true)],args:=ds }) (hN:N<=bG)
  (hE : ∀ Ao,Qt ss Ao->(Ao.map iq).sum<=N->∃ m owns bs,jS Γ gF m f (Cc ss Ao) .ok = .ok ⟨[.one (.sc .bool (.b true))],owns,bs⟩)
  {H:Type} {enc:TypeId×Value->H} {W:World} {base:Nat} {args:Array Value} {ds gs:List (DataW H)} {before:List MemPlace}
  (hval : ∀ (j:Nat) t v,fn.params[j]? = some t->args[j]? = some v->Value.okWide P W .any base t v) (hW:DataW.Whole enc P fn.params.toList s.vars false W args.toList ds gs before) (hk:dS (ds++gs)<=N) :
  Calls P f args W fun e W'=>∃ v,e = .returned v/\s.post enc P fn false true false false W args v W':=by
 refine WC hl hts hrd hres htb hvars hs hN (fun w Ao vs hv hb=>?_) hval hW hk
 obtain ⟨m,owns,bs,h⟩:=hE Ao hv.wt hb
 refine ⟨owns,bs,?_⟩
 have h1:=af9 h
 have h2:=acE hΓ hp m f (Cc ss Ao) hf (by rw [h1]; exact fun h=>(nomatch h))
 rwa [h1] at h2
end Go.E

namespace Go.E
open Go
theorem wrap_i64 {x:Int} (h1 : -9223372036854775808<=x) (h2:x<=9223372036854775807):IntKind.i64.wrap x=x:=by
 have e64:(2:Int) ^ 64=18446744073709551616:=by decide
 have e63:(2:Int) ^ 63=9223372036854775808:=by decide
 simp only [IntKind.wrap,IntKind.bits,IntKind.signed,Bool.true_and,Nat.reduceSub,e64,e63,decide_eq_true_eq]
 split <;> omega
theorem av {α:Type} {c:Bool} (h:c=true) (a b:α):cond c a b=a:=by rw [h]; rfl
theorem aC {α:Type} {c:Bool} (h:c=false) (a b:α):cond c a b=b:=by rw [h]; rfl
theorem aK {p:Prop} {i:Decidable p} (h:p) {α:Type} (a b:α):cond (@decide p i) a b=a:=by rw [decide_eq_true h]; rfl
theorem dn {p:Prop} {i:Decidable p} (h : ¬p) {α:Type} (a b:α):cond (@decide p i) a b=b:=by rw [decide_eq_false h]; rfl
@[simp] theorem T.aj (n:Int):(T.i n).int=n:=(rfl)
@[simp] theorem T.aI (n:Bool):(T.b n).bool=n:=(rfl)
@[simp] theorem T.lJ (n:ByteArray):(T.s n).str=n:=(rfl)
@[simp] theorem T.ah (n:List (List T)):(T.l n).rows=n:=(rfl)
theorem arf {α:Type} (f:α->List T) (pre:List α) (x:α) (post:List α):(((pre++x::post).map f).getD (Int.toNat (pre.length:Int)) [])=f x:=by
 simp [List.getD]
theorem acN {α:Type} (pre:List α) (x:α) (h:pre.length<4611686018427387904):IntKind.i64.wrap ((pre.length:Int)+1)=((pre++[x]).length:Int):=by
 rw [wrap_i64 (by omega) (by omega)]; simp
theorem rz (a:ByteArray):a.size=a.data.toList.length:=by cases a; simp [ByteArray.size]
end Go.E

