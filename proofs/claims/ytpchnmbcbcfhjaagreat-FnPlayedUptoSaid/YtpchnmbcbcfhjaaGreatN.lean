/- A part of the proof: texts QN1, QN2, QN3, QN4, QN5, QN6, QN7, QN8: see the last part's opening words. -/
import Derived.Test.YtpchnmbcbcfhjaaGreatK
set_option linter.unusedVariables false
set_option linter.unusedSimpArgs false
set_option linter.unnecessarySimpa false
namespace Go.Proofs.YtpchnmbcbcfhjaaGreat
open Go Go.E Go.Proofs
theorem XF {α:Type} {P:List α->Prop} (h0:P []) (h1 : ∀ l x,P l->P (l++[x])) (l:List α):P l:=by
 rw [<-List.reverse_reverse l]
 induction l.reverse with
 | nil=>exact h0
 | cons x l ih=>rw [List.reverse_cons]; exact h1 _ _ ih
def KY (tx:Int) (l:List bq):Option Int:=l.foldl (fun a r=>if r.tx=tx then some r.kind else a) none
theorem Jg (tx:Int) (l:List bq) (r:bq):KY tx (l++[r])=if r.tx=tx then some r.kind else KY tx l:=by simp [KY]
theorem Vw (tx:Int) (l:List bq) (r:bq) : ∀ i,i<=l.length->qP tx (l++[r]) i=qP tx l i
 | 0,_=>rfl
 | i+1,h=>by
  have e:(l++[r]).getD i default=l.getD i default:=by simp [List.getD,List.getElem?_append_left (show i<l.length by omega)]
  unfold qP
  rw [e,Vw tx l r i (by omega)]
theorem aia (tx:Int) : ∀ l:List bq,KY tx l=(qP tx l l.length).map fun j=>(l.getD j default).kind:=XF rfl fun l r ih=>by
 rw [Jg,List.length_append,List.length_singleton]
 unfold qP
 have e:(l++[r]).getD l.length default=r:=by simp [List.getD]
 rw [e,Vw tx l r l.length (Nat.le_refl _)]
 by_cases h:r.tx=tx
 ·rw [if_pos h,if_pos h]; simp [List.getD]
 ·rw [if_neg h,if_neg h,ih]
  cases hj:qP tx l l.length with
  | none=>rfl
  | some j =>
   have:=(wz hj).1
   simp [List.getD,List.getElem?_append_left this]
theorem aib (tx:Int) : ∀ l:List bq,(KY tx l=none->l.foldl (Ad tx) 2=2)/\(KY tx l=some 2->l.foldl (Ad tx) 2=3)/\(KY tx l=some 3->l.foldl (Ad tx) 2=4):=XF ⟨fun _=>rfl,nofun,nofun⟩ fun l r ih=>by
 rw [Jg,List.foldl_append]
 simp only [List.foldl_cons,List.foldl_nil]
 unfold Ad
 by_cases h:r.tx=tx
 ·rw [if_pos h,if_pos h]
  refine ⟨nofun,fun h2=>?_,fun h2=>?_⟩
  ·cases h2':r.kind==2 <;> simp_all
  ·have:r.kind=3:=by simpa using h2
   simp [this]
 ·rw [if_neg h,if_neg h]; exact ih
def Sw (l:List bq) (s:St):Prop:=∀ tx,(∀ h∈s.held,h.tx≠tx)->∀ k,KY tx l=some k->k=2\/k=3
theorem ae2 {l:List bq} {s s':St} {r:bq} (h:Sw l s) (hs:Step s r s'):Sw (l++[r]) s':=by
 intro tx hh k hk
 rw [Jg] at hk
 cases hs with
 | hold k1 _ _ _ e =>
  subst e
  have h1:r.tx≠tx:=hh r (by simp)
  rw [if_neg h1] at hk
  exact h tx (fun q hq=>hh q (by simp [hq])) k hk
 | gone k1 _ _ e =>
  subst e
  by_cases h1:r.tx=tx
  ·rw [if_pos h1] at hk; cases hk; exact .inr k1
  ·rw [if_neg h1] at hk; exact h tx hh k hk
 | done j k1 h0 _ e =>
  subst e
  by_cases h1:r.tx=tx
  ·rw [if_pos h1] at hk; cases hk; exact k1
  ·rw [if_neg h1] at hk
   refine h tx (fun q hq=>?_) k hk
   obtain ⟨pre,x,post,e1,e2,e3,e4,e5⟩:=qj s.held (vE h0)
   have hx:x.tx=r.tx:=by rw [<-e3]; exact Dc h0
   rw [e1] at hq
   rcases List.mem_append.1 hq with hq | hq
   ·exact hh q (by simp [e4,hq])
   ·rcases List.mem_cons.1 hq with rfl | hq
    ·rw [hx]; exact h1
    ·exact hh q (by simp [e5,hq])
theorem adO : ∀ (l2 l1:List bq) (s1 s:St),Sw l1 s1->eu s1 l2=some s->Sw (l1++l2) s
 | [],l1,s1,s,h,e=>by
  unfold eu at e; cases e; simpa using h
 | r::l2,l1,s1,s,h,e=>by
  unfold eu at e
  split at e
  ·rename_i h1
   have:=adO l2 (l1++[r]) _ s (ae2 h (GA h1).2) e
   simpa using this
  ·cases e
theorem ajE {l:List bq} {s:St} (h:cZ l=some s):Sw l s:=by
 have:=adO l [] st0 s (fun tx _ k hk=>by cases hk) h
 simpa using this
theorem XG (s:aH):bJ (T.l [s.r])=s.r:=rfl
theorem sd1 (s:aH):(s.r.drop 1).getD 0 dflt = .l (rR s.log):=rfl
theorem sd3 (s:aH):(s.r.drop 3).getD 0 dflt = .l (rP s.map):=rfl
theorem sd4 (s:aH):(s.r.drop 4).getD 0 dflt = .l (rR s.held):=rfl
theorem ajF {tx:Int} {l:List bq} (hd:l.Pairwise fun a b=>a.tx≠b.tx):Om tx l=atI tx l:=by
 unfold Om atI; rw [XB hd]; cases pU tx l <;> rfl
theorem Nn {m:Nat} (hm:1048600<=m) (s:aH) (tx:Int) (h1:s.log.length<=1048576) (h2:s.held.length<=1048576) {seen:List Int} (hr:cZ s.log=some ⟨s.map,s.held,seen⟩) (K:T->An) :
  jH m (.l [s.r]) (.i tx) K=K (.i (bX s tx)):=by
 obtain ⟨m,rfl⟩:=aS m
 have hi:=rinv hr
 simp only [jH,XG,sd1,sd4,T.ah,aQ]
 rw [Di (by omega) s.log tx h1,Di (by omega) s.held tx h2]
 simp only [T.aj]
 have hh:=XB (tx:=tx) hi.dist
 unfold bX
 rw [<-hh]
 cases c1:qP tx s.held s.held.length with
 | some j=>rw [aK (by unfold Om; rw [c1]; simp)]; rfl
 | none =>
  rw [dn (by unfold Om; rw [c1]; simp)]
  simp only [Option.isSome_none,Bool.false_eq_true,if_false]
  have hk:=aia tx s.log
  have hL:=ajE hr tx (fun h hm=>(Sj (tx:=tx)).1 c1 h hm)
  obtain ⟨o1,o2,o3⟩:=aib tx s.log
  cases c2:qP tx s.log s.log.length with
  | none =>
   rw [c2] at hk
   rw [aK (by unfold Om; rw [c2]; simp),o1 hk]
  | some j =>
   rw [c2] at hk
   have hj:=(wz c2).1
   have e:Om tx s.log=(j:Int):=by unfold Om; rw [c2]
   rw [e,jX,bD,Int.toNat_natCast,XA s.log hj,r0]
   simp only [T.aj]
   have hk':KY tx s.log=some (s.log.getD j default).kind:=hk
   rcases hL _ hk' with h | h
   ·rw [av (by rw [h]; rfl),o2 (by rw [hk',h])]
   ·rw [aC (by rw [h]; rfl),o3 (by rw [hk',h])]
theorem Sy (m:Nat) (s:aH) (x1:T) : ∀ (post pre:List bq) (acc:Nat),pre.length+post.length<=1048576->(∀ r∈post,r.ops.length<=1048576)->acc+post.length * 1048576<=4611686018427387->∀ n,post.length<n->∀ k0,
  gZ m n (.l [s.r]) x1 (.i (acc:Int)) (.l (rR (pre++post))) (.i ((pre++post).length:Nat)) (.i pre.length) k0=k0 (.l [s.r]) x1 (.i ((acc+oJ post:Nat):Int))
 | [],pre,acc,hs,ho,ha,n,hn,k0=>by
  obtain ⟨n,rfl⟩:=aS n
  simp only [gZ,T.aj,T.ah,aG,aQ,aT]
  rw [jX]
  rfl
 | x::post,pre,acc,hs,ho,ha,n,hn,k0=>by
  obtain ⟨n,rfl⟩:=aS n
  simp only [List.length_cons] at hs hn ha
  have hx:=ho x (by simp)
  have ih:=Sy m s x1 post (pre++[x]) (acc+x.ops.length) (by simp; omega) (fun r hr=>ho r (by simp [hr])) (by omega) n (by omega) k0
  rw [aF,List.append_assoc,List.singleton_append] at ih
  have ew:IntKind.i64.wrap ((acc:Int)+((rO x.ops).length:Int))=((acc+x.ops.length:Nat):Int):=by rw [lH,wrap_i64 (by omega) (by omega)]; omega
  simp only [gZ,T.aj,T.ah,T9,bE pre (by omega),r2,ew,XG,aG,aQ,aT]
  rw [bD,bD,ih]
  congr 2
  simp only [oJ,List.map_cons,List.sum_cons]
  congr 1
  omega
def aic (s:aH) (ops:List eT):Bool:=!iH s.held ops&&lS s.map ops&&decide (F5 s ops<=60)&&decide (s.log.length+s.held.length+2<=300)
theorem aie {m:Nat} (hm:3200020<=m) (s:aH) (hs:xX s) (ops:List eT) (ho:ops.length<=1048576) (K:T->An) :
  tF m (.l [s.r]) (.l (rO ops)) K=K (.b (aic s ops)):=by
 obtain ⟨m,rfl⟩:=aS m
 have h1:=hs.vK
 have h2:=hs.BH
 have h3:=hs.map
 have hr : ∀ r∈s.held,r.ops.length<=1048576:=fun r hr=>by have:=(hs.held r hr).1; omega
 have ew:IntKind.i64.wrap (((rP s.map).length:Int)+((rO ops).length:Int))=((s.map.length+ops.length:Nat):Int):=by rw [lH,uw,wrap_i64 (by omega) (by omega)]; omega
 have ew2:IntKind.i64.wrap (IntKind.i64.wrap (((rR s.log).length:Int)+((rR s.held).length:Int))+2)=((s.log.length+s.held.length+2:Nat):Int):=by
  have e0:IntKind.i64.wrap ((s.log.length:Int)+(s.held.length:Int))=(s.log.length:Int)+(s.held.length:Int):=wrap_i64 (by omega) (by omega)
  rw [eU,eU,e0,wrap_i64 (by omega) (by omega)]; omega
 simp only [tF,XG,sd1,sd3,sd4,T.ah,ew,wL]
 rw [show (T.i ((rR s.held).length:Int))=T.i ((([]:List bq)++s.held).length:Nat) by simp]
 refine (Sy m s (.l (rO ops)) s.held [] (s.map.length+ops.length) (by simp; omega) hr (by omega) m (by omega) _).trans ?_
 simp only [XG,sd1,sd3,sd4,T.ah]
 rw [Ni (by omega) s.held ops (by omega) hr ho]
 simp only [T.aI]
 unfold aic F5
 cases c4:iH s.held ops with
 | true=>rfl
 | false =>
  rw [av (by rfl),Vm (by omega) s.map ops (by omega) ho]
  simp only [T.aI]
  cases c5:lS s.map ops with
  | false=>rfl
  | true =>
   rw [av (by rfl)]
   simp only [T.aj,ew2]
   by_cases c6:s.map.length+ops.length+oJ s.held<=60
   ·rw [av (by simp; omega),decide_eq_true c6]
    generalize s.log.length+s.held.length+2=q
    rw [show decide (((q:Nat):Int)<=300)=decide (q<=300) from decide_eq_decide.2 (by omega)]
    rfl
   ·rw [aC (by simp; omega),decide_eq_false c6]
    rfl
theorem aif {m:Nat} (hm:2<=m) (tx:Int) (K:T->An):mh m (.i tx) K=K (.b (decide (1<=tx/\tx<=1000000))):=by
 obtain ⟨m,rfl⟩:=aS m
 simp only [mh]
 rw [fK (by omega)]
theorem ab0 {s:aH} {tx:Int} {ops:List eT} (h1:1<=tx/\tx<=1000000) (h2:gL ops=true) (h3:iH s.held ops=false) (h4:lS s.map ops=true) :
  nA s ⟨1,tx,ops⟩ = { s with log:=s.log++[⟨1,tx,ops⟩],held:=s.held++[⟨1,tx,ops⟩] }:=by
 have e:kE ⟨s.map,s.held,[]⟩ ⟨1,tx,ops⟩=(true,⟨s.map,s.held++[⟨1,tx,ops⟩],[]++[tx]⟩):=by
  have:kD ⟨1,tx,ops⟩=true:=by unfold kD; simp [h1,h2]
  unfold kE
  simp [this,h3,h4]
 unfold nA
 rw [e]
theorem aii {m:Nat} (hm:3200030<=m) (s:aH) (hs:xX s) {seen:List Int} (hr:cZ s.log=some ⟨s.map,s.held,seen⟩) (tx:Int) (ops:List eT) (ho:oL ops) (J:T->T->T->T->T->T->An) :
  tH m (.i s.id) (.l (rR s.log)) (.i s.sure) (.l (rP s.map)) (.l (rR s.held)) (.i tx) (.l (rO ops)) J =
   J (.i (nY s tx ops).1) (.i s.id) (.l (rR (nY s tx ops).2.log)) (.i s.sure) (.l (rP (nY s tx ops).2.map)) (.l (rR (nY s tx ops).2.held)):=by
 obtain ⟨m,rfl⟩:=aS m
 have h1:=hs.vK
 have h2:=hs.BH
 have hl:=ho.1
 simp only [tH,jn,T.ah,wL]
 rw [aif (by omega)]
 simp only [T.aI]
 unfold nY
 cases c1:decide (1<=tx/\tx<=1000000) with
 | false=>simp
 | true =>
  rw [av (by rfl),wm (by omega) ops ho]
  simp only [T.aI]
  cases c2:gL ops with
  | false=>simp
  | true =>
   simp only [Bool.not_true,cond_false,Bool.true_eq_false,false_or,if_false]
   have eo:=Nn (m:=m) (by omega) s tx (by omega) (by omega) hr
   refine (eo _).trans ?_
   simp only [T.aj]
   by_cases c3:bX s tx=2
   ·rw [aC (by simp [c3]),if_neg (by simp [c3])]
    refine (aie (m:=m) (by omega) s hs ops (by omega) _).trans ?_
    simp only [T.aI]
    unfold aic
    by_cases c4:iH s.held ops=true\/lS s.map ops=false\/60<F5 s ops\/300<s.log.length+s.held.length+2
    ·rw [if_pos c4,av]
     rcases c4 with h | h | h | h
     ·simp [h]
     ·simp [h]
     ·simp [show ¬ F5 s ops<=60 by omega]
     ·simp [show ¬ s.log.length+s.held.length+2<=300 by omega]
    ·rw [if_neg c4]
     have d1:iH s.held ops=false:=by simpa using fun h=>c4 (.inl h)
     have d2:lS s.map ops=true:=by simpa using fun h=>c4 (.inr (.inl h))
     have d3:F5 s ops<=60:=by have:=fun h=>c4 (.inr (.inr (.inl h))); omega
     have d4:s.log.length+s.held.length+2<=300:=by have:=fun h=>c4 (.inr (.inr (.inr h))); omega
     rw [aC (by simp [d1,d2,d3,d4]),qQ (by omega) ops hl]
     simp only [T.ah]
     rw [aK (by rw [eU]; unfold ak; omega),qQ (by omega) ops hl]
     simp only [T.ah]
     rw [aK (by rw [eU]; unfold ak; omega),ab0 (of_decide_eq_true c1) c2 d1 d2]
     congr 2
     ·simp [bq.r]
     ·simp [bq.r]
   ·rw [av (by simpa using c3),if_pos c3]
theorem adP (s:aH) (k tx:Int) (hk:k=2\/k=3) (h1:1<=tx/\tx<=1000000):nA s ⟨k,tx,[]⟩=match pU tx s.held with
  | none=>{ s with log:=s.log++[⟨k,tx,[]⟩] }
  | some j=>{ s with log:=s.log++[⟨k,tx,[]⟩],map:=if k=2 then sH s.map (s.held.getD j default).ops else s.map,held:=s.held.take j++s.held.drop (j+1) }:=by
 have e0:kD ⟨k,tx,[]⟩=true:=by unfold kD; rcases hk with rfl | rfl <;> simp [h1]
 have e1 : ¬ k=1:=by rcases hk with rfl | rfl <;> omega
 unfold nA kE
 simp only [e0,Bool.true_eq_false,if_false,e1]
 cases pU tx s.held <;> rfl
theorem ab1 {m:Nat} (hm:3200030<=m) (s:aH) (hs:xX s) {seen:List Int} (hr:cZ s.log=some ⟨s.map,s.held,seen⟩) (tx:Int) (yes:Bool) (J:T->T->T->T->T->T->An) :
  qg m (.i s.id) (.l (rR s.log)) (.i s.sure) (.l (rP s.map)) (.l (rR s.held)) (.i tx) (.b yes) J (fun a _ b c d e f=>J a b c d e f) =
   J (.b (lT s tx yes).1) (.i s.id) (.l (rR (lT s tx yes).2.log)) (.i s.sure) (.l (rP (lT s tx yes).2.map)) (.l (rR (lT s tx yes).2.held)):=by
 obtain ⟨m,rfl⟩:=aS m
 have h1:=hs.vK
 have h2:=hs.BH
 have h3:=hs.map
 have hi:=rinv hr
 simp only [qg,jn,T.ah,aG,aQ,wL,aT]
 rw [aif (by omega)]
 simp only [T.aI]
 unfold lT
 cases c1:decide (1<=tx/\tx<=1000000) with
 | false=>simp
 | true =>
  have ht:=of_decide_eq_true c1
  simp only [Bool.not_true,cond_false,Bool.true_eq_false,if_false]
  have hat:=ajF (tx:=tx) hi.dist
  have hsn:rR s.log++[[T.i (if yes then 2 else 3),T.i tx,T.l []]]=rR (s.log++[⟨if yes then 2 else 3,tx,[]⟩]):=by simp [bq.r]
  have ew:IntKind.i64.wrap (((rR s.log).length:Int)+((rR s.held).length:Int))=((s.log.length+s.held.length:Nat):Int):=by
   rw [eU,eU,wrap_i64 (by omega) (by omega)]; omega
  have body : ∀ k:Int,(k=if yes then 2 else 3)->o9 m (T.l (rR s.held)) (.i tx) (fun y2=>jH m (T.l [s.r]) (.i tx) (fun y3=>cond (y3.int==1)
    (cond yes
     (cond (decide ((0:Int)<=y2.int/\y2.int<((rR s.held).length:Int)))
      (cond (decide ((Int.toNat y2.int)<(rR s.held).length))
       (vZ m (T.l (rP s.map)) (T.l (((rR s.held).getD (Int.toNat y2.int) []).getD 2 dflt).rows)
        (fun y4=>aX m (T.l (rR s.held)) y2 (T.i (IntKind.i64.wrap (y2.int+1)))
         (fun y5=>cond (decide (((rR s.log).length+1) * 3<=ak))
          (J (T.b true) (.i s.id) (T.l (rR s.log++[[.i k,.i tx,(T.l [])]])) (.i s.sure) (T.l y4.rows) (T.l y5.rows)) (.bad))))
       (.bad)) (.bad))
     (aX m (T.l (rR s.held)) y2 (T.i (IntKind.i64.wrap (y2.int+1)))
      (fun y6=>cond (decide (((rR s.log).length+1) * 3<=ak))
       (J (T.b true) (.i s.id) (T.l (rR s.log++[[.i k,.i tx,(T.l [])]])) (.i s.sure) (T.l (rP s.map)) (T.l y6.rows)) (.bad))))
    (cond (y3.int==3) (J (.b yes) (.i s.id) (T.l (rR s.log)) (.i s.sure) (T.l (rP s.map)) (T.l (rR s.held)))
     (cond (y3.int==4) (J (T.b (!yes)) (.i s.id) (T.l (rR s.log)) (.i s.sure) (T.l (rP s.map)) (T.l (rR s.held)))
      (cond (yes==false)
       (cond (decide ((IntKind.i64.wrap (((rR s.log).length:Int)+((rR s.held).length:Int)))>=300))
        (J (T.b false) (.i s.id) (T.l (rR s.log)) (.i s.sure) (T.l (rP s.map)) (T.l (rR s.held)))
        (cond (decide (((rR s.log).length+1) * 3<=ak)) (J (T.b true) (.i s.id) (T.l (rR s.log++[[.i k,.i tx,(T.l [])]])) (.i s.sure) (T.l (rP s.map)) (T.l (rR s.held))) (.bad)))
       (J (T.b false) (.i s.id) (T.l (rR s.log)) (.i s.sure) (T.l (rP s.map)) (T.l (rR s.held)))))))) =
    (fun q:Bool×aH=>J (.b q.1) (.i s.id) (.l (rR q.2.log)) (.i s.sure) (.l (rP q.2.map)) (.l (rR q.2.held))) (if bX s tx=1 then (true,nA s ⟨if yes then 2 else 3,tx,[]⟩)
 else if bX s tx=3 then (yes,s)
 else if bX s tx=4 then (!yes,s)
 else if yes=true\/300<=s.log.length+s.held.length then (false,s)
 else (true,nA s ⟨3,tx,[]⟩)):=by
   intro k hk
   rw [Di (by omega) s.held tx (by omega),hat,Nn (by omega) s tx (by omega) (by omega) hr,ew,hk,hsn]
   simp only [T.aj]
   have dl:decide (((rR s.log).length+1) * 3<=ak)=true:=decide_eq_true (by rw [eU]; unfold ak; omega)
   simp only [dl,cond_true]
   by_cases o1:bX s tx=1
   ·rw [av (by simpa using o1),if_pos o1,adP s _ tx (by cases yes <;> simp) ht]
    unfold atI
    cases hf:pU tx s.held with
    | none =>
     exfalso
     unfold bX at o1
     rw [hf] at o1
     simp only [Option.isSome_none,Bool.false_eq_true,if_false] at o1
     have : ∀ l:List bq,l.foldl (Ad tx) 2=2\/l.foldl (Ad tx) 2=3\/l.foldl (Ad tx) 2=4:=XF (.inl rfl) fun l r ih=>by
      rw [List.foldl_append]
      simp only [List.foldl_cons,List.foldl_nil]
      unfold Ad
      split
      ·split
       ·exact .inr (.inl rfl)
       ·split
        ·exact .inr (.inr rfl)
        ·exact ih
      ·exact ih
     have:=this s.log
     omega
    | some j =>
     have hj:=vE hf
     have hw:IntKind.i64.wrap ((j:Int)+1)=(j:Int)+1:=wrap_i64 (by omega) (by omega)
     simp only [hw]
     cases yes with
     | true =>
      have hsz:=hi.held _ (ze hj)
      have ho:=(hs.held _ (ze hj)).1
      rw [cond_true,bD,bD,Int.toNat_natCast,XA s.held hj,r2]
      simp only [T.ah]
      rw [Vn (by omega) s.map _ (by omega),XC (by omega) s.held j hj]
      rfl
     | false =>
      rw [cond_false,XC (by omega) s.held j hj]
      rfl
   ·rw [aC (by simpa using o1),if_neg o1]
    by_cases o3:bX s tx=3
    ·rw [av (by simpa using o3),if_pos o3]
    ·rw [aC (by simpa using o3),if_neg o3]
     by_cases o4:bX s tx=4
     ·rw [av (by simpa using o4),if_pos o4]
     ·rw [aC (by simpa using o4),if_neg o4]
      cases yes with
      | true=>simp
      | false =>
       by_cases c7:300<=s.log.length+s.held.length
       ·rw [av (by rfl),bD,if_pos (.inr c7)]
       ·rw [av (by rfl),jX,if_neg (show ¬(false=true\/300<=s.log.length+s.held.length) by simp; omega),adP s 3 tx (.inr rfl) ht]
        have:pU tx s.held=none:=by
         cases hf:pU tx s.held with
         | none=>rfl
         | some j=>exact absurd (by unfold bX; rw [hf]; rfl) o1
        rw [this]
        rfl
  cases yes with
  | true=>exact body 2 rfl
  | false=>exact body 3 rfl
end Go.Proofs.YtpchnmbcbcfhjaaGreat

namespace Go.Proofs.YtpchnmbcbcfhjaaGreat
open Go Go.E Go.Proofs
theorem ae3 {l:List Int} {s:Int} (hl:l.Pairwise (· < ·)) (hs:s ∉ l):(l++[s]).mergeSort (fun x y=>decide (x<=y))=sV l s:=by
 have hp:=List.pairwise_mergeSort (le:=fun x y:Int=>decide (x<=y)) (by intro a b c h1 h2; simp at *; omega) (by intro a b; simp; omega) (l++[s])
 have hperm:=List.mergeSort_perm (l++[s]) fun x y=>decide (x<=y)
 have hnd:(l++[s]).Nodup:=by
  rw [List.nodup_append]
  refine ⟨hl.imp fun h=>by omega,by simp,fun a ha b hb=>?_⟩
  rw [List.mem_singleton] at hb
  subst hb
  intro e; subst e; exact hs ha
 have afK:=hperm.nodup_iff.2 hnd
 have hlt:((l++[s]).mergeSort fun x y=>decide (x<=y)).Pairwise (· < ·):=by
  have:=List.Pairwise.and hp afK
  exact this.imp fun {a b} h=>by
   have h1:a<=b:=of_decide_eq_true h.1
   have h2:a≠b:=h.2
   omega
 refine IW hlt (F3 l s hl) fun x=>?_
 rw [hperm.mem_iff,Rq]
 simp [or_comm]
def Z8 (tx:Int):List dN->Option Nat
 | []=>none
 | r::l=>if r.tx=tx/\r.state=1 then some 0 else (Z8 tx l).map (· + 1)
theorem Z9 {tx:Int} : ∀ {l:List dN},(l.Pairwise fun a b=>a.tx<b.tx)->Z8 tx l=(match xG tx l with | some k=>if (l.getD k default).state=1 then some k else none | none=>none)
 | [],_=>rfl
 | r::l,h=>by
  rw [List.pairwise_cons] at h
  have ih:=Z9 (tx:=tx) h.2
  unfold Z8 xG
  by_cases h1:r.tx=tx
  ·rw [if_pos h1]
   have hn:xG tx l=none:=by
    cases hf:xG tx l with
    | none=>rfl
    | some k =>
     exfalso
     have : ∀ {l:List dN} {j:Nat},xG tx l=some j->∃ q∈l,q.tx=tx:=by
      intro l
      induction l with
      | nil=>intro j h; cases h
      | cons x l ih =>
       intro j h
       unfold xG at h
       split at h
       ·exact ⟨x,by simp,by assumption⟩
       ·cases h2:xG tx l with
        | none=>rw [h2] at h; cases h
        | some i=>obtain ⟨q,hq,e⟩:=ih h2; exact ⟨q,by simp [hq],e⟩
     obtain ⟨q,hq,e⟩:=this hf
     have:=h.1 q hq
     omega
   rw [hn] at ih
   by_cases h2:r.state=1
   ·rw [if_pos ⟨h1,h2⟩]; simp [List.getD,h2]
   ·rw [if_neg (fun q=>h2 q.2),ih]; simp [List.getD,h2]
  ·rw [if_neg (fun q=>h1 q.1),if_neg h1,ih]
   cases xG tx l with
   | none=>rfl
   | some k =>
    simp only [Option.map_some,List.getD_cons_succ]
    split <;> rfl
theorem Vx (m:Nat) (hm:2<=m) (tx:Int) : ∀ (post pre:List dN),pre.length+post.length<=1048576->∀ n,post.length<n->∀ k0 k1,
  bF m n (.l (rJ (pre++post))) (.l [[.i tx]]) (.i ((pre++post).length:Nat)) (.i pre.length) k0 k1=(match Z8 tx post with | some j=>k0 (.i ((pre.length+j:Nat):Int)) | none=>k1)
 | [],pre,hs,n,hn,k0,k1=>by
  obtain ⟨n,rfl⟩:=aS n
  simp only [bF,T.aj,T.ah,aG,aQ,wL,aT]
  rw [jX]
  rfl
 | x::post,pre,hs,n,hn,k0,k1=>by
  obtain ⟨n,rfl⟩:=aS n
  simp only [List.length_cons] at hs hn
  have ih:=Vx m hm tx post (pre++[x]) (by simp; omega) n (by omega) k0 k1
  rw [aF,List.append_assoc,List.singleton_append] at ih
  have r1:bJ (.l [[T.i tx]])=[T.i tx]:=rfl
  have hv : ∀ (K:T->An),qh m (.i x.tx) (.l (rO x.ops)) (.i x.state) (.l (ir x.yes)) (.l [[.i tx]]) K=K (.b (decide (x.tx=tx/\x.state=1))):=by
   intro K
   obtain ⟨m,rfl⟩:=aS m
   simp only [qh,r1,List.getD_cons_zero,T.aj]
   by_cases h1:x.tx=tx
   ·rw [av (by simp [h1])]
    congr 2
    by_cases h2:x.state=1 <;> simp [h1,h2]
   ·rw [aC (by simp [h1]),decide_eq_false (fun q=>h1 q.1)]
  simp only [bF,T.aj,T.ah,ixJ,bE pre (by omega),j0,j1,j2,j3,r1,aG,aQ,wL,aT]
  rw [bD,bD,hv]
  simp only [T.aI]
  unfold Z8
  by_cases h:x.tx=tx/\x.state=1
  ·rw [decide_eq_true h,if_pos h]; rfl
  ·rw [decide_eq_false h,if_neg h,cond_false]
   refine Eq.trans ih ?_
   cases Z8 tx post with
   | none=>rfl
   | some j=>simp only [Option.map_some]; congr 3; simp; omega
theorem ajG {m:Nat} (hm:1048590<=m) (jobs:List dN) (tx:Int) (hl:jobs.length<=1048576) (K:T->An) :
  dJ m (.l (rJ jobs)) (.l [[.i tx]]) K=K (.i (match Z8 tx jobs with | some k=>(k:Int) | none=>-1)):=by
 obtain ⟨m,rfl⟩:=aS m
 have r2:bJ (.l [[T.i tx]])=[T.i tx]:=rfl
 simp only [dJ,T.ah,r2,wL]
 rw [show (T.i ((rJ jobs).length:Int))=T.i ((([]:List dN)++jobs).length:Nat) by simp]
 refine (Vx m (by omega) tx jobs [] (by simp; omega) m (by omega) _ _).trans ?_
 cases Z8 tx jobs <;> simp
theorem jh0 (x:dN):x.r.headD dflt = .i x.tx:=rfl
theorem jh1 (x:dN):x.r.tail.headD dflt = .l (rO x.ops):=rfl
theorem jh2 (x:dN):x.r.tail.tail.headD dflt = .i x.state:=rfl
theorem jh3 (x:dN):x.r.tail.tail.tail.headD dflt = .l (ir x.yes):=rfl
theorem aij {m:Nat} (hm:1050200<=m) (c:dW) (h:uy c) (hd:c.jobs.Pairwise fun a b=>a.tx<b.tx) (hy : ∀ j∈c.jobs,j.yes.Pairwise (· < ·)) (s tx:Int) (yes:Bool) (K:T->T->T->T->T->T->An) :
  tL m (.i c.n) (.i c.life) (.i c.next) (.l (rJ c.jobs)) (.l (rC c.log)) (.i c.sure) (.i s) (.i tx) (.b yes) K =
   (fun q:dW=>K (.i q.n) (.i q.life) (.i q.next) (.l (rJ q.jobs)) (.l (rC q.log)) (.i q.sure)) (F6 c s tx yes):=by
 obtain ⟨m,rfl⟩:=aS m
 have h1:=h.Au
 have h2:=h.vK
 simp only [tL,jn,T.ah,aG,aQ,wL]
 rw [ajG (by omega) c.jobs tx (by omega),Z9 hd]
 simp only [T.aj]
 unfold F6
 cases hf:xG tx c.jobs with
 | none=>simp
 | some k =>
  obtain ⟨pre,x,post,e1,rfl,e3,e4,e5⟩:=qj c.jobs (OM hf)
  obtain ⟨b1,b2,b3⟩:=h.jobs x (by rw [e1]; simp)
  have hyx:=hy x (by rw [e1]; simp)
  have hpl:pre.length+post.length+1<=10000:=by rw [e1] at h1; simp at h1; omega
  simp only [e3,e4,e5]
  by_cases g1:x.state=1
  ·rw [if_pos g1]
   simp only []
   rw [av (by simp)]
   by_cases g2:1000<=c.log.length
   ·rw [aK (by rw [iG]; omega),if_pos (.inr g2)]
   ·rw [dn (by rw [iG]; omega),if_neg (by simp [g1]; omega)]
    have hB:decide ((0:Int)<=(pre.length:Int)/\(pre.length:Int)<((rJ c.jobs).length:Int))=true:=decide_eq_true (by rw [e1]; simp; omega)
    have hB2 : ∀ y:dN,decide (Int.toNat (pre.length:Int)<(rJ (pre++y::post)).length)=true:=fun y=>decide_eq_true (by simp)
    have hB4:Nat.beq (Int.toNat (pre.length:Int)) (Int.toNat (pre.length:Int))=true:=Nat.beq_refl _
    have s1:=kC x.ops c.n
    have e6 : ∀ l:List Int,[T.i x.tx,T.l (rO x.ops),T.i x.state,T.l (ir l)]=dN.r { x with yes:=l }:=fun _=>rfl
    have e7:x.r.set 2 (T.i 3)=dN.r { x with state:=3 }:=rfl
    have e8 : ∀ l:List Int,(dN.r { x with yes:=l }).set 2 (T.i 2)=dN.r { x with yes:=l,state:=2 }:=fun _=>rfl
    have e9 : ∀ l:List Int,ir l++[[T.i s]]=ir (l++[s]):=fun l=>by simp [ir,lg]
    have dl:decide (((rC c.log).length+1) * 2<=ak)=true:=decide_eq_true (by rw [iG]; unfold ak; omega)
    have dl2:decide (((ir x.yes).length+1) * 1<=ak)=true:=decide_eq_true (by rw [d9]; unfold ak; omega)
    simp only [hB,cond_true,dl]
    rw [e1]
    simp only [hB2,hB4,cond_true,ixJ,j1,j3,jh0,jh1,jh2,jh3,T.ah,e6,e9,F7,dl2]
    rw [Ac (by omega) x.ops c.n b1]
    simp only [T.ah]
    rw [BG (by omega) (bg x.ops c.n) s (by omega)]
    simp only [T.aI]
    by_cases g3:s∈bg x.ops c.n
    ·rw [decide_eq_true g3,if_neg (by simp [g3])]
     simp only [Bool.not_true,cond_false]
     cases yes with
     | false =>
      simp only [Bool.not_false,cond_true,if_true]
      rw [e7,F7,ZB]
     | true =>
      simp only [Bool.not_true,cond_false,Bool.true_eq_false,if_false]
      rw [BG (by omega) x.yes s (by omega)]
      simp only [T.aI]
      have tail : ∀ l:List Int,cond (((ir l).length:Int)==((ir (bg x.ops c.n)).length:Int)) (K (.i c.n) (.i c.life) (.i c.next) (T.l (rJ (pre ++ { x with yes:=l,state:=2 } :: post))) (T.l (rC (c.log++[⟨tx,true⟩]))) (.i c.sure))
        (K (.i c.n) (.i c.life) (.i c.next) (T.l (rJ (pre ++ { x with yes:=l } :: post))) (T.l (rC c.log)) (.i c.sure)) =
        (fun q:dW=>K (.i q.n) (.i q.life) (.i q.next) (.l (rJ q.jobs)) (.l (rC q.log)) (.i q.sure)) (if l.length=(bg x.ops c.n).length then { c with jobs:=pre ++ { x with yes:=l,state:=2 } :: post,log:=c.log++[⟨tx,true⟩] }
         else { c with jobs:=pre ++ { x with yes:=l } :: post }):=by
       intro l
       rw [d9,d9]
       by_cases g4:l.length=(bg x.ops c.n).length
       ·rw [av (by simp [g4]),if_pos g4]
       ·rw [aC (by simp; omega),if_neg g4]
      by_cases g5:s∈x.yes
      ·rw [decide_eq_true g5]
       simp only [Bool.not_true,cond_false]
       have ep:sV x.yes s=x.yes:=by unfold sV; rw [if_pos g5]
       rw [ep]
       refine Eq.trans ?_ (tail x.yes)
       try simp only [hB2,cond_true,ixJ,j3,T.ah]
       have e8':x.r.set 2 (T.i 2)=dN.r { x with yes:=x.yes,state:=2 }:=rfl
       rw [e8',F7,ZB]
      ·rw [decide_eq_false g5]
       simp only [Bool.not_false,cond_true]
       obtain ⟨m',rfl⟩ : ∃ q,m=q+1:=⟨m-1,by omega⟩
       have es : ∀ K,uO (m'+1) (T.l (ir (x.yes++[s]))) K=K (T.l (ir (sV x.yes s))):=by
        intro K
        simp only [uO,T.ah]
        rw [<-ae3 hyx g5]
        exact congrArg (fun q=>K (T.l q)) (IB _)
       rw [es]
       simp only [T.ah,e6,F7]
       refine Eq.trans ?_ (tail (sV x.yes s))
       simp only [hB2,cond_true,ixJ,j3,T.ah,e8,F7,ZB]
    ·rw [decide_eq_false g3,if_pos g3,e1]
     rfl
  ·rw [if_neg g1]
   simp only []
   rw [aC (by simp),if_pos (.inl g1)]
theorem Sz {m:Nat} (hm:1048610<=m) (c:dW) (h:uy c) (tx:Int) (K:T->T->An) :
  nQ m (.l [[.i c.n,.i c.life,.i c.next,.l (rJ c.jobs),.l (rC c.log),.i c.sure]]) (.i tx) K=K (.b (fD c tx).1) (.b (fD c tx).2):=by
 obtain ⟨m,rfl⟩:=aS m
 have h2:=h.vK
 have h3:=h.life
 have e1:IntKind.i64.wrap (c.life * 1000)=c.life * 1000:=wrap_i64 (by omega) (by omega)
 have r1:bJ (.l [[T.i c.n,.i c.life,.i c.next,.l (rJ c.jobs),.l (rC c.log),.i c.sure]])=[T.i c.n,.i c.life,.i c.next,.l (rJ c.jobs),.l (rC c.log),.i c.sure]:=rfl
 have r2:[T.i c.n,T.i c.life,T.i c.next,T.l (rJ c.jobs),T.l (rC c.log),T.i c.sure].take 6=[T.i c.n,.i c.life,.i c.next,.l (rJ c.jobs),.l (rC c.log),.i c.sure]:=rfl
 simp only [nQ,r1,r2,List.drop_succ_cons,List.drop_zero,List.getD_cons_zero,T.ah,T.aj,e1,aQ]
 unfold fD
 by_cases c1:tx<1000
 ·rw [aK c1,if_pos c1]
 ·rw [dn c1,if_neg c1,I6 (by omega) _ _ _ _ _ c.log tx (by omega)]
  simp only [T.aj]
  unfold chI
  cases hf:oM tx c.log with
  | none=>simp only []; rw [bD]
  | some k =>
   have hk:=Gw hf
   simp only []
   rw [jX]
   by_cases c2:(k:Int)<c.sure
   ·rw [jX,aK (by rw [iG]; omega),Int.toNat_natCast,ajj c.log hk,decide_eq_true c2]
    simp
   ·rw [bD,decide_eq_false c2]
    simp
end Go.Proofs.YtpchnmbcbcfhjaaGreat

namespace Go.Proofs.YtpchnmbcbcfhjaaGreat
open Go Go.E Go.Proofs
structure RW (w:aA):Prop where
 b:vG w
 sI:w.net.length<=400
 rep : ∀ s∈w.ay,∃ seen,cZ s.log=some ⟨s.map,s.held,seen⟩
 jd:w.c.jobs.Pairwise fun a b=>a.tx<b.tx
 jy : ∀ j∈w.c.jobs,j.yes.Pairwise (· < ·)
 rng : ∀ x∈w.net,0<=x.bN/\x.bN<w.ay.length
theorem Jh : ∀ (l net:List aY),net.length<=400->pV net l=net++l.take (400-net.length)
 | [],net,h=>by simp [pV]
 | x::l,net,h=>by
  unfold pV
  by_cases c:net.length<400
  ·rw [if_pos c,Jh l (net++[x]) (by simp; omega)]
   obtain ⟨q,hq⟩ : ∃ q,400-net.length=q+1:=⟨400-net.length-1,by omega⟩
   have e:400-(net++[x]).length=q:=by simp; omega
   rw [e,hq]; simp
  ·rw [if_neg c,Jh l net h]
   have e:400-net.length=0:=by omega
   rw [e]; simp
theorem KZ {m:Nat} (hm:1<=m) (x0 x1 x2 x5:T) (l3 l4 l6 l8 l9:List (List T)) (net said:List aY) (h1:said.length<=1048576) (h2:net.length<=400) (K:KW) :
  kr m x0 x1 x2 (.l l3) (.l l4) x5 (.l l6) (.l (rW net)) (.l l8) (.l l9) (.l (rW said)) K=K (.l l3) (.l l4) (.l l6) (.l l8) (.l l9) x0 x1 x2 x5 (.l (rW (pV net said))):=by
 obtain ⟨m,rfl⟩:=aS m
 have e0:IntKind.i64.wrap (400-(net.length:Int))=400-(net.length:Int):=wrap_i64 (by omega) (by omega)
 have e1:ow (said.length:Int) (qX (400-(net.length:Int)) 0)=((min said.length (400-net.length):Nat):Int):=by
  unfold ow qX
  split <;> split <;> omega
 have e2:(rW said).take (min said.length (400-net.length))=rW (said.take (400-net.length)):=by
  rw [Nat.min_comm,<-List.take_take,List.take_of_length_le (i:=said.length) (by simp)]
  simp [rW,List.map_take]
 simp only [kr,T.ah,dL,e0,e1,Int.toNat_natCast,e2,wL]
 rw [bD,bD,aK (by simp; unfold ak; omega),Jh said net h2]
 congr 2
 simp [rW]
theorem ae4 {m:Nat} (hm:3200040<=m) (w:aA) (h:RW w) (x:aY) (hx:F9 x) (hs:0<=x.bN/\x.bN<w.ay.length) (kd yes:T) (K:KW) :
  tK m (.i w.c.n) (.i w.c.life) (.i w.c.next) (.l (rJ w.c.jobs)) (.l (rC w.c.log)) (.i w.c.sure) (.l (rS w.ay)) (.l (rW w.net)) (.l (rW w.outs)) (.l (rB w.begun)) kd (.i x.bN) (.i x.tx) (.l (rO x.ops)) yes K=kW K (Ga w x):=by
 obtain ⟨m,rfl⟩:=aS m
 have h1:=h.b.shl
 have h2:=h.b.Av
 obtain ⟨pre,s,post,e1,e2,e3,e4,e5⟩:=Vf hs.1 hs.2
 have hB:=h.b.sh s (by rw [e1]; simp)
 obtain ⟨seen,hr⟩:=h.rep s (by rw [e1]; simp)
 unfold Ga vH
 simp only [e3,e4,e5]
 simp only [tK,jn,T.ah,T.aj,aQ,wL]
 rw [e1,e2,bD,bD]
 simp only [ixS,s0,s1,s2,s3,s4,T.ah]
 rw [aii (by omega) s hB hr x.tx x.ops hx.1]
 have hq:=abF (ZF s x.tx x.ops)
 simp only [T.ah,T.aj,hq,F8]
 generalize nY s x.tx x.ops=q
 by_cases g1:q.1=5
 ·rw [aC (by simp [g1]),if_neg (by simp [g1])]
  rfl
 ·rw [av (by simpa using g1)]
  by_cases g2:w.outs.length<400
  ·rw [dn (by rw [dL]; omega),if_pos ⟨g1,g2⟩]
   have eo : ∀ b:Bool,rW w.outs++[[T.i 2,T.i (pre.length:Int),T.i x.tx,T.l [],T.b b]]=rW (w.outs++[⟨2,(pre.length:Int),x.tx,[],b⟩]):=fun b=>by simp [aY.r]
   by_cases g3:q.1=1
   ·rw [aC (by simp [g3]),aK (by rw [dL]; unfold ak; omega),eo,decide_eq_true (.inl g3)]
    rfl
   ·rw [av (by simpa using g3),aK (by rw [dL]; unfold ak; omega),eo]
    have:(q.1==3)=decide (q.1=1\/q.1=3):=by
     by_cases g4:q.1=3
     ·simp [g4]
     ·simp [g3,g4]
    rw [this]
    rfl
  ·rw [aK (by rw [dL]; omega),if_neg (fun q=>g2 q.2)]
   rfl
theorem aik {m:Nat} (hm:3200060<=m) (w:aA) (h:RW w) (k:Nat) (hk:k<w.net.length) (K:KW) :
  tN m (.i w.c.n) (.i w.c.life) (.i w.c.next) (.l (rJ w.c.jobs)) (.l (rC w.c.log)) (.i w.c.sure) (.l (rS w.ay)) (.l (rW w.net)) (.l (rW w.outs)) (.l (rB w.begun)) (.i k) K =
   kW K (EJ { w with net:=w.net.take k++w.net.drop (k+1) } (w.net.getD k default)):=by
 obtain ⟨m,rfl⟩:=aS m
 have h1:=h.sI
 obtain ⟨pre,x,post,e1,rfl,e3,e4,e5⟩:=qj w.net hk
 have hx:=h.b.net x (by rw [e1]; simp)
 have hs:=h.rng x (by rw [e1]; simp)
 have hpl:pre.length+post.length+1<=400:=by rw [e1] at h1; simp at h1; omega
 have f1:IntKind.i64.wrap ((pre.length:Int)+1)=(pre.length:Int)+1:=bE pre (by omega)
 simp only [e3,e4,e5]
 obtain ⟨w',hw'⟩ : ∃ w',w' = { w with net:=pre++post }:=⟨_,rfl⟩
 have hR:RW w':=by
  rw [hw']
  exact ⟨⟨h.b.c,h.b.shl,h.b.sh,by simp; omega,fun y hy=>h.b.net y (by rw [e1]; simp at hy ⊢; rcases hy with hy | hy <;> simp [hy]),h.b.Av,h.b.out,h.b.yS⟩,by simp; omega,h.rep,h.jd,h.jy,fun y hy=>h.rng y (by rw [e1]; simp at hy ⊢; rcases hy with hy | hy <;> simp [hy])⟩
 have hdel : ∀ K,bR m (.l (rW (pre++x::post))) (.i (pre.length:Nat)) (.i ((pre.length:Int)+1)) K=K (.l (rW (pre++post))):=by
  intro K
  obtain ⟨m,rfl⟩:=aS m
  simp only [bR,T.ah,T.aj]
  rw [bD]
  congr 2
  have:Int.toNat ((pre.length:Int)+1)=pre.length+1:=by omega
  rw [this,Int.toNat_natCast]
  simp [rW,List.drop_append]
 rw [<-hw']
 simp only [tN,T.ah,T.aj,aG,aQ,wL,aT]
 rw [e1,bD,bD]
 simp only [ixW,w0,w1,w2,w3,w4,T.ah,T.aj,f1]
 rw [hdel]
 simp only [T.ah]
 have fc:w'.c=w.c:=by rw [hw']
 have fs:w'.ay=w.ay:=by rw [hw']
 have fn:w'.net=pre++post:=by rw [hw']
 have fo:w'.outs=w.outs:=by rw [hw']
 have fb:w'.begun=w.begun:=by rw [hw']
 rw [<-fc,<-fs,<-fn,<-fo,<-fb]
 have hs':0<=x.bN/\x.bN<w'.ay.length:=by rw [fs]; exact hs
 clear hw' fc fs fn fo fb
 unfold EJ
 by_cases k1:x.kind=1
 ·rw [av (by simp [k1]),if_pos k1,ae4 (by omega) w' hR x hx hs']
  rfl
 ·rw [aC (by simp [k1]),if_neg k1]
  by_cases k3:x.kind=3
  ·obtain ⟨pr,s,po,d1,d2,d3,d4,d5⟩:=Vf hs'.1 hs'.2
   have hB:=hR.b.sh s (by rw [d1]; simp)
   obtain ⟨seen,hr⟩:=hR.rep s (by rw [d1]; simp)
   rw [av (by simp [k3]),if_pos k3]
   unfold vH
   simp only [d3,d4,d5]
   rw [d1,d2,bD,bD]
   simp only [ixS,s0,s1,s2,s3,s4,T.ah]
   refine (ab1 (by omega) s hB hr x.tx x.yes (fun _ a b c d e=>K (.i w'.c.n) (.i w'.c.life) (.i w'.c.next) (T.l (rJ w'.c.jobs)) (T.l (rC w'.c.log)) (.i w'.c.sure) (T.l ((rS (pr++s::po)).set (Int.toNat (pr.length:Int)) [a,(T.l b.rows),c,(T.l d.rows),(T.l e.rows)])) (T.l (rW w'.net)) (T.l (rW w'.outs)) (T.l (rB w'.begun)))).trans ?_
   simp only [T.ah]
   rw [abF (Jb s x.tx x.yes),F8]
   rfl
  ·rw [aC (by simp [k3]),if_neg k3]
   by_cases k2:x.kind=2
   ·rw [av (by simp [k2]),if_pos k2,aij (by omega) w'.c hR.b.c hR.jd hR.jy]
    rfl
   ·rw [aC (by simp [k2]),if_neg k2]
    by_cases k4:x.kind=4
    ·rw [av (by simp [k4]),if_pos k4,Sz (by omega) w'.c hR.b.c]
     simp only [T.aI]
     cases hy:(fD w'.c x.tx).2 with
     | false=>rfl
     | true =>
      simp only [cond_true,if_true]
      exact (KZ (by omega) _ _ _ _ _ _ _ _ _ w'.net [⟨3,x.bN,x.tx,[],(fD w'.c x.tx).1⟩] (by simp) hR.sI _).trans rfl
    ·rw [aC (by simp [k4]),if_neg k4]
     rfl
def apW (w:aA):aA:=EJ { w with net:=w.net.take 0++w.net.drop (0+1) } (w.net.getD 0 default)
section
variable {I:aA->Prop} (hI : ∀ w,I w->RW w) (hS : ∀ w,I w->w.net≠[]->I (apW w))
include hI hS
end
end Go.Proofs.YtpchnmbcbcfhjaaGreat

namespace Go.Proofs.YtpchnmbcbcfhjaaGreat
open Go Go.E Go.Proofs
theorem Vy {m:Nat} (hm:1<=m) (l:List Int) (h:l.length<=1048576) (K:T->An):gW m (.l (ir l)) K=K (.l (ir l)):=by
 obtain ⟨m,rfl⟩:=aS m
 simp only [gW,T.ah,wL]
 rw [aK (by rw [d9]; unfold ak; omega)]
theorem K5 {m:Nat} (hm:1<=m) (l:List bA) (h:l.length<=1048576) (K:T->An):bV m (.l (rC l)) K=K (.l (rC l)):=by
 obtain ⟨m,rfl⟩:=aS m
 simp only [bV,T.ah,wL]
 rw [aK (by rw [iG]; unfold ak; omega)]
theorem ab2 {m:Nat} (hm:1<=m) (l:List bT) (h:l.length<=1048576) (K:T->An):bM m (.l (rP l)) K=K (.l (rP l)):=by
 obtain ⟨m,rfl⟩:=aS m
 simp only [bM,T.ah,wL]
 rw [aK (by rw [uw]; unfold ak; omega)]
theorem ail (x:dN):[T.i x.tx,T.l (rO x.ops),T.i x.state,T.l (ir x.yes)]=x.r:=rfl
theorem aac (m:Nat) (hm:1<=m) (x6 x7 x8 x9 x10 bC dw dO fO kF mO mY x18 nC x20:T) (Dn BK:List (List T)) : ∀ (post pre:List dN),(∀ j∈post,j.ops.length<=1048576/\j.yes.length<=1048576)->pre.length+post.length<=1048576->∀ n,post.length<n->∀ k0 k1,
  iK m n (.i 0) (.i 0) (.i 0) (.l (rJ (pre++post))) (.i ((pre++post).length:Nat)) (.i pre.length) x6 x7 x8 x9 x10 bC dw dO fO kF mO mY x18 nC x20 (.l Dn) (.l BK) (.l (rJ pre)) k0 k1 =
   k0 (.i 0) (.i 0) (.i 0) x6 x7 x8 x9 x10 bC dw dO fO kF mO mY x18 nC x20 (.l Dn) (.l BK) (.l (rJ (pre++post)))
 | [],pre,ho,hs,n,hn,k0,k1=>by
  obtain ⟨n,rfl⟩:=aS n
  simp only [iK,T.aj,T.ah,aG,aQ,wL,aT]
  rw [jX,List.append_nil]
  rfl
 | x::post,pre,ho,hs,n,hn,k0,k1=>by
  obtain ⟨n,rfl⟩:=aS n
  simp only [List.length_cons] at hs hn
  obtain ⟨h1,h2⟩:=ho x (by simp)
  have ih:=aac m hm x6 x7 x8 x9 x10 bC dw dO fO kF mO mY x18 nC x20 Dn BK post (pre++[x]) (fun j hj=>ho j (by simp [hj])) (by simp; omega) n (by omega) k0 k1
  rw [aF,List.append_assoc,List.singleton_append] at ih
  have e:rJ pre++[x.r]=rJ (pre++[x]):=by simp
  simp only [iK,T.aj,T.ah,ixJ,bE pre (by omega),j0,j1,j2,j3,aG,aQ,wL,aT]
  rw [bD,bD,qQ hm x.ops h1,Vy hm x.yes h2]
  simp only [T.ah,ail,e]
  rw [aK (by simp; unfold ak; omega)]
  exact ih
theorem ae5 {m:Nat} (hm:1048600<=m) (c:dW) (h1:c.jobs.length<=1048576) (h2 : ∀ j∈c.jobs,j.ops.length<=1048576/\j.yes.length<=1048576) (h3:c.log.length<=1048576) (K:T->T->T->T->T->T->An) :
  vk m (.i c.n) (.i c.life) (.i c.next) (.l (rJ c.jobs)) (.l (rC c.log)) (.i c.sure) K=K (.i c.n) (.i c.life) (.i c.next) (.l (rJ c.jobs)) (.l (rC c.log)) (.i c.sure):=by
 obtain ⟨m,rfl⟩:=aS m
 obtain ⟨m',rfl⟩ : ∃ q,m=q+1:=⟨m-1,by omega⟩
 simp only [vk,sG,T.aj,T.ah,aG,aQ,wL,aT]
 cases hj:c.jobs with
 | nil =>
  rw [jX]
  rw [K5 (by omega) c.log h3]
  rfl
 | cons x post =>
  rw [hj] at h1 h2
  simp only [List.length_cons] at h1
  obtain ⟨a1,a2⟩:=h2 x (by simp)
  have g:(rJ (x::post)).getD (Int.toNat (0:Int)) []=x.r:=rfl
  simp only [g,j0,j1,j2,j3,T.ah]
  rw [bD,bD,qQ (by omega) x.ops a1,Vy (by omega) x.yes a2]
  simp only [T.ah,ail]
  have l:=aac (m'+1) (by omega) (.i c.n) (.i c.life) (.i c.next) (.l (rJ (x::post))) (.l (rC c.log)) (.i c.sure) (.i 0) (.i 0) (.i 0) (.i 0) (.i c.n) (.i c.life) (.i c.next) (.l (rC c.log)) (.i c.sure) [] [] post [x] (fun j hj=>h2 j (by simp [hj])) (by simp; omega) m' (by omega)
  rw [show (T.i ((rJ (x::post)).length:Int))=T.i (([x]++post).length:Nat) by simp,show (T.i (IntKind.i64.wrap (0+1)))=T.i ((([x]:List dN).length:Nat):Int) from rfl]
  refine (l _ _).trans ?_
  simp only [T.ah]
  rw [K5 (by omega) c.log h3]
  rfl
theorem aad (m:Nat) (hm:1<=m) : ∀ (post pre:List aY),(∀ x∈post,x.ops.length<=1048576)->pre.length+post.length<=1048576->∀ n,post.length<n->∀ k0,
  iL m n (.l (rW (pre++post))) (.i ((pre++post).length:Nat)) (.i pre.length) (.l (rW pre)) k0=k0 (.l (rW (pre++post)))
 | [],pre,ho,hs,n,hn,k0=>by
  obtain ⟨n,rfl⟩:=aS n
  simp only [iL,T.aj,T.ah,aG,aQ,wL,aT]
  rw [jX,List.append_nil]
 | x::post,pre,ho,hs,n,hn,k0=>by
  obtain ⟨n,rfl⟩:=aS n
  simp only [List.length_cons] at hs hn
  have ih:=aad m hm post (pre++[x]) (fun j hj=>ho j (by simp [hj])) (by simp; omega) n (by omega) k0
  rw [aF,List.append_assoc,List.singleton_append] at ih
  have e:rW pre++[x.r]=rW (pre++[x]):=by simp
  simp only [iL,T.aj,T.ah,ixW,bE pre (by omega),w0,w1,w2,w3,w4,aG,aQ,wL,aT]
  rw [bD,bD,qQ hm x.ops (ho x (by simp))]
  simp only [T.ah,R4,e]
  rw [aK (by simp; unfold ak; omega)]
  exact ih
theorem Vz {m:Nat} (hm:1048600<=m) (l:List aY) (h1:l.length<=1048576) (h2 : ∀ x∈l,x.ops.length<=1048576) (K:T->An):qK m (.l (rW l)) K=K (.l (rW l)):=by
 obtain ⟨m,rfl⟩:=aS m
 simp only [qK,T.ah,wL]
 rw [show (T.i ((rW l).length:Int))=T.i ((([]:List aY)++l).length:Nat) by simp]
 exact (aad m (by omega) l [] h2 (by simpa using h1) m (by omega) _).trans rfl
theorem aae (m:Nat) (hm:1<=m) : ∀ (post pre:List bq),(∀ x∈post,x.ops.length<=1048576)->pre.length+post.length<=1048576->∀ n,post.length<n->∀ k0,
  jE m n (.l (rR (pre++post))) (.i ((pre++post).length:Nat)) (.i pre.length) (.l (rR pre)) k0=k0 (.l (rR (pre++post)))
 | [],pre,ho,hs,n,hn,k0=>by
  obtain ⟨n,rfl⟩:=aS n
  simp only [jE,T.aj,T.ah,aG,aQ,wL,aT]
  rw [jX,List.append_nil]
 | x::post,pre,ho,hs,n,hn,k0=>by
  obtain ⟨n,rfl⟩:=aS n
  simp only [List.length_cons] at hs hn
  have ih:=aae m hm post (pre++[x]) (fun j hj=>ho j (by simp [hj])) (by simp; omega) n (by omega) k0
  rw [aF,List.append_assoc,List.singleton_append] at ih
  have e:rR pre++[x.r]=rR (pre++[x]):=by simp
  simp only [jE,T.aj,T.ah,T9,bE pre (by omega),r0,r1,r2,aG,aQ,wL,aT]
  rw [bD,bD,qQ hm x.ops (ho x (by simp))]
  simp only [T.ah,adD,e]
  rw [aK (by simp; unfold ak; omega)]
  exact ih
theorem aaf {m:Nat} (hm:1048600<=m) (l:List bq) (h1:l.length<=1048576) (h2 : ∀ x∈l,x.ops.length<=1048576) (K:T->An):sQ m (.l (rR l)) K=K (.l (rR l)):=by
 obtain ⟨m,rfl⟩:=aS m
 simp only [sQ,T.ah,wL]
 rw [show (T.i ((rR l).length:Int))=T.i ((([]:List bq)++l).length:Nat) by simp]
 exact (aae m (by omega) l [] h2 (by simpa using h1) m (by omega) _).trans rfl
structure PS1 (s:aH):Prop where
 log:s.log.length<=1048576
 ajH : ∀ r∈s.log,r.ops.length<=1048576
 held:s.held.length<=1048576
 alp : ∀ r∈s.held,r.ops.length<=1048576
 map:s.map.length<=1048576
theorem ae6 {m:Nat} (hm:1048610<=m) (s:aH) (h:PS1 s) (K:T->T->T->T->T->An) :
  vv m (.i s.id) (.l (rR s.log)) (.i s.sure) (.l (rP s.map)) (.l (rR s.held)) K=K (.i s.id) (.l (rR s.log)) (.i s.sure) (.l (rP s.map)) (.l (rR s.held)):=by
 obtain ⟨m,rfl⟩:=aS m
 simp only [vv,T.ah,wL]
 rw [aaf (by omega) s.log h.log h.ajH]
 simp only [T.ah]
 rw [ab2 (by omega) s.map h.map,aaf (by omega) s.held h.held h.alp]
 simp only [T.ah]
theorem sg0 (x:aH):x.r.getD 0 dflt = .i x.id:=rfl
theorem sg2 (x:aH):x.r.getD 2 dflt = .i x.sure:=rfl
theorem sg3 (x:aH):x.r.getD 3 dflt = .l (rP x.map):=rfl
theorem alq (x:aH):[T.i x.id,T.l (rR x.log),T.i x.sure,T.l (rP x.map),T.l (rR x.held)]=x.r:=rfl
theorem aag (m:Nat) (hm:1048610<=m) (x6 x7 x8 x9 x10 bC dw dO fO kF mO mY x18 nC x20 x21 vg x23:T) (SX SY S9 Ta Tc l29 l30 l31 l33 l34 l35:List (List T)) : ∀ (post pre:List aH),(∀ s∈post,PS1 s)->pre.length+post.length<=1048576->∀ n,post.length<n->∀ k0,
  iN m n (.i 0) (.i 0) (.i 0) (.l (rS (pre++post))) (.i ((pre++post).length:Nat)) (.i pre.length) x6 x7 x8 x9 x10 bC dw dO fO kF mO mY x18 nC x20 x21 vg x23 (.l SX) (.l SY) (.l S9) (.l Ta) (.l Tc) (.l l29) (.l l30) (.l l31) (.l (rS pre)) (.l l33) (.l l34) (.l l35) k0 =
   k0 (.i 0) (.i 0) (.i 0) x6 x7 x8 x9 x10 bC dw dO fO kF mO mY x18 nC x20 x21 vg x23 (.l SX) (.l SY) (.l S9) (.l Ta) (.l Tc) (.l l29) (.l l30) (.l l31) (.l (rS (pre++post))) (.l l33) (.l l34) (.l l35)
 | [],pre,ho,hs,n,hn,k0=>by
  obtain ⟨n,rfl⟩:=aS n
  simp only [iN,T.aj,T.ah,aG,aQ,wL,aT]
  rw [jX,List.append_nil]
  rfl
 | x::post,pre,ho,hs,n,hn,k0=>by
  obtain ⟨n,rfl⟩:=aS n
  simp only [List.length_cons] at hs hn
  have ih:=aag m hm x6 x7 x8 x9 x10 bC dw dO fO kF mO mY x18 nC x20 x21 vg x23 SX SY S9 Ta Tc l29 l30 l31 l33 l34 l35 post (pre++[x]) (fun j hj=>ho j (by simp [hj])) (by simp; omega) n (by omega) k0
  rw [aF,List.append_assoc,List.singleton_append] at ih
  have e:rS pre++[x.r]=rS (pre++[x]):=by simp
  simp only [iN,T.aj,T.ah,ixS,bE pre (by omega),sg0,sg1,sg2,sg3,sg4,aG,aQ,wL,aT]
  rw [bD,bD,ae6 hm x (ho x (by simp))]
  simp only [T.ah,alq,e]
  rw [aK (by simp; unfold ak; omega)]
  exact ih
theorem ain (x:dG):[T.i x.tx,T.l (rO x.ops)]=x.r:=rfl
theorem aah (m:Nat) (hm:1<=m) (x5 x6 x7 x8 x9 x10 bC dw:T) (BJ EL Cu Cr Ae Cv K8 SV Dn BK Nh:List (List T)) : ∀ (post pre:List dG),(∀ s∈post,s.ops.length<=1048576)->pre.length+post.length<=1048576->∀ n,post.length<n->∀ k0,
  iM m n (.i 0) (.i 0) (.l (rB (pre++post))) (.i ((pre++post).length:Nat)) (.i pre.length) x5 x6 x7 x8 x9 x10 bC dw (.l BJ) (.l EL) (.l Cu) (.l Cr) (.l Ae) (.l Cv) (.l K8) (.l SV) (.l Dn) (.l BK) (.l Nh) (.l (rB pre)) k0 =
   k0 (.i 0) (.i 0) x5 x6 x7 x8 x9 x10 bC dw (.l BJ) (.l EL) (.l Cu) (.l Cr) (.l Ae) (.l Cv) (.l K8) (.l SV) (.l Dn) (.l BK) (.l Nh) (.l (rB (pre++post)))
 | [],pre,ho,hs,n,hn,k0=>by
  obtain ⟨n,rfl⟩:=aS n
  simp only [iM,T.aj,T.ah,aG,aQ,wL,aT]
  rw [jX,List.append_nil]
  rfl
 | x::post,pre,ho,hs,n,hn,k0=>by
  obtain ⟨n,rfl⟩:=aS n
  simp only [List.length_cons] at hs hn
  have ih:=aah m hm x5 x6 x7 x8 x9 x10 bC dw BJ EL Cu Cr Ae Cv K8 SV Dn BK Nh post (pre++[x]) (fun j hj=>ho j (by simp [hj])) (by simp; omega) n (by omega) k0
  rw [aF,List.append_assoc,List.singleton_append] at ih
  have e:rB pre++[x.r]=rB (pre++[x]):=by simp
  simp only [iM,T.aj,T.ah,ixB,bE pre (by omega),b0,b1',aG,aQ,wL,aT]
  rw [bD,bD,qQ hm x.ops (ho x (by simp))]
  simp only [T.ah,ain,e]
  rw [aK (by simp; unfold ak; omega)]
  exact ih
structure PW (w:aA):Prop where
 Au:w.c.jobs.length<=1048576
 jobs : ∀ j∈w.c.jobs,j.ops.length<=1048576/\j.yes.length<=1048576
 log:w.c.log.length<=1048576
 shl:w.ay.length<=1048576
 sh : ∀ s∈w.ay,PS1 s
 sI:w.net.length<=1048576
 net : ∀ x∈w.net,x.ops.length<=1048576
 Av:w.outs.length<=1048576
 outs : ∀ x∈w.outs,x.ops.length<=1048576
 yS:w.begun.length<=1048576
 Ag : ∀ x∈w.begun,x.ops.length<=1048576
theorem GK {m:Nat} (hm:1048630<=m) (w:aA) (h:PW w) (K:KW) :
  dP m (.i w.c.n) (.i w.c.life) (.i w.c.next) (.l (rJ w.c.jobs)) (.l (rC w.c.log)) (.i w.c.sure) (.l (rS w.ay)) (.l (rW w.net)) (.l (rW w.outs)) (.l (rB w.begun)) K=kW K w:=by
 obtain ⟨m,rfl⟩:=aS m
 simp only [dP,T.ah,wL]
 have h6:=h.shl
 have h9:=h.yS
 rw [ae5 (by omega) w.c h.Au h.jobs h.log,Vz (by omega) w.net h.sI h.net,Vz (by omega) w.outs h.Av h.outs]
 simp only [T.ah]
 rw [show (T.i ((rS w.ay).length:Int))=T.i ((([]:List aH)++w.ay).length:Nat) by simp]
 refine (aag m (by omega) _ _ _ _ _ _ _ _ _ _ _ _ _ _ _ _ _ _ _ _ _ _ _ _ _ _ _ _ _ w.ay [] h.sh (by simpa using h6) m (by omega) _).trans ?_
 simp only [T.ah,T.aj]
 rw [show (T.i ((rB w.begun).length:Int))=T.i ((([]:List dG)++w.begun).length:Nat) by simp]
 refine (aah m (by omega) _ _ _ _ _ _ _ _ _ _ _ _ _ _ _ _ _ _ _ w.begun [] h.Ag (by simpa using h9) m (by omega) _).trans ?_
 simp only [T.ah]
 rfl
theorem bW.pw {w:aA} (h:bW w):PW w:=by
 have hb:=vG.of h
 have hbl:=h.yS
 have hjl:=h.Au
 have hll:=h.vK
 have hnl:=h.sI
 have hol:=h.Av
 have hsl:=hb.shl
 refine ⟨by omega,fun j hj=>⟨by have:=(hb.c.jobs j hj).2.1; omega,by have:=(hb.c.jobs j hj).2.2; omega⟩,by omega,by omega,fun s hs=>?_,by omega,fun x hx=>by have:=(hb.net x hx).2; omega,by omega,fun x hx=>by have:=(hb.out x hx).2; omega,by omega,fun o ho=>?_⟩
 ·have hS:=hb.sh s hs
  exact ⟨by have:=hS.vK; omega,fun r hr=>by have:=(hS.log r hr).1; omega,by have:=hS.BH; omega,fun r hr=>by have:=(hS.held r hr).1; omega,by have:=hS.map; omega⟩
 ·obtain ⟨h1,-⟩:=h.Ag o ho
  have:=(za h1).2
  omega
theorem bW.rw {w:aA} (h:bW w):RW w :=
 ⟨vG.of h,h.sI,fun s hs=>by
  obtain ⟨k,hS,-⟩:=h.mem hs
  exact hS.2.1.rep,h.ZJ,fun j hj=>(h.jobs j hj).yes.1,h.range⟩
end Go.Proofs.YtpchnmbcbcfhjaaGreat

namespace Go.Proofs.YtpchnmbcbcfhjaaGreat
open Go Go.E Go.Proofs
end Go.Proofs.YtpchnmbcbcfhjaaGreat

namespace Go.Proofs.YtpchnmbcbcfhjaaGreat
open Go Go.E Go.Proofs
structure RW2 (w:aA):Prop where
 r:RW w
 yS:w.begun.length<=1000
 ja : ∀ j∈w.c.jobs,j.state=1->(fD w.c j.tx).2=false
theorem SA (c:dW):bJ (T.l [[.i c.n,.i c.life,.i c.next,.l (rJ c.jobs),.l (rC c.log),.i c.sure]])=[.i c.n,.i c.life,.i c.next,.l (rJ c.jobs),.l (rC c.log),.i c.sure]:=rfl
theorem K6 {m:Nat} (hm:1048620<=m) (n:Int) (r:List T) (tx:Int) (ops:List eT) (ho:oL ops) (s:Int) (K:T->T->T->T->T->An) :
  lN m (.l [.i n::r]) (.i tx) (.l (rO ops)) (.i s) K=K (.i 1) (.i s) (.i tx) (.l (rO (mQ ops s n))) (.b false):=by
 obtain ⟨m,rfl⟩:=aS m
 have e:(bJ (T.l [.i n::r])).getD 0 dflt = .i n:=rfl
 simp only [lN,T.ah,e,wL]
 rw [Rw (by omega) ops s n ho]
 simp only [T.ah]
theorem VB (m:Nat) (hm:1048620<=m) (n:Int) (ops:List eT) (ho:oL ops) (tx:Int) (x7 x8 x9:T) (E5 BI:List (List T)) : ∀ (post pre:List Int) (acc:List aY),acc.length+post.length<=1048576->pre.length+post.length<=1048576->∀ k,post.length<k->∀ k0,
  gJ m k (.i 0) (.l (rO ops)) (.i tx) (.l (ir (pre++post))) (.i ((pre++post).length:Nat)) (.i pre.length) (.i n) x7 x8 x9 (.l (rW acc)) (.l E5) (.l BI) k0 =
   k0 (.i 0) (.i tx) (.i n) x7 x8 x9 (.l (rW (acc++post.map (EI n tx ops)))) (.l E5) (.l BI)
 | [],pre,acc,ha,hs,k,hk,k0=>by
  obtain ⟨k,rfl⟩:=aS k
  simp only [gJ,T.aj,T.ah,aG,aQ,wL,aT]
  rw [jX]
  simp
 | x::post,pre,acc,ha,hs,k,hk,k0=>by
  obtain ⟨k,rfl⟩:=aS k
  simp only [List.length_cons] at hs hk ha
  have ih:=VB m hm n ops ho tx x7 x8 x9 E5 BI post (pre++[x]) (acc++[EI n tx ops x]) (by simp; omega) (by simp; omega) k (by omega) k0
  rw [aF,List.append_assoc,List.singleton_append] at ih
  have e:rW acc++[[T.i 1,T.i x,T.i tx,T.l (rO (mQ ops x n)),T.b false]]=rW (acc++[EI n tx ops x]):=by simp [EI,aY.r]
  simp only [gJ,T.aj,T.ah,ixI,bE pre (by omega),aG,aQ,wL,aT]
  rw [bD,aK (by simp [ir]; omega),K6 hm n _ tx ops ho]
  simp only [T.ah,e]
  rw [aK (by rw [dL]; unfold ak; omega)]
  refine Eq.trans (by rfl) (ih.trans ?_)
  simp
theorem ab3 {m:Nat} (hm:1050200<=m) (c:dW) (h:uy c) (ops:List eT) (ho:oL ops) (K:T->T->T->T->T->T->T->T->An) :
  rT m (.i c.n) (.i c.life) (.i c.next) (.l (rJ c.jobs)) (.l (rC c.log)) (.i c.sure) (.l (rO ops)) K =
   K (.l (rW (iy c ops).1)) (.i (iy c ops).2.1) (.i (iy c ops).2.2.n) (.i (iy c ops).2.2.life) (.i (iy c ops).2.2.next) (.l (rJ (iy c ops).2.2.jobs)) (.l (rC (iy c ops).2.2.log)) (.i (iy c ops).2.2.sure):=by
 obtain ⟨m,rfl⟩:=aS m
 have h1:=h.Au
 have h2:=h.vK
 have h3:=h.next
 have hl:=ho.1
 simp only [rT,jn,T.ah,wL,aT]
 rw [wm (by omega) ops ho]
 simp only [T.aI,T.aj]
 unfold iy
 cases c1:gL ops with
 | false=>rw [aC (by rfl),if_pos (.inl rfl)]; rfl
 | true =>
  rw [av (by rfl)]
  by_cases c2:c.next=999
  ·rw [aC (by simp [c2]),if_pos (.inr (.inl c2))]; rfl
  ·rw [av (by simpa using c2)]
   by_cases c3:1000<=c.log.length
   ·rw [aK (by rw [iG]; omega),if_pos (.inr (.inr c3))]; rfl
   ·rw [dn (by rw [iG]; omega),if_neg (by simp; omega),Xt (by omega) _ _ _ _ _ _ h.life h.next,qQ (by omega) ops hl]
    have s1:=kC ops c.n
    simp only [T.ah]
    rw [aK (by rw [Rx]; unfold ak; omega),Ac (by omega) ops c.n ho]
    simp only [T.ah,T.aj]
    have en:IntKind.i64.wrap (c.next+1)=c.next+1:=wrap_i64 (by omega) (by omega)
    have ej:rJ c.jobs++[[T.i (c.life * 1000+c.next),T.l (rO ops),T.i 1,T.l []]]=rJ (c.jobs++[⟨c.life * 1000+c.next,ops,1,[]⟩]):=by simp [dN.r,ir]
    rw [en,ej,show (T.i ((ir (bg ops c.n)).length:Int))=T.i ((([]:List Int)++bg ops c.n).length:Nat) by simp [d9]]
    refine (VB m (by omega) c.n ops ho (c.life * 1000+c.next) _ _ _ _ _ (bg ops c.n) [] [] (by simp; omega) (by simp; omega) m (by omega) _).trans ?_
    simp only [T.ah,List.nil_append]
    have eh:mR c.n (c.life * 1000+c.next) ops [] (bg ops c.n)=(bg ops c.n).map (EI c.n (c.life * 1000+c.next) ops):=by
     unfold mR
     rw [List.filter_eq_self.2 (fun a _=>by simp)]
    rw [eh]
theorem ab4 {m:Nat} (hm:1050300<=m) (w:aA) (h:RW2 w) (ops:List eT) (ho:oL ops) (K:T->KW) :
  rU m (.i w.c.n) (.i w.c.life) (.i w.c.next) (.l (rJ w.c.jobs)) (.l (rC w.c.log)) (.i w.c.sure) (.l (rS w.ay)) (.l (rW w.net)) (.l (rW w.outs)) (.l (rB w.begun)) (.l (rO ops)) K=kW (K (.b (wo w ops).1)) (wo w ops).2:=by
 obtain ⟨m,rfl⟩:=aS m
 have h1:=h.yS
 simp only [rU,T.ah,wL]
 unfold wo
 by_cases c1:w.begun.length=1000
 ·rw [aK (by rw [vF]; omega),if_pos c1]; rfl
 ·rw [dn (by rw [vF]; omega),if_neg c1,ab3 (by omega) w.c h.r.b.c ops ho]
  simp only [T.ah,T.aj]
  by_cases c2:(iy w.c ops).2.1=0
  ·rw [av (by simp [c2]),if_pos c2]; rfl
  ·have hb:=(ZE (c:=w.c) ho).1
   rw [aC (by simpa using c2),if_neg c2]
   refine (KZ (by omega) _ _ _ _ _ _ _ _ _ w.net (iy w.c ops).1 (by omega) h.r.sI _).trans ?_
   simp only [T.ah]
   rw [qQ (by omega) ops ho.1]
   simp only [T.ah]
   rw [aK (by rw [vF]; unfold ak; omega)]
   have e:rB w.begun++[[T.i (iy w.c ops).2.1,T.l (rO ops)]]=rB (w.begun++[⟨(iy w.c ops).2.1,ops⟩]):=by simp [dG.r]
   rw [e]
   rfl
def ae7 (w:aA) (e:eB):Bool×aA:=if e.kind=4/\400<=w.net.length then (false,w) else G6 w e
theorem ab5 {w:aA} (h:w.net.length<=400) (e:eB):(ae7 w e).2=(G6 w e).2:=by
 unfold ae7
 by_cases c:e.kind=4/\400<=w.net.length
 ·rw [if_pos c]
  unfold G6 G5
  rw [if_neg (by omega),if_pos (by omega),if_pos c.1]
  split
  ·rfl
  ·have:pV w.net [w.net.getD e.at_.toNat default]=w.net:=by
    show (if w.net.length<400 then _ else w.net)=_
    rw [if_neg (by omega)]
   rw [this]
 ·rw [if_neg c]
theorem ae8 {m:Nat} (hm:3200070<=m) (w:aA) (h:RW w) (kind at_:Int) (hk:kind=2\/kind=3\/kind=4) (K:T->KW) :
  tQ m (.i w.c.n) (.i w.c.life) (.i w.c.next) (.l (rJ w.c.jobs)) (.l (rC w.c.log)) (.i w.c.sure) (.l (rS w.ay)) (.l (rW w.net)) (.l (rW w.outs)) (.l (rB w.begun)) (.i kind) (.i at_) K =
   kW (K (.b (if kind=4/\400<=w.net.length then (false,w) else G5 w kind at_).1)) (if kind=4/\400<=w.net.length then (false,w) else G5 w kind at_).2:=by
 obtain ⟨m,rfl⟩:=aS m
 have h1:=h.sI
 have e1:IntKind.i64.wrap (((rW w.net).length:Int)-1)=(w.net.length:Int)-1:=by rw [dL]; exact wrap_i64 (by omega) (by omega)
 simp only [tQ,jn,T.ah,T.aj,e1,aG,aQ,wL,aT]
 rw [fK (by omega)]
 simp only [T.aI]
 by_cases c1:0<=at_/\at_<=(w.net.length:Int)-1
 ·obtain ⟨pre,x,post,e2,e3,e4,e5,e6⟩:=qj w.net (j:=at_.toNat) (by omega)
  have ea:at_=(pre.length:Int):=by omega
  have hx:=h.b.net x (by rw [e2]; simp)
  have hpl:pre.length+post.length+1<=400:=by rw [e2] at h1; simp at h1; omega
  have f1:IntKind.i64.wrap (at_+1)=at_+1:=wrap_i64 (by omega) (by omega)
  rw [decide_eq_true c1,av (by rfl)]
  by_cases k4:kind=4
  ·rw [av (by simp [k4])]
   by_cases c2:400<=w.net.length
   ·rw [aK (by rw [dL]; omega),if_pos ⟨k4,c2⟩]; rfl
   ·rw [dn (by rw [dL]; omega),if_neg (fun q=>c2 q.2),aC (by simp [k4]),aC (by simp [k4]),aK (by rw [dL]; omega),aK (by rw [dL]; omega)]
    unfold G5
    rw [if_neg (by omega),if_pos k4]
    have f6:(rW w.net).getD (Int.toNat at_) []=x.r:=by rw [e2,ea]; exact ixW pre x post
    simp only [f6,w0,w1,w2,w3,w4,T.ah]
    rw [qQ (by omega) x.ops (by have:=hx.2; omega)]
    simp only [T.ah]
    rw [aK (by rw [dL]; unfold ak; omega),R4]
    have e:rW w.net++[x.r]=rW (pV w.net [w.net.getD at_.toNat default]):=by
     rw [e4]
     show _=rW (if w.net.length<400 then w.net++[x] else w.net)
     rw [if_pos (by omega)]; simp
    rw [e]
    rfl
  ·rw [aC (by simp [k4]),if_neg (fun q=>k4 q.1)]
   unfold G5
   rw [if_neg (by omega),if_neg k4]
   by_cases k2:kind=2
   ·rw [av (by simp [k2]),if_pos k2]
    subst ea
    refine (aik (by omega) w h pre.length (by omega) _).trans ?_
    rfl
   ·have k3:kind=3:=by omega
    rw [aC (by simp [k2]),av (by simp [k3]),if_neg k2,f1]
    obtain ⟨m,rfl⟩:=aS m
    simp only [bR,T.ah,T.aj]
    rw [aK (by rw [dL]; omega)]
    have e:(rW w.net).take at_.toNat++(rW w.net).drop (at_+1).toNat=rW (w.net.take at_.toNat++w.net.drop (at_.toNat+1)):=by
     have:(at_+1).toNat=at_.toNat+1:=by omega
     rw [this]; simp [rW]
    rw [e]
    rfl
 ·rw [decide_eq_false c1,aC (by rfl)]
  have hn:G5 w kind at_=(false,w):=by unfold G5; rw [if_pos c1]
  rw [hn]
  split <;> rfl
theorem SB (m:Nat) (at_:Int) (x4 x5 x6 x7:T) (E5 BI BJ EL Cu:List (List T)) : ∀ (post pre mine R8:List aY),pre.length+post.length<=1048576->mine.length+post.length<=1048576->R8.length+post.length<=1048576->∀ n,post.length<n->∀ k0,
  fU m n (.i 0) (.i at_) (.i ((pre++post).length:Nat)) (.i pre.length) x4 x5 x6 x7 (.l (rW mine)) (.l (rW R8)) (.l (rW (pre++post))) (.l E5) (.l BI) (.l BJ) (.l EL) (.l Cu) k0 =
   k0 (.i 0) x4 x5 x6 x7 (.l (rW (mine++Ib post at_))) (.l (rW (R8++Ol post at_))) (.l E5) (.l BI) (.l BJ) (.l EL) (.l (rW (pre++post))) (.l Cu)
 | [],pre,mine,R8,hs,h1,h2,n,hn,k0=>by
  obtain ⟨n,rfl⟩:=aS n
  simp only [fU,T.aj,T.ah,aG,aQ,wL,aT]
  rw [jX]
  simp [Ib,Ol]
 | x::post,pre,mine,R8,hs,h1,h2,n,hn,k0=>by
  obtain ⟨n,rfl⟩:=aS n
  simp only [List.length_cons] at hs hn h1 h2
  have ih:=fun mine R8 a b=>SB m at_ x4 x5 x6 x7 E5 BI BJ EL Cu post (pre++[x]) mine R8 (by simp; omega) a b n (by omega) k0
  rw [aF,List.append_assoc,List.singleton_append] at ih
  simp only [fU,jn,T.aj,T.ah,ixW,bE pre (by omega),w0,w1,w2,w3,w4,R4,aG,aQ,wL,aT]
  rw [bD,bD,bD]
  rw [aK (by rw [dL]; unfold ak; omega),aK (by rw [dL]; unfold ak; omega)]
  have em:rW mine++[x.r]=rW (mine++[x]):=by simp
  have eo:rW R8++[x.r]=rW (R8++[x]):=by simp
  rw [em,eo]
  unfold Ib Ol at ih ⊢
  cases hx:x.bN==at_ with
  | true =>
   rw [cond_true,List.filter_cons_of_pos (by simpa using hx),List.filter_cons_of_neg (by simp [hx])]
   refine Eq.trans (by rfl) ((ih (mine++[x]) R8 (by simp; omega) (by omega)).trans ?_)
   simp
  | false =>
   rw [cond_false,List.filter_cons_of_neg (by simp [hx]),List.filter_cons_of_pos (by simp [hx])]
   refine Eq.trans (by rfl) ((ih mine (R8++[x]) (by omega) (by simp; omega)).trans ?_)
   simp
theorem aai {m:Nat} (hm:1048600<=m) (x0 x1 x2 x5:T) (l3 l4 l6 l7 l9:List (List T)) (outs:List aY) (at_:Int) (h:outs.length<=1048576) (K:T->T->T->T->T->T->T->T->T->T->T->T->An) :
  nR m x0 x1 x2 (.l l3) (.l l4) x5 (.l l6) (.l l7) (.l (rW outs)) (.l l9) (.i at_) K=K (.l (rW (Ib outs at_))) (.l (rW outs)) x0 x1 x2 (.l l3) (.l l4) x5 (.l l6) (.l l7) (.l (rW (Ol outs at_))) (.l l9):=by
 obtain ⟨m,rfl⟩:=aS m
 simp only [nR,T.ah,wL]
 rw [show (T.i ((rW outs).length:Int))=T.i ((([]:List aY)++outs).length:Nat) by simp]
 exact (SB m at_ _ _ _ _ _ _ _ _ _ outs [] [] [] (by simpa using h) (by simpa using h) (by simpa using h) m (by omega) _).trans rfl
theorem VD (m:Nat) (at_:Int) (x5 x6 x7 x8:T) (l10 E5 BI BJ EL Cu:List (List T)) : ∀ (post pre:List bq) (acc:List aY),pre.length+post.length<=1048576->acc.length+post.length<=1048576->∀ n,post.length<n->∀ k0,
  iT m n (.i 0) (.i at_) (.l (rR (pre++post))) (.i ((pre++post).length:Nat)) (.i pre.length) x5 x6 x7 x8 (.l (rW acc)) (.l l10) (.l E5) (.l BI) (.l BJ) (.l EL) (.l Cu) k0 =
   k0 (.i 0) x5 x6 x7 x8 (.l (rW (acc++post.map (Mg at_)))) (.l E5) (.l BI) (.l l10) (.l BJ) (.l EL) (.l Cu)
 | [],pre,acc,hs,ha,n,hn,k0=>by
  obtain ⟨n,rfl⟩:=aS n
  simp only [iT,T.aj,T.ah,aG,aQ,wL,aT]
  rw [jX]
  simp
 | x::post,pre,acc,hs,ha,n,hn,k0=>by
  obtain ⟨n,rfl⟩:=aS n
  simp only [List.length_cons] at hs hn ha
  have ih:=VD m at_ x5 x6 x7 x8 l10 E5 BI BJ EL Cu post (pre++[x]) (acc++[Mg at_ x]) (by simp; omega) (by simp; omega) n (by omega) k0
  rw [aF,List.append_assoc,List.singleton_append] at ih
  have e:rW acc++[[T.i 4,T.i at_,T.i x.tx,T.l [],T.b false]]=rW (acc++[Mg at_ x]):=by simp [Mg,aY.r]
  simp only [iT,T.aj,T.ah,T9,bE pre (by omega),r1,e,aG,aQ,wL,aT]
  rw [bD,bD,aK (by rw [dL]; unfold ak; omega)]
  refine Eq.trans (by rfl) (ih.trans ?_)
  simp
theorem aio (a b:Int) (h:0<=b):ow (qX a 0) b=min (max a 0) b:=by unfold ow qX; split <;> split <;> omega
theorem ab6 {m:Nat} (hm:3200030<=m) (s:aH) (hs:xX s) (keep:Int) (K:T->T->T->T->T->T->T->An) :
  rV m (.i s.id) (.l (rR s.log)) (.i s.sure) (.l (rP s.map)) (.l (rR s.held)) (.i keep) K =
   K (.l (rP s.map)) (.l (rR s.held)) (.i s.id) (.l (rR (fM s keep).log)) (.i (fM s keep).sure) (.l (rP (fM s keep).map)) (.l (rR (fM s keep).held)):=by
 obtain ⟨m,rfl⟩:=aS m
 have h1:=hs.vK
 have h2:=hs.sure
 have e1:IntKind.i64.wrap ((s.log.length:Int)-s.sure)=(s.log.length:Int)-s.sure:=wrap_i64 (by omega) (by omega)
 have e2:=aio keep ((s.log.length:Int)-s.sure) (by omega)
 have e3:IntKind.i64.wrap (s.sure+min (max keep 0) ((s.log.length:Int)-s.sure))=s.sure+min (max keep 0) ((s.log.length:Int)-s.sure):=wrap_i64 (by omega) (by omega)
 simp only [rV,T.ah,T.aj,eU,e1,e2,e3,wL]
 unfold fM
 dsimp only
 obtain ⟨q,hq⟩ : ∃ q:Nat,s.sure+min (max keep 0) ((s.log.length:Int)-s.sure)=(q:Int):=⟨(s.sure+min (max keep 0) ((s.log.length:Int)-s.sure)).toNat,by omega⟩
 rw [hq]
 rw [bD,bD]
 have e4:(rR s.log).take (Int.toNat (q:Int))=rR (s.log.take q):=by simp [rR]
 have e5:((s.log.take q).length:Int)=(q:Int):=by rw [List.length_take]; omega
 rw [e4,Int.toNat_natCast,Sk (by omega) (s.log.take q) (by rw [List.length_take]; omega) (fun r hr=>(hs.log r (List.mem_of_mem_take hr)).b),e5]
 simp only [T.ah]
theorem ab7 {m:Nat} (hm:3200070<=m) (w:aA) (h:RW w) (kind at_ k:Int) (hk:kind=5\/kind=8\/kind=9) (BJ:List (List T)) (J:T->KW) :
  rX m (.i w.c.n) (.i w.c.life) (.i w.c.next) (.l (rJ w.c.jobs)) (.l (rC w.c.log)) (.i w.c.sure) (.l (rS w.ay)) (.l (rW w.net)) (.l (rW w.outs)) (.l (rB w.begun)) (.i kind) (.i at_) (.i k) (.l BJ) (fun o a b c d e f g h i j=>J o a b c d e f g h i j) (fun o _ a b c d e f g h i j=>J o a b c d e f g h i j) =
   (fun q:Bool×aA=>kW (J (.b q.1)) q.2) (if ¬(0<=at_/\at_<=(w.ay.length:Int)-1) then (false,w) else (true,Af w kind at_ k)):=by
 obtain ⟨m,rfl⟩:=aS m
 have h1:=h.b.shl
 have h2:=h.b.Av
 have h3:=h.sI
 have e1:IntKind.i64.wrap (((rS w.ay).length:Int)-1)=(w.ay.length:Int)-1:=by rw [qO]; exact wrap_i64 (by omega) (by omega)
 simp only [rX,T.ah,T.aj,e1,aG,aQ,wL]
 rw [fK (by omega)]
 simp only [T.aI]
 by_cases c1:0<=at_/\at_<=(w.ay.length:Int)-1
 ·obtain ⟨pre,s,post,d1,d2,d3,d4,d5⟩:=Vf c1.1 (show at_<w.ay.length by omega)
  have hB:=h.b.sh s (by rw [d1]; simp)
  have hh:=hB.BH
  rw [decide_eq_true c1,aC (by rfl),if_neg (fun q=>q c1)]
  unfold Af vH
  simp only [d3,d4,d5]
  subst d2
  rw [d1,bD]
  simp only [ixS,sg1,sg4,s0,s1,s2,s3,s4,T.ah]
  have hB2:decide (Int.toNat (pre.length:Int)<(rS (pre++s::post)).length)=true:=decide_eq_true (by simp)
  simp only [hB2,cond_true]
  by_cases k5:kind=5
  ·rw [av (by simp [k5]),if_pos k5]
   have e6:s.r.set 2 (T.i ((rR s.log).length:Int))=aH.r { s with sure:=s.log.length }:=by simp [aH.r]
   rw [e6,F8,aai (by omega) _ _ _ _ _ _ _ _ _ w.outs _ (by omega)]
   simp only [T.ah]
   have hml:(Ib w.outs (pre.length:Int)).length<=w.outs.length:=List.length_filter_le _ _
   refine (KZ (by omega) _ _ _ _ _ _ _ _ _ w.net (Ib w.outs (pre.length:Int)) (by omega) h3 _).trans ?_
   rfl
  ·rw [aC (by simp [k5]),if_neg k5]
   by_cases k8:kind=8
   ·rw [av (by simp [k8]),if_neg (by omega),if_pos k8]
    obtain ⟨m,rfl⟩:=aS m
    simp only [zU,T.ah,T.aj,ixS,sg4,hB2,cond_true,aG,aQ,wL]
    rw [bD,show (T.i ((rR s.held).length:Int))=T.i ((([]:List bq)++s.held).length:Nat) by simp]
    refine (VD m (pre.length:Int) _ _ _ _ _ _ _ _ _ _ s.held [] [] (by simp; omega) (by simp; omega) m (by omega) _).trans ?_
    simp only [T.ah,List.nil_append]
    refine (KZ (by omega) _ _ _ _ _ _ _ _ _ w.net (s.held.map (Mg (pre.length:Int))) (by simp; omega) h3 _).trans ?_
    unfold kW
    simp only [d1]
    rfl
   ·have k9:kind=9:=by omega
    rw [aC (by simp [k8]),if_pos k9,ab6 (by omega) s hB]
    simp only [T.ah]
    have e:[T.i s.id,T.l (rR (fM s k).log),T.i (fM s k).sure,T.l (rP (fM s k).map),T.l (rR (fM s k).held)]=(fM s k).r:=rfl
    rw [e,F8,aai (by omega) _ _ _ _ _ _ _ _ _ w.outs _ (by omega)]
    rfl
 ·rw [decide_eq_false c1,av (by rfl),if_pos c1]
  rfl
theorem SC (m:Nat) (hm:1050200<=m) (c:dW) (j:dN) (hj:oL j.ops) (hj2:j.yes.length<=100000) (known yes:Bool) (x4 x5 x6:T) : ∀ (post pre:List Int) (acc:List aY),pre.length+post.length<=1048576->acc.length+post.length<=1048576->∀ n,post.length<n->∀ k0,
  fA m n (.l [[.i c.n,.i c.life,.i c.next,.l (rJ c.jobs),.l (rC c.log),.i c.sure]]) (.i 0) (.b yes) (.b known) x4 x5 x6 (.l (ir (pre++post))) (.i ((pre++post).length:Nat)) (.i pre.length) (.l (rW acc)) (.i j.tx) (.l (rO j.ops)) (.i j.state) (.l (ir j.yes)) k0 =
   k0 (.l [[.i c.n,.i c.life,.i c.next,.l (rJ c.jobs),.l (rC c.log),.i c.sure]]) x4 x5 x6 (.l (rW (acc++(if known then post.map (Db j.tx yes) else if j.state=1 then mR c.n j.tx j.ops j.yes post else []))))
 | [],pre,acc,hs,ha,n,hn,k0=>by
  obtain ⟨n,rfl⟩:=aS n
  simp only [fA,T.aj,T.ah,SA,aG,aQ,wL,aT]
  rw [jX]
  have:(if known=true then List.map (Db j.tx yes) [] else if j.state=1 then mR c.n j.tx j.ops j.yes [] else [])=[]:=by split; rfl; split <;> rfl
  rw [this,List.append_nil]
 | x::post,pre,acc,hs,ha,n,hn,k0=>by
  obtain ⟨n,rfl⟩:=aS n
  simp only [List.length_cons] at hs hn ha
  have ih:=fun acc a=>SC m hm c j hj hj2 known yes x4 x5 x6 post (pre++[x]) acc (by simp; omega) a n (by omega) k0
  rw [aF,List.append_assoc,List.singleton_append] at ih
  have et:[T.i c.n,T.i c.life,T.i c.next,T.l (rJ c.jobs),T.l (rC c.log),T.i c.sure].take 6=[T.i c.n,T.i c.life,T.i c.next,T.l (rJ c.jobs),T.l (rC c.log),T.i c.sure]:=rfl
  simp only [fA,jn,T.aj,T.ah,ixI,bE pre (by omega),SA,T.aI,et,aG,aQ,wL,aT]
  rw [bD,aK (by simp [ir]; omega)]
  cases known with
  | true =>
   rw [cond_true,aK (by rw [dL]; unfold ak; omega)]
   have e:rW acc++[[T.i 3,T.i x,T.i j.tx,T.l [],T.b yes]]=rW (acc++[Db j.tx yes x]):=by simp [Db,aY.r]
   rw [e]
   refine (ih (acc++[Db j.tx yes x]) (by simp; omega)).trans ?_
   simp
  | false =>
   rw [cond_false]
   by_cases k1:j.state=1
   ·rw [av (by simp [k1]),BG (by omega) j.yes x (by omega)]
    simp only [T.aI]
    simp only [k1,if_true,Bool.false_eq_true,if_false] at ih ⊢
    by_cases hx:x∈j.yes
    ·rw [decide_eq_true hx,aC (by rfl)]
     refine (ih acc (by omega)).trans ?_
     have:mR c.n j.tx j.ops j.yes (x::post)=mR c.n j.tx j.ops j.yes post:=by unfold mR; rw [List.filter_cons_of_neg (by simp [hx])]
     rw [this]
    ·rw [decide_eq_false hx,av (by rfl),K6 (by omega) c.n _ j.tx j.ops hj]
     simp only [T.ah]
     rw [aK (by rw [dL]; unfold ak; omega)]
     have e:rW acc++[[T.i 1,T.i x,T.i j.tx,T.l (rO (mQ j.ops x c.n)),T.b false]]=rW (acc++[EI c.n j.tx j.ops x]):=by simp [EI,aY.r]
     rw [e]
     refine (ih (acc++[EI c.n j.tx j.ops x]) (by simp; omega)).trans ?_
     have:mR c.n j.tx j.ops j.yes (x::post)=EI c.n j.tx j.ops x::mR c.n j.tx j.ops j.yes post:=by unfold mR; rw [List.filter_cons_of_pos (by simp [hx])]; rfl
     rw [this]
     simp
   ·rw [aC (by simp [k1])]
    simp only [cond_false]
    simp only [k1,Bool.false_eq_true,if_false,List.append_nil] at ih ⊢
    exact ih acc (by omega)
theorem Np (m:Nat) (hm:1050200<=m) (c:dW) (h:uy c) (hja : ∀ j∈c.jobs,j.state=1->(fD c j.tx).2=false) : ∀ (post pre:List dN) (acc:List aY),c.jobs=pre++post->acc.length+8 * post.length<=1048576->∀ n,post.length+100<n->∀ k0,
  fB m n (.l [[.i c.n,.i c.life,.i c.next,.l (rJ c.jobs),.l (rC c.log),.i c.sure]]) (.l (rJ (pre++post))) (.i ((pre++post).length:Nat)) (.i pre.length) (.l (rW acc)) k0=k0 (.l (rW (acc++post.flatMap (qN c))))
 | [],pre,acc,he,ha,n,hn,k0=>by
  obtain ⟨n,rfl⟩:=aS n
  simp only [fB,T.aj,T.ah,aG,aQ,wL,aT]
  rw [jX]
  simp
 | x::post,pre,acc,he,ha,n,hn,k0=>by
  obtain ⟨n,rfl⟩:=aS n
  simp only [List.length_cons] at hn ha
  have hjl:=h.Au
  have hlen:c.jobs.length=pre.length+(post.length+1):=by rw [he]; simp
  obtain ⟨b1,b2,b3⟩:=h.jobs x (by rw [he]; simp)
  have hjx:=hja x (by rw [he]; simp)
  have ih:=fun acc a=>Np m hm c h hja post (pre++[x]) acc (by rw [he]; simp) a n (by omega) k0
  rw [aF,List.append_assoc,List.singleton_append] at ih
  have et:[T.i c.n,T.i c.life,T.i c.next,T.l (rJ c.jobs),T.l (rC c.log),T.i c.sure].take 6=[T.i c.n,T.i c.life,T.i c.next,T.l (rJ c.jobs),T.l (rC c.log),T.i c.sure]:=rfl
  have e0:[T.i c.n,T.i c.life,T.i c.next,T.l (rJ c.jobs),T.l (rC c.log),T.i c.sure].getD 0 dflt = .i c.n:=rfl
  have s1:=kC x.ops c.n
  simp only [fB,T.aj,T.ah,ixJ,bE pre (by omega),j0,j1,j2,j3,SA,et,e0,aG,aQ,wL,aT]
  rw [bD,bD,Sz (by omega) c h,Ac (by omega) x.ops c.n b1]
  simp only [T.ah]
  rw [show (T.i ((ir (bg x.ops c.n)).length:Int))=T.i ((([]:List Int)++bg x.ops c.n).length:Nat) by simp [d9]]
  refine (SC m hm c x b1 b3 (fD c x.tx).2 (fD c x.tx).1 _ _ _ (bg x.ops c.n) [] acc (by simp; omega) (by omega) n (by omega) _).trans ?_
  simp only [T.ah,T.aj,SA,bE pre (by omega)]
  have e:(if (fD c x.tx).2=true then (bg x.ops c.n).map (Db x.tx (fD c x.tx).1) else if x.state=1 then mR c.n x.tx x.ops x.yes (bg x.ops c.n) else [])=qN c x:=by
   unfold qN
   by_cases k1:x.state=1
   ·rw [if_pos k1,if_pos k1,hjx k1]; rfl
   ·rw [if_neg k1,if_neg k1]
  rw [e]
  have hl:=Ja c x
  refine (ih (acc++qN c x) (by simp; omega)).trans ?_
  rw [List.flatMap_cons,List.append_assoc]
theorem aaj {m:Nat} (hm:1050210<=m) (c:dW) (h:uy c) (hja : ∀ j∈c.jobs,j.state=1->(fD c j.tx).2=false) (K:T->An) :
  pz m (.l [[.i c.n,.i c.life,.i c.next,.l (rJ c.jobs),.l (rC c.log),.i c.sure]]) K=K (.l (rW (xH c))):=by
 obtain ⟨m,rfl⟩:=aS m
 have h1:=h.Au
 have e3:([T.i c.n,T.i c.life,T.i c.next,T.l (rJ c.jobs),T.l (rC c.log),T.i c.sure].drop 3).getD 0 dflt = .l (rJ c.jobs):=rfl
 simp only [pz,SA,e3,T.ah,wL]
 rw [show (T.i ((rJ c.jobs).length:Int))=T.i ((([]:List dN)++c.jobs).length:Nat) by simp]
 exact (Np m (by omega) c h hja c.jobs [] [] rfl (by simp; omega) m (by omega) _).trans rfl
theorem ab8 {m:Nat} (hm:1<=m) (c:dW) (h:uy c) (hl:c.life≠900) (keep:Int) (K:T->T->T->T->T->T->T->An) :
  rY m (.i c.n) (.i c.life) (.i c.next) (.l (rJ c.jobs)) (.l (rC c.log)) (.i c.sure) (.i keep) K =
   K (.l (rJ c.jobs)) (.i c.n) (.i (jW c keep).2.life) (.i (jW c keep).2.next) (.l (rJ (jW c keep).2.jobs)) (.l (rC (jW c keep).2.log)) (.i (jW c keep).2.sure):=by
 obtain ⟨m,rfl⟩:=aS m
 have h1:=h.vK
 have h2:=h.sure
 have h3:=h.life
 have e1:IntKind.i64.wrap ((c.log.length:Int)-c.sure)=(c.log.length:Int)-c.sure:=wrap_i64 (by omega) (by omega)
 have e2:=aio keep ((c.log.length:Int)-c.sure) (by omega)
 have e3:IntKind.i64.wrap (c.sure+min (max keep 0) ((c.log.length:Int)-c.sure))=c.sure+min (max keep 0) ((c.log.length:Int)-c.sure):=wrap_i64 (by omega) (by omega)
 have e4:IntKind.i64.wrap (c.life+1)=c.life+1:=wrap_i64 (by omega) (by omega)
 simp only [rY,T.ah,T.aj,iG,e1,e2,e3,e4,wL,aT]
 unfold jW
 rw [if_neg hl]
 dsimp only
 obtain ⟨q,hq⟩ : ∃ q:Nat,c.sure+min (max keep 0) ((c.log.length:Int)-c.sure)=(q:Int):=⟨(c.sure+min (max keep 0) ((c.log.length:Int)-c.sure)).toNat,by omega⟩
 rw [hq]
 rw [bD,bD]
 have e5:(rC c.log).take (Int.toNat (q:Int))=rC (c.log.take q):=by simp [rC]
 have e6:((c.log.take q).length:Int)=(q:Int):=by rw [List.length_take]; omega
 rw [e5,Int.toNat_natCast,e6]
 rfl
theorem apX (a b c r:Int) (g:T->An):jn (fun (j:T->An)=>cond (r==a) (j (T.b true)) (cond (r==b) (j (T.b true)) (j (T.b (r==c))))) g=g (T.b (decide (r=a\/r=b\/r=c))):=sw3 a b c r g
theorem XH {m:Nat} (hm:3200090<=m) (w:aA) (h:RW2 w) (e:eB) (ho:oL e.ops) (J:T->KW) :
  pX m (.i w.c.n) (.i w.c.life) (.i w.c.next) (.l (rJ w.c.jobs)) (.l (rC w.c.log)) (.i w.c.sure) (.l (rS w.ay)) (.l (rW w.net)) (.l (rW w.outs)) (.l (rB w.begun)) (.i e.kind) (.i e.at_) (.i e.n) (.l (rO e.ops))
   (fun o a b c d e f g h i j=>J o a b c d e f g h i j) (fun o _ a b c d e f g h i j=>J o a b c d e f g h i j) (fun o _ a b c d e f g h i j=>J o a b c d e f g h i j)=kW (J (.b (ae7 w e).1)) (ae7 w e).2:=by
 obtain ⟨m,rfl⟩:=aS m
 simp only [pX,T.ah,T.aj,wL]
 unfold ae7
 by_cases k1:e.kind=1
 ·rw [av (by simp [k1]),if_neg (by omega),ab4 (by omega) w h e.ops ho]
  unfold G6
  rw [if_pos k1]
  rfl
 rw [aC (by simp [k1]),apX 2 3 4 e.kind]
 simp only [T.aI]
 by_cases k2:e.kind=2\/e.kind=3\/e.kind=4
 ·have hd:G6 w e=G5 w e.kind e.at_:=by unfold G6; rw [if_neg k1,if_pos k2]
  rw [aK k2,ae8 (by omega) w h.r _ _ k2,hd]
  rfl
 rw [dn k2,apX 5 8 9 e.kind,if_neg (by omega)]
 unfold G6
 rw [if_neg k1,if_neg k2]
 simp only [T.aI]
 by_cases k5:e.kind=5\/e.kind=8\/e.kind=9
 ·rw [aK k5,if_pos k5]
  exact (ab7 (by omega) w h.r e.kind e.at_ e.n k5 _ (fun o a b c d e f g h i j=>J o a b c (T.l d.rows) (T.l e.rows) f (T.l g.rows) (T.l h.rows) (T.l i.rows) (T.l j.rows))).trans rfl
 rw [dn k5,if_neg k5]
 by_cases k6:e.kind=6
 ·rw [av (by simp [k6]),if_pos k6,iG]
  rfl
 rw [aC (by simp [k6]),if_neg k6]
 by_cases k7:e.kind=7
 ·obtain ⟨t1,t2⟩:=Vi h.r.b.c
  rw [av (by simp [k7]),if_pos k7,aaj (by omega) w.c h.r.b.c h.ja]
  simp only [T.ah]
  exact (KZ (by omega) _ _ _ _ _ _ _ _ _ w.net (xH w.c) (by omega) h.r.sI _).trans rfl
 rw [aC (by simp [k7]),if_neg k7]
 by_cases k10:e.kind=10
 ·rw [av (by simp [k10]),if_pos k10]
  by_cases c9:w.c.life=900
  ·rw [av (by simp [c9])]
   have:jW w.c e.n=(false,w.c):=by unfold jW; rw [if_pos c9]
   rw [this]
   rfl
  ·rw [aC (by simpa using c9),ab8 (by omega) w.c h.r.b.c c9]
   have:(jW w.c e.n).1=true/\(jW w.c e.n).2.n=w.c.n:=by unfold jW; rw [if_neg c9]; exact ⟨rfl,rfl⟩
   unfold kW
   simp only [this.1,this.2,T.ah]
 rw [aC (by simp [k10]),if_neg k10]
 rfl
theorem bW.rw2 {w:aA} (h:bW w):RW2 w:=⟨h.rw,h.yS,fun j hj hs=>by
 have hj':=h.jobs j hj
 have ht:=hj'.tx
 rcases hj'.st with ⟨-,hc⟩ | ⟨h2,-⟩ | ⟨h2,-⟩
 ·unfold fD
  split
  ·rfl
  ·have:oM j.tx w.c.log=none:=by
    have key : ∀ l:List bA,(∀ c∈l,c.tx≠j.tx)->oM j.tx l=none:=by
     intro l
     induction l with
     | nil=>intro _; rfl
     | cons x l ih =>
      intro hh
      unfold oM
      rw [if_neg (hh x (by simp)),ih fun c hc=>hh c (by simp [hc])]
      rfl
    exact key _ hc
   rw [this]
   simp only []
   exact decide_eq_false (by omega)
 ·omega
 ·omega⟩
end Go.Proofs.YtpchnmbcbcfhjaaGreat

namespace Go.Proofs.YtpchnmbcbcfhjaaGreat
open Go Go.E Go.Proofs
theorem aak (m:Nat) (hm:3<=m) : ∀ (post pre:List bq),(∀ x∈post,x.ops.length<=1048576)->pre.length+post.length<=1048576->∀ n,post.length<n->∀ k0,
  gY m n (.l (rR (pre++post))) (.i pre.length) (.l (rR pre)) k0=k0 (.l (rR (pre++post)))
 | [],pre,ho,hs,n,hn,k0=>by
  obtain ⟨n,rfl⟩:=aS n
  simp only [gY,T.aj,T.ah,aG,aQ,wL,jl,aT]
  rw [jX,List.append_nil]
 | x::post,pre,ho,hs,n,hn,k0=>by
  obtain ⟨n,rfl⟩:=aS n
  simp only [List.length_cons] at hs hn
  have ih:=aak m hm post (pre++[x]) (fun j hj=>ho j (by simp [hj])) (by simp; omega) n (by omega) k0
  rw [aF,List.append_assoc,List.singleton_append] at ih
  have e:rR pre++[x.r]=rR (pre++[x]):=by simp
  simp only [gY,T.aj,T.ah,T9,bE pre (by omega),r0,r1,r2,aG,aQ,wL,jl,aT]
  rw [bD,bD,Xv (by omega) _ _ x.ops (ho x (by simp))]
  simp only [T.ah,adD,e]
  rw [aK (by simp; unfold ak; omega)]
  exact ih
theorem VE {m:Nat} (hm:1048600<=m) (l:List bq) (h1:l.length<=1048576) (h2 : ∀ x∈l,x.ops.length<=1048576) (K:T->An):pO m (.l (rR l)) K=K (.l (rR l)):=by
 obtain ⟨m,rfl⟩:=aS m
 simp only [pO,T.ah,wL]
 exact (aak m (by omega) l [] h2 (by simpa using h1) m (by omega) _).trans rfl
theorem ab9 {m:Nat} (hm:1048610<=m) (s:aH) (h:PS1 s) (K:T->T->T->T->T->An) :
  Bu m (.i s.id) (.l (rR s.log)) (.i s.sure) (.l (rP s.map)) (.l (rR s.held)) K=K (.i s.id) (.l (rR s.log)) (.i s.sure) (.l (rP s.map)) (.l (rR s.held)):=by
 obtain ⟨m,rfl⟩:=aS m
 simp only [Bu,T.ah,wL]
 rw [VE (by omega) s.log h.log h.ajH,aK (by rw [uw]; have:=h.map; unfold ak; omega),VE (by omega) s.held h.held h.alp]
 simp only [T.ah]
theorem aal (m:Nat) (hm:3<=m) : ∀ (post pre:List aY),(∀ x∈post,x.ops.length<=1048576)->pre.length+post.length<=1048576->∀ n,post.length<n->∀ k0,
  fT m n (.l (rW (pre++post))) (.i pre.length) (.l (rW pre)) k0=k0 (.l (rW (pre++post)))
 | [],pre,ho,hs,n,hn,k0=>by
  obtain ⟨n,rfl⟩:=aS n
  simp only [fT,T.aj,T.ah,aG,aQ,wL,jl,aT]
  rw [jX,List.append_nil]
 | x::post,pre,ho,hs,n,hn,k0=>by
  obtain ⟨n,rfl⟩:=aS n
  simp only [List.length_cons] at hs hn
  have ih:=aal m hm post (pre++[x]) (fun j hj=>ho j (by simp [hj])) (by simp; omega) n (by omega) k0
  rw [aF,List.append_assoc,List.singleton_append] at ih
  have e:rW pre++[x.r]=rW (pre++[x]):=by simp
  simp only [fT,T.aj,T.ah,ixW,bE pre (by omega),w0,w1,w2,w3,w4,aG,aQ,wL,jl,aT]
  rw [bD,bD,R5 (by omega) _ _ _ _ x.ops (ho x (by simp))]
  simp only [T.ah,R4,e]
  rw [aK (by simp; unfold ak; omega)]
  exact ih
theorem SE {m:Nat} (hm:1048600<=m) (l:List aY) (h1:l.length<=1048576) (h2 : ∀ x∈l,x.ops.length<=1048576) (K:T->An):nP m (.l (rW l)) K=K (.l (rW l)):=by
 obtain ⟨m,rfl⟩:=aS m
 simp only [nP,T.ah,wL]
 exact (aal m (by omega) l [] h2 (by simpa using h1) m (by omega) _).trans rfl
theorem aam (m:Nat) (hm:1<=m) (x4 x5 x6 x8 x9 x10 bC dw dO fO kF mO mY:T) (Cv K8 Dn:List (List T)) : ∀ (post pre:List dN),(∀ j∈post,j.ops.length<=1048576/\j.yes.length<=1048576)->pre.length+post.length<=1048576->∀ n,post.length<n->∀ k0,
  kN m n (.i 0) (.i 0) (.i 0) (.i pre.length) x4 x5 x6 (.l (rJ (pre++post))) x8 x9 x10 bC dw dO fO kF mO mY (.l Cv) (.l K8) (.l (rJ pre)) (.l Dn) k0 =
   k0 (.i 0) (.i 0) x10 bC dw dO fO kF mO mY (.l Cv) (.l K8) (.l (rJ (pre++post))) (.l Dn)
 | [],pre,ho,hs,n,hn,k0=>by
  obtain ⟨n,rfl⟩:=aS n
  simp only [kN,T.aj,T.ah,aG,aQ,wL,jl,aT]
  rw [jX,List.append_nil]
  rfl
 | x::post,pre,ho,hs,n,hn,k0=>by
  obtain ⟨n,rfl⟩:=aS n
  simp only [List.length_cons] at hs hn
  obtain ⟨h1,h2⟩:=ho x (by simp)
  have ih:=aam m hm x4 x5 x6 x8 x9 x10 bC dw dO fO kF mO mY Cv K8 Dn post (pre++[x]) (fun j hj=>ho j (by simp [hj])) (by simp; omega) n (by omega) k0
  rw [aF,List.append_assoc,List.singleton_append] at ih
  have e:rJ pre++[x.r]=rJ (pre++[x]):=by simp
  simp only [kN,T.aj,T.ah,ixJ,bE pre (by omega),j0,j1,j2,j3,aG,aQ,wL,jl,aT]
  rw [bD,bD,Es (by omega) x.ops h1]
  simp only [T.ah,ail,e]
  rw [aK (by rw [d9]; unfold ak; omega),aK (by simp; unfold ak; omega)]
  exact ih
theorem acd {m:Nat} (hm:1048600<=m) (c:dW) (h1:c.jobs.length<=1048576) (h2 : ∀ j∈c.jobs,j.ops.length<=1048576/\j.yes.length<=1048576) (h3:c.log.length<=1048576) (K:T->T->T->T->T->T->An) :
  yM m (.i c.n) (.i c.life) (.i c.next) (.l (rJ c.jobs)) (.l (rC c.log)) (.i c.sure) K=K (.i c.n) (.i c.life) (.i c.next) (.l (rJ c.jobs)) (.l (rC c.log)) (.i c.sure):=by
 obtain ⟨m,rfl⟩:=aS m
 simp only [yM,T.ah,wL]
 rw [aK (by rw [iG]; unfold ak; omega)]
 exact (aam m (by omega) _ _ _ _ _ _ _ _ _ _ _ _ _ _ _ _ c.jobs [] h2 (by simpa using h1) m (by omega) _).trans rfl
theorem aan (m:Nat) (hm:1048610<=m) (x4 x5 x6 x7 x8 x9 bC dw dO fO kF mO mY x18 nC x20 x21:T) (BK Nh SX SY S9 Ta Tc l29 l31 l32 l33:List (List T)) : ∀ (post pre:List aH),(∀ s∈post,PS1 s)->pre.length+post.length<=1048576->∀ n,post.length<n->∀ k0,
  kS m n (.i 0) (.i 0) (.i 0) (.i pre.length) x4 x5 x6 x7 x8 x9 (.l (rS (pre++post))) bC dw dO fO kF mO mY x18 nC x20 x21 (.l BK) (.l Nh) (.l SX) (.l SY) (.l S9) (.l Ta) (.l Tc) (.l l29) (.l (rS pre)) (.l l31) (.l l32) (.l l33) k0 =
   k0 (.i 0) (.i 0) (.i 0) x4 x5 x6 x7 x8 x9 (.l (rS (pre++post))) bC dw dO fO kF mO mY x18 nC x20 x21 (.l BK) (.l Nh) (.l SX) (.l SY) (.l S9) (.l Ta) (.l Tc) (.l l29) (.l (rS (pre++post))) (.l l31) (.l l32) (.l l33)
 | [],pre,ho,hs,n,hn,k0=>by
  obtain ⟨n,rfl⟩:=aS n
  simp only [kS,T.aj,T.ah,aG,aQ,wL,jl,aT]
  rw [jX,List.append_nil]
  rfl
 | x::post,pre,ho,hs,n,hn,k0=>by
  obtain ⟨n,rfl⟩:=aS n
  simp only [List.length_cons] at hs hn
  have ih:=aan m hm x4 x5 x6 x7 x8 x9 bC dw dO fO kF mO mY x18 nC x20 x21 BK Nh SX SY S9 Ta Tc l29 l31 l32 l33 post (pre++[x]) (fun j hj=>ho j (by simp [hj])) (by simp; omega) n (by omega) k0
  rw [aF,List.append_assoc,List.singleton_append] at ih
  have e:rS pre++[x.r]=rS (pre++[x]):=by simp
  simp only [kS,T.aj,T.ah,ixS,bE pre (by omega),sg0,sg1,sg2,sg3,sg4,aG,aQ,wL,jl,aT]
  rw [bD,bD,ab9 hm x (ho x (by simp))]
  simp only [T.ah,alq,e]
  rw [aK (by simp; unfold ak; omega)]
  exact ih
theorem aao (m:Nat) (hm:1<=m) (x4 x5 x6 x7 x8 x9 x10 bC dw fO kF mO mY x18 nC x20 x21:T) (BK Nh SX SY S9 Ta Tc l29 l30 l31 l32:List (List T)) : ∀ (post pre:List dG),(∀ s∈post,s.ops.length<=1048576)->pre.length+post.length<=1048576->∀ n,post.length<n->∀ k0,
  kR m n (.i 0) (.i 0) (.i 0) (.i pre.length) x4 x5 x6 x7 x8 x9 x10 bC dw (.l (rB (pre++post))) fO kF mO mY x18 nC x20 x21 (.l BK) (.l Nh) (.l SX) (.l SY) (.l S9) (.l Ta) (.l Tc) (.l l29) (.l l30) (.l l31) (.l l32) (.l (rB pre)) k0 =
   k0 (.i 0) (.i 0) fO kF mO mY x18 nC x20 x21 (.l BK) (.l Nh) (.l SX) (.l SY) (.l S9) (.l Ta) (.l Tc) (.l l29) (.l l30) (.l l31) (.l l32) (.l (rB (pre++post)))
 | [],pre,ho,hs,n,hn,k0=>by
  obtain ⟨n,rfl⟩:=aS n
  simp only [kR,T.aj,T.ah,uM,aG,aQ,wL,jl,aT]
  rw [jX,List.append_nil]
  rfl
 | x::post,pre,ho,hs,n,hn,k0=>by
  obtain ⟨n,rfl⟩:=aS n
  simp only [List.length_cons] at hs hn
  have ih:=aao m hm x4 x5 x6 x7 x8 x9 x10 bC dw fO kF mO mY x18 nC x20 x21 BK Nh SX SY S9 Ta Tc l29 l30 l31 l32 post (pre++[x]) (fun j hj=>ho j (by simp [hj])) (by simp; omega) n (by omega) k0
  rw [aF,List.append_assoc,List.singleton_append] at ih
  have e:rB pre++[x.r]=rB (pre++[x]):=by simp
  simp only [kR,T.aj,T.ah,ixB,bE pre (by omega),b0,bd1,uM,aG,aQ,wL,jl,aT]
  rw [bD,bD,bD,Es (by omega) x.ops (ho x (by simp))]
  simp only [T.ah,ain,e]
  rw [aK (by simp; unfold ak; omega)]
  exact ih
theorem ace {m:Nat} (hm:1048630<=m) (w:aA) (h:PW w) (K:KW) :
  yN m (.i w.c.n) (.i w.c.life) (.i w.c.next) (.l (rJ w.c.jobs)) (.l (rC w.c.log)) (.i w.c.sure) (.l (rS w.ay)) (.l (rW w.net)) (.l (rW w.outs)) (.l (rB w.begun)) K=kW K w:=by
 obtain ⟨m,rfl⟩:=aS m
 simp only [yN,T.ah,wL]
 have h6:=h.shl
 have h9:=h.yS
 rw [acd (by omega) w.c h.Au h.jobs h.log,SE (by omega) w.net h.sI h.net,SE (by omega) w.outs h.Av h.outs]
 simp only [T.ah]
 refine (aan m (by omega) _ _ _ _ _ _ _ _ _ _ _ _ _ _ _ _ _ _ _ _ _ _ _ _ _ _ _ _ w.ay [] h.sh (by simpa using h6) m (by omega) _).trans ?_
 simp only [T.ah,T.aj]
 refine (aao m (by omega) _ _ _ _ _ _ _ _ _ _ _ _ _ _ _ _ _ _ _ _ _ _ _ _ _ _ _ _ w.begun [] h.Ag (by simpa using h9) m (by omega) _).trans ?_
 simp only [T.ah]
 rfl
end Go.Proofs.YtpchnmbcbcfhjaaGreat

namespace Go.Proofs.YtpchnmbcbcfhjaaGreat
open Go Go.E Go.Proofs
def eB.r (e:eB):List T:=[.i e.kind,.i e.at_,.i e.n,.l (rO e.ops)]
abbrev rE (l:List eB):List (List T):=l.map eB.r
theorem aip (l:List eB):(rE l).length=l.length:=by simp
theorem ixE (pre:List eB) (x:eB) (post:List eB):(rE (pre++x::post)).getD (Int.toNat (pre.length:Int)) []=x.r:=by simp [List.getD]
theorem e0 (x:eB):x.r.getD 0 dflt = .i x.kind:=rfl
theorem e1 (x:eB):x.r.getD 1 dflt = .i x.at_:=rfl
theorem e2 (x:eB):x.r.getD 2 dflt = .i x.n:=rfl
theorem e3 (x:eB):x.r.getD 3 dflt = .l (rO x.ops):=rfl
theorem Mh.b {e:eB} (h:Mh e):oL e.ops:=⟨by have:=h.opl; omega,fun o ho=>(h.ops o ho).b⟩
theorem ajI {m:Nat} (hm:3200200<=m) {b:List (List T)} {i:Int} (hi:At b i) (x:T) (most:Int) (h1:1<=most) (h2:most<=256) : ∃ (w:aA) (i':Int) (x':T),bW w/\At b i' /\ ∀ K,yL m (.l b) (.i i) x (.i most) K =
  K (.i w.c.n) (.i w.c.life) (.i w.c.next) (.l (rJ w.c.jobs)) (.l (rC w.c.log)) (.i w.c.sure) (.l (rS w.ay)) (.l (rW w.net)) (.l (rW w.outs)) (.l (rB w.begun)) (.l b) (.i i') x':=by
 obtain ⟨m,rfl⟩:=aS m
 obtain ⟨N,i1,x1,hN,g1,hk1⟩:=RF (m:=m) (by omega) hi x [3,2,3,1] (by decide) (by decide)
 have hN2:1<=N/\N<=8:=by simp at hN; omega
 obtain ⟨q,i2,x2,q1,q2,g2,hk2⟩:=nW (m:=m) (by omega) g1 x1 (n:=most) (by omega) (by omega)
 obtain ⟨w',i',x',f1,f2,f3,f4⟩:=Sc m (by omega) (.i 0) (.i 0) (.i 0) (.i 0) [] [] [] [] [] [] q.toNat i2 x2 (Ct N) g2 (ahU hN2) (by omega) m (by omega)
 refine ⟨w',i',x',f1.1,f3,fun K=>?_⟩
 simp only [yL,T.ah,wL]
 simp only [List.map_cons,List.map_nil] at hk1
 rw [hk1,ZL (by omega) hN2]
 unfold kW
 simp only [T.ah]
 rw [hk2]
 have er:q=((q.toNat:Nat):Int):=by omega
 simp only [T.ah]
 rw [er]
 exact (f4 _).trans rfl
theorem SF (m:Nat) (hm:3200200<=m) {b:List (List T)} (dw dO fO kF:T) (Dn BK Nh SX SY S9 Ta Tc l29 l30 l31 l32:List (List T)) : ∀ (j:Nat) (i:Int) (x:T) (w:aA) (acc:List eB),At b i->bW w->acc.length+j<=1000->(∀ e∈acc,Mh e)->∀ n,j<n ->
  ∃ es:List eB,es.length<=acc.length+j/\(∀ e∈es,Mh e) /\ ∀ k0,gT m n (.i 0) (.i 0) (.i 0) (.i 0) (.i (j:Int)) (.i 0) (.i 0) (.i 0) (.i 0) (.l b) (.i i) x dw dO fO kF (.i w.c.n) (.i w.c.life) (.i w.c.next) (.i w.c.sure) (.l (rE acc)) (.l Dn) (.l BK) (.l Nh) (.l SX) (.l SY) (.l S9) (.l Ta) (.l Tc) (.l l29) (.l l30) (.l l31) (.l l32) (.l (rJ w.c.jobs)) (.l (rC w.c.log)) (.l (rS w.ay)) (.l (rW w.net)) (.l (rW w.outs)) (.l (rB w.begun)) k0 =
   k0 (.i 0) (.i 0) (.i 0) (.i 0) (.i 0) (.i 0) dw dO fO kF (.l (rE es)) (.l Dn) (.l BK) (.l Nh) (.l SX) (.l SY) (.l S9) (.l Ta) (.l Tc) (.l l29) (.l l30) (.l l31) (.l l32)
 | 0,i,x,w,acc,hi,h,hj,ha,n,hn=>by
  obtain ⟨n,rfl⟩:=aS n
  refine ⟨acc,by omega,ha,fun k0=>?_⟩
  simp only [gT,T.aj,T.ah,wL]
  rw [jX]
  rfl
 | j+1,i,x,w,acc,hi,h,hj,ha,n,hn=>by
  obtain ⟨n,rfl⟩:=aS n
  have hB:=vG.of h
  have hn8:=h.n
  have hsl:=h.shl
  have hnl:=h.sI
  obtain ⟨e,i1,x1,eo,h1,hk1⟩:=ZH (m:=m) (by omega) hi x w (by omega) (by omega)
  have hw1:=h.do_ e eo.ops
  obtain ⟨es,g1,g2,g3⟩:=SF m hm dw dO fO kF Dn BK Nh SX SY S9 Ta Tc l29 l30 l31 l32 j i1 x1 (G6 w e).2 (acc++[e]) h1 hw1 (by simp; omega) (fun q hq=>by rcases List.mem_append.1 hq with hq | hq; exact ha q hq; rw [List.mem_singleton.1 hq]; exact eo) n (by omega)
  refine ⟨es,by simp at g1; omega,g2,fun k0=>?_⟩
  have f4:IntKind.i64.wrap (((j+1:Nat):Int)-1)=(j:Int):=by rw [wrap_i64 (by omega) (by omega)]; omega
  have ee:rE acc++[[T.i e.kind,T.i e.at_,T.i e.n,T.l (rO e.ops)]]=rE (acc++[e]):=by simp [eB.r]
  simp only [gT,T.aj,T.ah,f4,wL]
  rw [bD,jnE,hk1]
  simp only [T.ah,ee]
  have dl:decide (((rE acc).length+1) * 4<=ak)=true:=decide_eq_true (by rw [aip]; unfold ak; omega)
  simp only [dl,cond_true]
  refine (alg (by omega) w hB h.range e eo.b (by have:=eo.n; omega) (fun _ a b' c d e' f g h i j'=>gT m n (T.i (((0:Int).toNat:Nat):Int)) (T.i (((0:Int).toNat:Nat):Int)) (T.i (((0:Int).toNat:Nat):Int)) (T.i (((0:Int).toNat:Nat):Int)) (T.i (j:Int)) (T.i 0) (T.i 0) (T.i 0) (T.i 0) (T.l b) (.i i1) x1 dw dO fO kF a b' c f (T.l (rE (acc++[e]))) (T.l Dn) (T.l BK) (T.l Nh) (T.l SX) (T.l SY) (T.l S9) (T.l Ta) (T.l Tc) (T.l l29) (T.l l30) (T.l l31) (T.l l32) (T.l d.rows) (T.l e'.rows) (T.l g.rows) (T.l h.rows) (T.l i.rows) (T.l j'.rows) k0)).trans ?_
  exact g3 k0
theorem aap {m:Nat} (hm:3200300<=m) (b:List (List T)) (hb:b.length<=1048576) : ∃ (w:aA) (es:List eB),bW w/\es.length<=24/\(∀ e∈es,Mh e) /\ ∀ K:T->T->T->T->T->T->T->T->T->T->T->An,wN m (.l b) K=kW (fun a b c d e f g h i j=>K a b c d e f g h i j (.l (rE es))) w:=by
 obtain ⟨m,rfl⟩:=aS m
 obtain ⟨x,hx⟩:=ahw (m:=m) (b:=b) hb (by omega)
 obtain ⟨sz,s1,s2,hs⟩:=abG (m:=m) (by omega) b hb 24 (by omega)
 have hAt:At b 0:=⟨by omega,by omega,hb⟩
 obtain ⟨w,i1,x1,h,h1,hk1⟩:=ajI (m:=m) (by omega) hAt x 2 (by omega) (by omega)
 obtain ⟨q,i2,x2,q1,q2,h2,hk2⟩:=nW (m:=m) (by omega) h1 x1 (n:=sz) (by omega) (by omega)
 obtain ⟨es,g1,g2,g3⟩:=SF m (by omega) (.i w.c.n) (.i w.c.life) (.i w.c.next) (.i w.c.sure) [] [] [] [] [] [] (rJ w.c.jobs) (rC w.c.log) (rS w.ay) (rW w.net) (rW w.outs) (rB w.begun) q.toNat i2 x2 w [] h2 h (by simp; omega) (fun e he=>(nomatch he)) m (by omega)
 refine ⟨w,es,h,by simp at g1; omega,g2,fun K=>?_⟩
 simp only [wN,T.ah,wL]
 rw [hx]
 simp only [T.ah]
 rw [hk1]
 simp only [T.ah]
 rw [ace (by omega) w h.pw]
 unfold kW
 simp only [T.ah]
 rw [hs,hk2]
 have er:q=((q.toNat:Nat):Int):=by omega
 simp only [T.ah]
 rw [er]
 refine (g3 _).trans ?_
 simp only [T.ah]
def uz (w:aA) (l:List eB):aA:=l.foldl (fun w e=>(G6 w e).2) w
theorem Ji : ∀ (l:List eB) (w:aA),bW w->(∀ e∈l,Mh e)->bW (uz w l)
 | [],w,h,_=>h
 | e::l,w,h,ho=>Ji l _ (h.do_ e (ho e (by simp)).ops) fun q hq=>ho q (by simp [hq])
theorem aaq : ∀ (l:List eB) (w:aA),(uz w l).c.n=w.c.n
 | [],w=>rfl
 | e::l,w=>(aaq l _).trans (ali w e)
abbrev KP:=T->T->T->T->T->T->T->T->T->T->T->T->T->T->T->T->T->T->T->T->T->T->An
abbrev kP (J:KP) (x5 x6 x7 x8:T) (BJ EL Cu Cr Ae Cv:List (List T)) (w:aA):An:=J (.i 0) (.i 0) x5 x6 x7 x8 (.i w.c.n) (.i w.c.life) (.i w.c.next) (.i w.c.sure) (.l BJ) (.l EL) (.l Cu) (.l Cr) (.l Ae) (.l Cv) (.l (rJ w.c.jobs)) (.l (rC w.c.log)) (.l (rS w.ay)) (.l (rW w.net)) (.l (rW w.outs)) (.l (rB w.begun))
theorem SG (m:Nat) (hm:3200100<=m) (x5 x6 x7 x8:T) (BJ EL Cu Cr Ae Cv:List (List T)) (k1:KP) : ∀ (post pre:List eB) (w:aA),bW w->(∀ e∈post,Mh e)->pre.length+post.length<=1048576->∀ n,post.length<n->∀ k0,
  ku m n (.i 0) (.i 0) (.l (rE (pre++post))) (.i ((pre++post).length:Nat)) (.i pre.length) x5 x6 x7 x8 (.i w.c.n) (.i w.c.life) (.i w.c.next) (.i w.c.sure) (.l BJ) (.l EL) (.l Cu) (.l Cr) (.l Ae) (.l Cv) (.l (rJ w.c.jobs)) (.l (rC w.c.log)) (.l (rS w.ay)) (.l (rW w.net)) (.l (rW w.outs)) (.l (rB w.begun)) k0 k1=kP k0 x5 x6 x7 x8 BJ EL Cu Cr Ae Cv (uz w post)
 | [],pre,w,h,ho,hs,n,hn,k0=>by
  obtain ⟨n,rfl⟩:=aS n
  simp only [ku,T.aj,T.ah,aG,aQ,wL,aT]
  rw [jX]
  rfl
 | e::post,pre,w,h,ho,hs,n,hn,k0=>by
  obtain ⟨n,rfl⟩:=aS n
  simp only [List.length_cons] at hs hn
  have eo:=ho e (by simp)
  have hw:=h.do_ e eo.ops
  have ih:=SG m hm x5 x6 x7 x8 BJ EL Cu Cr Ae Cv k1 post (pre++[e]) (G6 w e).2 hw (fun q hq=>ho q (by simp [hq])) (by simp; omega) n (by omega) k0
  rw [aF,List.append_assoc,List.singleton_append] at ih
  simp only [ku,jn,T.aj,T.ah,ixE,bE pre (by omega),e0,e1,e2,e3,aG,aQ,wL,aT]
  rw [bD,bD]
  refine (XH (by omega) w h.rw2 e eo.b (fun _ a b c d e' f g h i j=>ku m n (T.i (((0:Int).toNat:Nat):Int)) (T.i (((0:Int).toNat:Nat):Int)) (T.l (rE (pre++e::post))) (.i ((pre++e::post).length:Nat)) (T.i ((pre.length:Int)+1)) x5 x6 x7 x8 a b c f (T.l BJ) (T.l EL) (T.l Cu) (T.l Cr) (T.l Ae) (T.l Cv) (T.l d.rows) (T.l e'.rows) (T.l g.rows) (T.l h.rows) (T.l i.rows) (T.l j.rows) k0 k1)).trans ?_
  rw [ab5 h.sI]
  exact ih
theorem aiq {m:Nat} (hm:3200220<=m) (w:aA) (h:bW w) (l:List eB) (hl:l.length<=200) (ho : ∀ e∈l,Mh e) (K:KW) :
  Gv m (.i w.c.n) (.i w.c.life) (.i w.c.next) (.l (rJ w.c.jobs)) (.l (rC w.c.log)) (.i w.c.sure) (.l (rS w.ay)) (.l (rW w.net)) (.l (rW w.outs)) (.l (rB w.begun)) (.l (rE l)) K=kW K (uz w l):=by
 obtain ⟨m,rfl⟩:=aS m
 obtain ⟨m,rfl⟩:=aS m
 have hd:=Ji l w h ho
 have em:ow (l.length:Int) 200=(l.length:Int):=by unfold ow; split <;> omega
 simp only [Gv,T.ah,wL]
 rw [GK (by omega) w h.pw]
 unfold kW
 simp only [T.ah]
 rw [Mk (by omega) w h.cw,h.world]
 simp only [T.aI,Bool.not_true,cond_false,aip,em,Int.toNat_natCast]
 rw [bD,bD]
 have et:(rE l).take l.length=rE l:=List.take_of_length_le (by simp)
 rw [et]
 have fin : ∀ d:aA,bW d->∀ K:KW,dP (m+1) (.i d.c.n) (.i d.c.life) (.i d.c.next) (.l (rJ d.c.jobs)) (.l (rC d.c.log)) (.i d.c.sure) (.l (rS d.ay)) (.l (rW d.net)) (.l (rW d.outs)) (.l (rB d.begun)) (fun y0 y1 y2 y3 y4 y5 y6 y7 y8 y9=>K y0 y1 y2 (T.l y3.rows) (T.l y4.rows) y5 (T.l y6.rows) (T.l y7.rows) (T.l y8.rows) (T.l y9.rows))=kW K d:=fun d hd K=>(GK (by omega) d hd.pw _).trans rfl
 simp only [zV,jn,T.aj,T.ah,aG,aQ,wL,aT]
 cases l with
 | nil =>
  rw [jX]
  exact fin w h K
 | cons e post =>
  have eo:=ho e (by simp)
  have hw:=h.do_ e eo.ops
  have g:(rE (e::post)).getD (Int.toNat (0:Int)) []=e.r:=rfl
  rw [bD,bD,g]
  simp only [e0,e1,e2,e3,T.ah]
  have lp:=SG (m+1) (by omega) (.i 0) (.i 0) (.i 0) (.i 0) [] [] [] [] [] [] (fun am1 am2 am3 am4 am5 y150 y151 y152 y153 ahk apA am6 y157 y158 y159 y160 ahl ahm ahn aho ahp ahq=>dP (m+1) y151 y152 y153 (T.l ahl.rows) (T.l ahm.rows) ahk (T.l ahn.rows) (T.l aho.rows) (T.l ahp.rows) (T.l ahq.rows) (fun y0 y1 y2 y3 y4 y5 y6 y7 y8 y9=>K y0 y1 y2 (T.l y3.rows) (T.l y4.rows) y5 (T.l y6.rows) (T.l y7.rows) (T.l y8.rows) (T.l y9.rows))) post [e] (G6 w e).2 hw (fun q hq=>ho q (by simp [hq])) (by simp at hl ⊢; omega) m (by simp at hl; omega) (fun ajb ajc ajd aje ajf ajg abu abv abw abx ahc ahd amQ amR amS amT ahe ahf ahg ahh ahi ahj=>dP (m+1) abu abv abw (T.l ahe.rows) (T.l ahf.rows) abx (T.l ahg.rows) (T.l ahh.rows) (T.l ahi.rows) (T.l ahj.rows) (fun y0 y1 y2 y3 y4 y5 y6 y7 y8 y9=>K y0 y1 y2 (T.l y3.rows) (T.l y4.rows) y5 (T.l y6.rows) (T.l y7.rows) (T.l y8.rows) (T.l y9.rows)))
  rw [show (T.i ((rE (e::post)).length:Int))=T.i (([e]++post).length:Nat) by simp,show (T.i (IntKind.i64.wrap (0+1)))=T.i ((([e]:List eB).length:Nat):Int) from rfl]
  refine (XH (m:=m+1) (by omega) w h.rw2 e eo.b (fun _ a b c d e' f g h i j=>ku (m+1) m (T.i (((0:Int).toNat:Nat):Int)) (T.i (((0:Int).toNat:Nat):Int)) (T.l (rE ([e]++post))) (.i (([e]++post).length:Nat)) (T.i ((([e]:List eB).length:Nat):Int)) (.i 0) (.i 0) (.i 0) (.i 0) a b c f (T.l []) (T.l []) (T.l []) (T.l []) (T.l []) (T.l []) (T.l d.rows) (T.l e'.rows) (T.l g.rows) (T.l h.rows) (T.l i.rows) (T.l j.rows) _ _)).trans ?_
  rw [ab5 h.sI]
  exact lp.trans (fin _ hd K)
theorem air {m:Nat} (hm:3200230<=m) (w:aA) (h:bW w) (e:eB) (eo:Mh e) (K:T->T->T->T->T->T->T->T->T->T->T->An) :
  Kw m (.i w.c.n) (.i w.c.life) (.i w.c.next) (.l (rJ w.c.jobs)) (.l (rC w.c.log)) (.i w.c.sure) (.l (rS w.ay)) (.l (rW w.net)) (.l (rW w.outs)) (.l (rB w.begun)) (.i e.kind) (.i e.at_) (.i e.n) (.l (rO e.ops)) K =
   kW (fun a b c d e' f g h i j=>K a b c d e' f g h i j (.b (ae7 w e).1)) (G6 w e).2:=by
 obtain ⟨m,rfl⟩:=aS m
 have hw:=h.do_ e eo.ops
 simp only [Kw,jn,T.ah,wL]
 rw [GK (by omega) w h.pw]
 unfold kW
 simp only [T.ah]
 rw [Mk (by omega) w h.cw,h.world]
 simp only [T.aI,beq_self_eq_true,cond_true]
 refine (XH (by omega) w h.rw2 e eo.b (fun o a b c d e' f g h i j=>dP m a b c (T.l d.rows) (T.l e'.rows) f (T.l g.rows) (T.l h.rows) (T.l i.rows) (T.l j.rows) (fun LU NV XL y48 y49 y50 Y0 y52 Y1 Y2=>K LU NV XL (T.l y48.rows) (T.l y49.rows) y50 (T.l Y0.rows) (T.l y52.rows) (T.l Y1.rows) (T.l Y2.rows) (T.b o.bool)))).trans ?_
 rw [ab5 h.sI]
 exact (GK (by omega) (G6 w e).2 hw.pw _).trans rfl
theorem VF (m:Nat) : ∀ (post pre:List eT),pre.length+post.length<=1048576->∀ n,post.length<n->∀ k0 k1,
  kV m n (.l (rO (pre++post))) (.l (rO (pre++post))) (.i pre.length) k0 k1=k1
 | [],pre,hs,n,hn,k0,k1=>by
  obtain ⟨n,rfl⟩:=aS n
  simp only [kV,T.aj,T.ah,aG,aQ,jl,aT]
  rw [jX]
 | x::post,pre,hs,n,hn,k0,k1=>by
  obtain ⟨n,rfl⟩:=aS n
  simp only [List.length_cons] at hs hn
  have ih:=VF m post (pre++[x]) (by simp; omega) n (by omega) k0 k1
  rw [aF,List.append_assoc,List.singleton_append] at ih
  simp only [kV,T.aj,T.ah,XM,bE pre (by omega),o0,o1,o2,T.lJ,beq_self_eq_true,Bool.and_true,Bool.not_true,cond_false,aG,aQ,jl,aT]
  rw [bD,bD,bD]
  exact ih
theorem SH {m:Nat} (hm:1048600<=m) (l:List eT) (hl:l.length<=1048576) (K:T->An):vC m (.l (rO l)) (.l (rO l)) K=K (.b true):=by
 obtain ⟨m,rfl⟩:=aS m
 simp only [vC,T.ah,bne_self_eq_false,cond_false,wL]
 exact VF m l [] (by simp; omega) m (by omega) _ _
theorem SK (m:Nat) (hm:1048610<=m) : ∀ (post pre:List bq),(∀ r∈post,r.ops.length<=1048576)->pre.length+post.length<=1048576->∀ n,post.length<n->∀ k0 k1,
  jI m n (.l (rR (pre++post))) (.l (rR (pre++post))) (.i pre.length) k0 k1=k1
 | [],pre,ho,hs,n,hn,k0,k1=>by
  obtain ⟨n,rfl⟩:=aS n
  simp only [jI,T.aj,T.ah,aG,aQ,wL,jl,aT]
  rw [jX]
 | x::post,pre,ho,hs,n,hn,k0,k1=>by
  obtain ⟨n,rfl⟩:=aS n
  obtain ⟨m,rfl⟩:=aS m
  simp only [List.length_cons] at hs hn
  have ih:=SK (m+1) hm post (pre++[x]) (fun r h=>ho r (by simp [h])) (by simp; omega) n (by omega) k0 k1
  rw [aF,List.append_assoc,List.singleton_append] at ih
  simp only [jI,Em,T.aj,T.ah,T9,bE pre (by omega),r0,r1,r2,beq_self_eq_true,cond_true,aG,aQ,wL,jl,aT]
  rw [bD,bD,bD,SH (by omega) x.ops (ho x (by simp))]
  simp only [T.aI,Bool.not_true,cond_false]
  exact ih
theorem Nq {m:Nat} (hm:1048620<=m) (l:List bq) (hl:l.length<=1048576) (ho : ∀ r∈l,r.ops.length<=1048576) (K:T->An):sS m (.l (rR l)) (.l (rR l)) K=K (.b true):=by
 obtain ⟨m,rfl⟩:=aS m
 simp only [sS,T.ah,bne_self_eq_false,cond_false,wL]
 exact SK m (by omega) l [] ho (by simp; omega) m (by omega) _ _
theorem Nr {m:Nat} (hm:1048610<=m) (x:aY) (ho:x.ops.length<=1048576) (K:T->An):sU m (.i x.kind) (.i x.bN) (.i x.tx) (.l (rO x.ops)) (.b x.yes) (.i x.kind) (.i x.bN) (.i x.tx) (.l (rO x.ops)) (.b x.yes) K=K (.b true):=by
 obtain ⟨m,rfl⟩:=aS m
 simp only [sU,T.aj,T.aI,T.ah,beq_self_eq_true,cond_true,wL]
 rw [SH (by omega) x.ops ho]
 simp only [T.aI]
theorem VG (m:Nat) (hm:1048630<=m) (x3 x4 x5 x6 x7 x8 x9 x10:T) (E5 BI EL Cu Cr Ae Cv SV Dn BK:List (List T)) : ∀ (post pre:List aH),(∀ s∈post,PS1 s)->pre.length+post.length<=1048576->∀ n,post.length<n->∀ k0 k1 k2,
  jM m n (.i 0) (.i 0) (.i pre.length) x3 x4 x5 x6 x7 x8 x9 x10 (.l E5) (.l BI) (.l (rS (pre++post))) (.l EL) (.l Cu) (.l Cr) (.l Ae) (.l Cv) (.l (rS (pre++post))) (.l SV) (.l Dn) (.l BK) k0 k1 k2=k1 (.i 0) (.i 0) x3 x4 x5 x6 x7 x8 x9 x10 (.l E5) (.l BI) (.l (rS (pre++post))) (.l EL) (.l Cu) (.l Cr) (.l Ae) (.l Cv) (.l (rS (pre++post))) (.l SV) (.l Dn) (.l BK)
 | [],pre,ho,hs,n,hn,k0,k1,k2=>by
  obtain ⟨n,rfl⟩:=aS n
  simp only [jM,T.aj,T.ah,aG,aQ,wL,jl,aT]
  rw [jX]
  rfl
 | x::post,pre,ho,hs,n,hn,k0,k1,k2=>by
  obtain ⟨n,rfl⟩:=aS n
  simp only [List.length_cons] at hs hn
  have hx:=ho x (by simp)
  have ih:=VG m hm x3 x4 x5 x6 x7 x8 x9 x10 E5 BI EL Cu Cr Ae Cv SV Dn BK post (pre++[x]) (fun r h=>ho r (by simp [h])) (by simp; omega) n (by omega) k0 k1 k2
  rw [aF,List.append_assoc,List.singleton_append] at ih
  have hB:decide ((0:Int)<=(pre.length:Int)/\(pre.length:Int)<((rS (pre++x::post)).length:Int))=true:=decide_eq_true (by simp; omega)
  have hB2:decide (Int.toNat (pre.length:Int)<(rS (pre++x::post)).length)=true:=decide_eq_true (by simp)
  simp only [jM,jn,T.aj,T.ah,ixS,bE pre (by omega),sg1,sg2,hB,hB2,cond_true,aG,aQ,wL,jl,aT]
  rw [bD,Nq (by omega) x.log hx.log hx.ajH]
  simp only [T.aI,Bool.not_true,beq_self_eq_true,cond_true,bne_self_eq_false,cond_false]
  exact ih
theorem VH (m:Nat) (hm:1048630<=m) (x3 x4 x5 x6 x7 x8 x9 x10:T) (E5 BI EL Cu Cr Ae Cv SV Dn BK:List (List T)) : ∀ (post pre:List aH),(∀ s∈post,PS1 s)->pre.length+post.length<=1048576->∀ n,post.length<n->∀ k0 k1 k2,
  jN m n (.i 0) (.i 0) (.i pre.length) x3 x4 x5 x6 x7 x8 x9 x10 (.l E5) (.l BI) (.l (rS (pre++post))) (.l EL) (.l Cu) (.l Cr) (.l Ae) (.l Cv) (.l (rS (pre++post))) (.l SV) (.l Dn) (.l BK) k0 k1 k2=k2 (.i 0) (.i 0) x3 x4 x5 x6 x7 x8 x9 x10 (.l E5) (.l BI) (.l (rS (pre++post))) (.l EL) (.l Cu) (.l Cr) (.l Ae) (.l Cv) (.l (rS (pre++post))) (.l SV) (.l Dn) (.l BK)
 | [],pre,ho,hs,n,hn,k0,k1,k2=>by
  obtain ⟨n,rfl⟩:=aS n
  simp only [jN,T.aj,T.ah,aG,aQ,wL,jl,aT]
  rw [jX]
  rfl
 | x::post,pre,ho,hs,n,hn,k0,k1,k2=>by
  obtain ⟨n,rfl⟩:=aS n
  simp only [List.length_cons] at hs hn
  have hx:=ho x (by simp)
  have ih:=VH m hm x3 x4 x5 x6 x7 x8 x9 x10 E5 BI EL Cu Cr Ae Cv SV Dn BK post (pre++[x]) (fun r h=>ho r (by simp [h])) (by simp; omega) n (by omega) k0 k1 k2
  rw [aF,List.append_assoc,List.singleton_append] at ih
  have hB:decide ((0:Int)<=(pre.length:Int)/\(pre.length:Int)<((rS (pre++x::post)).length:Int))=true:=decide_eq_true (by simp; omega)
  have hB2:decide (Int.toNat (pre.length:Int)<(rS (pre++x::post)).length)=true:=decide_eq_true (by simp)
  simp only [jN,jn,T.aj,T.ah,ixS,bE pre (by omega),sg1,sg2,hB,hB2,cond_true,aG,aQ,wL,jl,aT]
  rw [bD,Nq (by omega) x.log hx.log hx.ajH]
  simp only [T.aI,Bool.not_true,beq_self_eq_true,cond_true,bne_self_eq_false,cond_false]
  exact ih
theorem SL (m:Nat) (hm:1048630<=m) (x3 x4 x5 x6 x7 x8 x9 x10:T) (E5 BI BJ Cu Cr Ae Cv K8 Dn BK:List (List T)) : ∀ (post pre:List aY),(∀ s∈post,s.ops.length<=1048576)->pre.length+post.length<=1048576->∀ n,post.length<n->∀ k0 k1,
  gU m n (.i 0) (.i 0) (.i pre.length) x3 x4 x5 x6 x7 x8 x9 x10 (.l E5) (.l BI) (.l BJ) (.l (rW (pre++post))) (.l Cu) (.l Cr) (.l Ae) (.l Cv) (.l K8) (.l (rW (pre++post))) (.l Dn) (.l BK) k0 k1=k1 (.i 0) x3 x4 x5 x6 (.l E5) (.l BI) (.l BJ) (.l (rW (pre++post))) (.l Cu) (.l Cr)
 | [],pre,ho,hs,n,hn,k0,k1=>by
  obtain ⟨n,rfl⟩:=aS n
  simp only [gU,T.aj,T.ah,aG,aQ,wL,jl,aT]
  rw [jX]
  rfl
 | x::post,pre,ho,hs,n,hn,k0,k1=>by
  obtain ⟨n,rfl⟩:=aS n
  simp only [List.length_cons] at hs hn
  have ih:=SL m hm x3 x4 x5 x6 x7 x8 x9 x10 E5 BI BJ Cu Cr Ae Cv K8 Dn BK post (pre++[x]) (fun r h=>ho r (by simp [h])) (by simp; omega) n (by omega) k0 k1
  rw [aF,List.append_assoc,List.singleton_append] at ih
  have hB:decide ((0:Int)<=(pre.length:Int)/\(pre.length:Int)<((rW (pre++x::post)).length:Int))=true:=decide_eq_true (by simp; omega)
  have hB2:decide (Int.toNat (pre.length:Int)<(rW (pre++x::post)).length)=true:=decide_eq_true (by simp)
  simp only [gU,T.aj,T.ah,ixW,bE pre (by omega),w0,w1,w2,w3,w4,hB,hB2,cond_true,aG,aQ,wL,jl,aT]
  rw [bD,Nr (by omega) x (ho x (by simp))]
  simp only [T.aI,Bool.not_true,cond_false]
  exact ih
theorem SN (m:Nat) (hm:1048630<=m) (x3 x4 x5 x6 x7 x8 x9 x10:T) (E5 BI BJ Cu Cr Ae Cv K8 Dn BK:List (List T)) : ∀ (post pre:List aY),(∀ s∈post,s.ops.length<=1048576)->pre.length+post.length<=1048576->∀ n,post.length<n->∀ k0 k1,
  gV m n (.i 0) (.i 0) (.i pre.length) x3 x4 x5 x6 x7 x8 x9 x10 (.l E5) (.l BI) (.l BJ) (.l (rW (pre++post))) (.l Cu) (.l Cr) (.l Ae) (.l Cv) (.l K8) (.l (rW (pre++post))) (.l Dn) (.l BK) k0 k1=k1 (.i 0) x3 x4 x5 x6 (.l E5) (.l BI) (.l BJ) (.l (rW (pre++post))) (.l Cu) (.l Cr)
 | [],pre,ho,hs,n,hn,k0,k1=>by
  obtain ⟨n,rfl⟩:=aS n
  simp only [gV,T.aj,T.ah,aG,aQ,wL,jl,aT]
  rw [jX]
  rfl
 | x::post,pre,ho,hs,n,hn,k0,k1=>by
  obtain ⟨n,rfl⟩:=aS n
  simp only [List.length_cons] at hs hn
  have ih:=SN m hm x3 x4 x5 x6 x7 x8 x9 x10 E5 BI BJ Cu Cr Ae Cv K8 Dn BK post (pre++[x]) (fun r h=>ho r (by simp [h])) (by simp; omega) n (by omega) k0 k1
  rw [aF,List.append_assoc,List.singleton_append] at ih
  have hB:decide ((0:Int)<=(pre.length:Int)/\(pre.length:Int)<((rW (pre++x::post)).length:Int))=true:=decide_eq_true (by simp; omega)
  have hB2:decide (Int.toNat (pre.length:Int)<(rW (pre++x::post)).length)=true:=decide_eq_true (by simp)
  simp only [gV,T.aj,T.ah,ixW,bE pre (by omega),w0,w1,w2,w3,w4,hB,hB2,cond_true,aG,aQ,wL,jl,aT]
  rw [bD,Nr (by omega) x (ho x (by simp))]
  simp only [T.aI,Bool.not_true,cond_false]
  exact ih
abbrev KQ:=T->T->T->T->T->T->T->T->T->T->T->T->T->T->T->T->T->T->T->T->T->T->T->T->T->T->T->T->T->T->T->T->T->An
abbrev kQ (J:KQ) (x4 x5 x6 x7 x9 x10 bC dw:T) (Ae Cv K8 SV Dn BK Nh SX SY S9 Ta Tc:List (List T)) (w:aA):An:=J (.i 0) (.i 0) (.i 0) x4 x5 x6 x7 x9 x10 bC dw (.i w.c.n) (.i w.c.life) (.i w.c.next) (.i w.c.sure) (.l Ae) (.l Cv) (.l K8) (.l SV) (.l Dn) (.l BK) (.l Nh) (.l SX) (.l SY) (.l S9) (.l Ta) (.l Tc) (.l (rJ w.c.jobs)) (.l (rC w.c.log)) (.l (rS w.ay)) (.l (rW w.net)) (.l (rW w.outs)) (.l (rB w.begun))
theorem VI (m:Nat) (hm:3200240<=m) (x4 x5 x6 x7 x9 x10 bC dw:T) (Ae Cv K8 SV Dn BK Nh SX SY S9 Ta Tc:List (List T)) (k1:T->T->T->T->T->T->T->T->T->T->T->T->T->T->T->T->T->T->T->T->T->T->T->T->T->T->T->An) : ∀ (post pre:List eB) (w:aA),bW w->(∀ e∈post,Mh e)->pre.length+post.length<=1048576->∀ n,post.length<n->∀ k0,
  jO m n (.i 0) (.i 0) (.i 0) (.i pre.length) x4 x5 x6 x7 (.l (rE (pre++post))) x9 x10 bC dw (.i w.c.n) (.i w.c.life) (.i w.c.next) (.i w.c.sure) (.l Ae) (.l Cv) (.l K8) (.l SV) (.l Dn) (.l BK) (.l Nh) (.l SX) (.l SY) (.l S9) (.l Ta) (.l Tc) (.l (rJ w.c.jobs)) (.l (rC w.c.log)) (.l (rS w.ay)) (.l (rW w.net)) (.l (rW w.outs)) (.l (rB w.begun)) k0 k1 =
   kQ k0 x4 x5 x6 x7 x9 x10 bC dw Ae Cv K8 SV Dn BK Nh SX SY S9 Ta Tc (uz w post)
 | [],pre,w,h,ho,hs,n,hn,k0=>by
  obtain ⟨n,rfl⟩:=aS n
  simp only [jO,T.aj,T.ah,aG,aQ,wL,jl,aT]
  rw [jX]
  rfl
 | e::post,pre,w,h,ho,hs,n,hn,k0=>by
  obtain ⟨n,rfl⟩:=aS n
  simp only [List.length_cons] at hs hn
  have eo:=ho e (by simp)
  have hw:=h.do_ e eo.ops
  have ih:=VI m hm x4 x5 x6 x7 x9 x10 bC dw Ae Cv K8 SV Dn BK Nh SX SY S9 Ta Tc k1 post (pre++[e]) (G6 w e).2 hw (fun q hq=>ho q (by simp [hq])) (by simp; omega) n (by omega) k0
  rw [aF,List.append_assoc,List.singleton_append] at ih
  simp only [jO,T.aj,T.ah,ixE,bE pre (by omega),e0,e1,e2,e3,aG,aQ,wL,jl,aT]
  rw [bD,bD,bD,air (by omega) w h e eo]
  unfold kW
  simp only [T.ah]
  exact ih
theorem aar {m:Nat} (hm:30000000<=m) (b:List (List T)) (K:T->An):Co m (.l b) K=K (.b true):=by
 obtain ⟨m,rfl⟩:=aS m
 obtain ⟨m,rfl⟩:=aS m
 have hbig : ∀ K,Ki (m+1) (.l b) K=K (.b (decide ((b.length:Int) > 1048576))):=by
  intro K
  simp only [Ki,T.ah]
 simp only [Co,T.ah,wL]
 rw [hbig]
 simp only [T.aI]
 by_cases hb:(b.length:Int) > 1048576
 ·rw [decide_eq_true hb]; rfl
 ·rw [decide_eq_false hb,cond_false]
  obtain ⟨w,es,h,hl,ho,hw⟩:=aap (m:=m+1) (by omega) b (by omega)
  have hd:=Ji es w h ho
  have hn:=aaq es w
  have hs1:=h.shl
  have hs2:=hd.shl
  have hsl:(uz w es).ay.length=w.ay.length:=by omega
  rw [hw]
  unfold kW
  simp only [T.ah]
  rw [aiq (by omega) w h es (by omega) ho]
  unfold kW
  have hp:=hd.pw
  have hp1:=hp.shl
  have hp2:=hp.sI
  simp only [T.ah,uq,T.aj,aG,aQ,wL,jl,aT]
  cases es with
  | nil =>
   rw [jX]
   simp only [show uz w []=w from rfl,jn,T.ah,T.aj,bne_self_eq_false,beq_self_eq_true,cond_true]
   change bW w at hd
   change PW w at hp
   change w.ay.length<=1048576 at hp1
   change w.net.length<=1048576 at hp2
   simp only [cond_false]
   refine (VH (m+1) (by omega) _ _ _ _ _ _ _ _ _ _ _ _ _ _ _ _ _ _ w.ay [] hp.sh (by simpa using hp1) (m+1) (by omega) _ _ _).trans ?_
   simp only [T.ah,T.aj,List.nil_append]
   refine (SN (m+1) (by omega) _ _ _ _ _ _ _ _ _ _ _ _ _ _ _ _ _ _ w.net [] hp.net (by simpa using hp2) (m+1) (by omega) _ _).trans ?_
   simp only [T.ah,T.aj,List.nil_append]
   rw [ZY (by omega) w hd.cw hd.nsl,hd.safe]
   rfl
  | cons e post =>
   have eo:=ho e (by simp)
   have hw1:=h.do_ e eo.ops
   have g:(rE (e::post)).getD (Int.toNat (0:Int)) []=e.r:=rfl
   rw [bD,bD,bD,g]
   simp only [e0,e1,e2,e3,T.ah]
   rw [air (by omega) w h e eo]
   unfold kW
   simp only [T.ah]
   rw [show (T.i (IntKind.i64.wrap (0+1)))=T.i ((([e]:List eB).length:Nat):Int) from rfl]
   simp only [List.length_cons] at hl
   refine (VI (m+1) (by omega) _ _ _ _ _ _ _ _ _ _ _ _ _ _ _ _ _ _ _ _ _ post [e] (G6 w e).2 hw1 (fun q hq=>ho q (by simp [hq])) (by simp; omega) m (by omega) _).trans ?_
   change bW (uz (G6 w e).2 post) at hd
   change PW (uz (G6 w e).2 post) at hp
   change (uz (G6 w e).2 post).ay.length<=1048576 at hp1
   change (uz (G6 w e).2 post).net.length<=1048576 at hp2
   change (uz (G6 w e).2 post).ay.length=w.ay.length at hsl
   have ed:uz w (e::post)=uz (G6 w e).2 post:=rfl
   rw [ed]
   generalize uz (G6 w e).2 post=d at hd hp hp1 hp2 hsl
   unfold kQ
   simp only [jn,T.ah,T.aj,bne_self_eq_false,beq_self_eq_true,cond_true]
   rw [aC (by rw [qO,qO,hsl]; simp)]
   refine (VG (m+1) (by omega) _ _ _ _ _ _ _ _ _ _ _ _ _ _ _ _ _ _ d.ay [] hp.sh (by simpa using hp1) (m+1) (by omega) _ _ _).trans ?_
   simp only [T.ah,T.aj,List.nil_append]
   refine (SL (m+1) (by omega) _ _ _ _ _ _ _ _ _ _ _ _ _ _ _ _ _ _ d.net [] hp.net (by simpa using hp2) (m+1) (by omega) _ _).trans ?_
   simp only [T.ah,T.aj,List.nil_append]
   rw [ZY (by omega) d hd.cw hd.nsl,hd.safe]
   rfl
end Go.Proofs.YtpchnmbcbcfhjaaGreat

