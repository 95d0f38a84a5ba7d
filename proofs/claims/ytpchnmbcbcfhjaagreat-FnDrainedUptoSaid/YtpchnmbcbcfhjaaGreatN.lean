/- A part of the proof: texts VN1, VN2, VN3, VN4, VN5: see the last part's opening words. -/
import Derived.Test.YtpchnmbcbcfhjaaGreatK
set_option linter.unusedVariables false
set_option linter.unusedSimpArgs false
set_option linter.unnecessarySimpa false
namespace Go.Proofs.YtpchnmbcbcfhjaaGreat
open Go Go.E Go.Proofs
theorem Uy {α:Type} {P:List α->Prop} (h0:P []) (h1 : ∀ l x,P l->P (l++[x])) (l:List α):P l:=by
 rw [<-List.reverse_reverse l]
 induction l.reverse with
 | nil=>exact h0
 | cons x l ih=>rw [List.reverse_cons]; exact h1 _ _ ih
def Jg (tx:Int) (l:List bg):Option Int:=l.foldl (fun a r=>if r.tx=tx then some r.kind else a) none
theorem GA (tx:Int) (l:List bg) (r:bg):Jg tx (l++[r])=if r.tx=tx then some r.kind else Jg tx l:=by simp [Jg]
theorem R4 (tx:Int) (l:List bg) (r:bg) : ∀ i,i<=l.length->pK tx (l++[r]) i=pK tx l i
 | 0,_=>rfl
 | i+1,h=>by
  have e:(l++[r]).getD i default=l.getD i default:=by simp [List.getD,List.getElem?_append_left (show i<l.length by omega)]
  unfold pK
  rw [e,R4 tx l r i (by omega)]
theorem adM (tx:Int) : ∀ l:List bg,Jg tx l=(pK tx l l.length).map fun j=>(l.getD j default).kind:=Uy rfl fun l r ih=>by
 rw [GA,List.length_append,List.length_singleton]
 unfold pK
 have e:(l++[r]).getD l.length default=r:=by simp [List.getD]
 rw [e,R4 tx l r l.length (Nat.le_refl _)]
 by_cases h:r.tx=tx
 ·rw [if_pos h,if_pos h]; simp [List.getD]
 ·rw [if_neg h,if_neg h,ih]
  cases hj:pK tx l l.length with
  | none=>rfl
  | some j =>
   have:=(uM hj).1
   simp [List.getD,List.getElem?_append_left this]
theorem adN (tx:Int) : ∀ l:List bg,(Jg tx l=none->l.foldl (yJ tx) 2=2)/\(Jg tx l=some 2->l.foldl (yJ tx) 2=3)/\(Jg tx l=some 3->l.foldl (yJ tx) 2=4):=Uy ⟨fun _=>rfl,nofun,nofun⟩ fun l r ih=>by
 rw [GA,List.foldl_append]
 simp only [List.foldl_cons,List.foldl_nil]
 unfold yJ
 by_cases h:r.tx=tx
 ·rw [if_pos h,if_pos h]
  refine ⟨nofun,fun h2=>?_,fun h2=>?_⟩
  ·cases h2':r.kind==2 <;> simp_all
  ·have:r.kind=3:=by simpa using h2
   simp [this]
 ·rw [if_neg h,if_neg h]; exact ih
def PN (l:List bg) (s:St):Prop:=∀ tx,(∀ h∈s.held,h.tx≠tx)->∀ k,Jg tx l=some k->k=2\/k=3
theorem abp {l:List bg} {s s':St} {r:bg} (h:PN l s) (hs:Step s r s'):PN (l++[r]) s':=by
 intro tx hh k hk
 rw [GA] at hk
 cases hs with
 | hold k1 _ _ _ e =>
  subst e
  have h1:r.tx≠tx:=hh r (by simp)
  rw [if_neg h1] at hk
  exact h tx (fun q hq=>hh q (by simp [hq])) k hk
 | gone k1 _ _ e =>
  subst e
  by_cases h1:r.tx=tx
  ·rw [if_pos h1] at hk; cases hk; exact .inr k1
  ·rw [if_neg h1] at hk; exact h tx hh k hk
 | done j k1 h0 _ e =>
  subst e
  by_cases h1:r.tx=tx
  ·rw [if_pos h1] at hk; cases hk; exact k1
  ·rw [if_neg h1] at hk
   refine h tx (fun q hq=>?_) k hk
   obtain ⟨pre,x,post,e1,e2,e3,e4,e5⟩:=qg s.held (tK h0)
   have hx:x.tx=r.tx:=by rw [<-e3]; exact Bp h0
   rw [e1] at hq
   rcases List.mem_append.1 hq with hq | hq
   ·exact hh q (by simp [e4,hq])
   ·rcases List.mem_cons.1 hq with rfl | hq
    ·rw [hx]; exact h1
    ·exact hh q (by simp [e5,hq])
theorem Z9 : ∀ (l2 l1:List bg) (s1 s:St),PN l1 s1->dX s1 l2=some s->PN (l1++l2) s
 | [],l1,s1,s,h,e=>by
  unfold dX at e; cases e; simpa using h
 | r::l2,l1,s1,s,h,e=>by
  unfold dX at e
  split at e
  ·rename_i h1
   have:=Z9 l2 (l1++[r]) _ s (abp h (EX h1).2) e
   simpa using this
  ·cases e
theorem aeY {l:List bg} {s:St} (h:cO l=some s):PN l s:=by
 have:=Z9 l [] st0 s (fun tx _ k hk=>by cases hk) h
 simpa using this
theorem Uz (s:aF):bJ (T.l [s.r])=s.r:=rfl
theorem sd1 (s:aF):(s.r.drop 1).getD 0 dflt = .l (rR s.log):=rfl
theorem sd3 (s:aF):(s.r.drop 3).getD 0 dflt = .l (rP s.map):=rfl
theorem sd4 (s:aF):(s.r.drop 4).getD 0 dflt = .l (rR s.held):=rfl
theorem aeZ {tx:Int} {l:List bg} (hd:l.Pairwise fun a b=>a.tx≠b.tx):L8 tx l=atI tx l:=by
 unfold L8 atI; rw [Uu hd]; cases nW tx l <;> rfl
theorem K8 {m:Nat} (hm:1048600<=m) (s:aF) (tx:Int) (h1:s.log.length<=1048576) (h2:s.held.length<=1048576) {seen:List Int} (hr:cO s.log=some ⟨s.map,s.held,seen⟩) (K:T->An) :
  iZ m (.l [s.r]) (.i tx) K=K (.i (bU s tx)):=by
 obtain ⟨m,rfl⟩:=aV m
 have hi:=rinv hr
 simp only [iZ,Uz,sd1,sd4,T.ah,aX]
 rw [Bt (by omega) s.log tx h1,Bt (by omega) s.held tx h2]
 simp only [T.aj]
 have hh:=Uu (tx:=tx) hi.dist
 unfold bU
 rw [<-hh]
 cases c1:pK tx s.held s.held.length with
 | some j=>rw [aN (by unfold L8; rw [c1]; simp)]; rfl
 | none =>
  rw [dn (by unfold L8; rw [c1]; simp)]
  simp only [Option.isSome_none,Bool.false_eq_true,if_false]
  have hk:=adM tx s.log
  have hL:=aeY hr tx (fun h hm=>(Pz (tx:=tx)).1 c1 h hm)
  obtain ⟨o1,o2,o3⟩:=adN tx s.log
  cases c2:pK tx s.log s.log.length with
  | none =>
   rw [c2] at hk
   rw [aN (by unfold L8; rw [c2]; simp),o1 hk]
  | some j =>
   rw [c2] at hk
   have hj:=(uM c2).1
   have e:L8 tx s.log=(j:Int):=by unfold L8; rw [c2]
   rw [e,lI,bK,Int.toNat_natCast,Ut s.log hj,r0]
   simp only [T.aj]
   have hk':Jg tx s.log=some (s.log.getD j default).kind:=hk
   rcases hL _ hk' with h | h
   ·rw [ay (by rw [h]; rfl),o2 (by rw [hk',h])]
   ·rw [aC (by rw [h]; rfl),o3 (by rw [hk',h])]
theorem PO (m:Nat) (s:aF) (x1:T) : ∀ (post pre:List bg) (acc:Nat),pre.length+post.length<=1048576->(∀ r∈post,r.ops.length<=1048576)->acc+post.length * 1048576<=4611686018427387->∀ n,post.length<n->∀ k0,
  gJ m n (.l [s.r]) x1 (.i (acc:Int)) (.l (rR (pre++post))) (.i ((pre++post).length:Nat)) (.i pre.length) k0=k0 (.l [s.r]) x1 (.i ((acc+ni post:Nat):Int))
 | [],pre,acc,hs,ho,ha,n,hn,k0=>by
  obtain ⟨n,rfl⟩:=aV n
  simp only [gJ,T.aj,T.ah,aM,aX,bq]
  rw [lI]
  rfl
 | x::post,pre,acc,hs,ho,ha,n,hn,k0=>by
  obtain ⟨n,rfl⟩:=aV n
  simp only [List.length_cons] at hs hn ha
  have hx:=ho x (by simp)
  have ih:=PO m s x1 post (pre++[x]) (acc+x.ops.length) (by simp; omega) (fun r hr=>ho r (by simp [hr])) (by omega) n (by omega) k0
  rw [aG,List.append_assoc,List.singleton_append] at ih
  have ew:IntKind.i64.wrap ((acc:Int)+((rO x.ops).length:Int))=((acc+x.ops.length:Nat):Int):=by rw [jY,wrap_i64 (by omega) (by omega)]; omega
  simp only [gJ,T.aj,T.ah,UG,bN pre (by omega),r2,ew,Uz,aM,aX,bq]
  rw [bK,bK,ih]
  congr 2
  simp only [ni,List.map_cons,List.sum_cons]
  congr 1
  omega
def adO (s:aF) (ops:List fB):Bool:=!gT s.held ops&&kE s.map ops&&decide (En s ops<=60)&&decide (s.log.length+s.held.length+2<=300)
theorem adP {m:Nat} (hm:3200020<=m) (s:aF) (hs:yK s) (ops:List fB) (ho:ops.length<=1048576) (K:T->An) :
  qQ m (.l [s.r]) (.l (rO ops)) K=K (.b (adO s ops)):=by
 obtain ⟨m,rfl⟩:=aV m
 have h1:=hs.wu
 have h2:=hs.Bg
 have h3:=hs.map
 have hr : ∀ r∈s.held,r.ops.length<=1048576:=fun r hr=>by have:=(hs.held r hr).1; omega
 have ew:IntKind.i64.wrap (((rP s.map).length:Int)+((rO ops).length:Int))=((s.map.length+ops.length:Nat):Int):=by rw [jY,tH,wrap_i64 (by omega) (by omega)]; omega
 have ew2:IntKind.i64.wrap (IntKind.i64.wrap (((rR s.log).length:Int)+((rR s.held).length:Int))+2)=((s.log.length+s.held.length+2:Nat):Int):=by
  have e0:IntKind.i64.wrap ((s.log.length:Int)+(s.held.length:Int))=(s.log.length:Int)+(s.held.length:Int):=wrap_i64 (by omega) (by omega)
  rw [dW,dW,e0,wrap_i64 (by omega) (by omega)]; omega
 simp only [qQ,Uz,sd1,sd3,sd4,T.ah,ew,wL]
 rw [show (T.i ((rR s.held).length:Int))=T.i ((([]:List bg)++s.held).length:Nat) by simp]
 refine (PO m s (.l (rO ops)) s.held [] (s.map.length+ops.length) (by simp; omega) hr (by omega) m (by omega) _).trans ?_
 simp only [Uz,sd1,sd3,sd4,T.ah]
 rw [KZ (by omega) s.held ops (by omega) hr ho]
 simp only [T.aI]
 unfold adO En
 cases c4:gT s.held ops with
 | true=>rfl
 | false =>
  rw [ay (by rfl),RG (by omega) s.map ops (by omega) ho]
  simp only [T.aI]
  cases c5:kE s.map ops with
  | false=>rfl
  | true =>
   rw [ay (by rfl)]
   simp only [T.aj,ew2]
   by_cases c6:s.map.length+ops.length+ni s.held<=60
   ·rw [ay (by simp; omega),decide_eq_true c6]
    generalize s.log.length+s.held.length+2=q
    rw [show decide (((q:Nat):Int)<=300)=decide (q<=300) from decide_eq_decide.2 (by omega)]
    rfl
   ·rw [aC (by simp; omega),decide_eq_false c6]
    rfl
theorem adQ {m:Nat} (hm:2<=m) (tx:Int) (K:T->An):kQ m (.i tx) K=K (.b (decide (1<=tx/\tx<=1000000))):=by
 obtain ⟨m,rfl⟩:=aV m
 simp only [kQ]
 rw [gD (by omega)]
theorem YZ {s:aF} {tx:Int} {ops:List fB} (h1:1<=tx/\tx<=1000000) (h2:gF ops=true) (h3:gT s.held ops=false) (h4:kE s.map ops=true) :
  lN s ⟨1,tx,ops⟩ = { s with log:=s.log++[⟨1,tx,ops⟩],held:=s.held++[⟨1,tx,ops⟩] }:=by
 have e:jC ⟨s.map,s.held,[]⟩ ⟨1,tx,ops⟩=(true,⟨s.map,s.held++[⟨1,tx,ops⟩],[]++[tx]⟩):=by
  have:jB ⟨1,tx,ops⟩=true:=by unfold jB; simp [h1,h2]
  unfold jC
  simp [this,h3,h4]
 unfold lN
 rw [e]
theorem adR {m:Nat} (hm:3200030<=m) (s:aF) (hs:yK s) {seen:List Int} (hr:cO s.log=some ⟨s.map,s.held,seen⟩) (tx:Int) (ops:List fB) (ho:qx ops) (J:T->T->T->T->T->T->An) :
  qR m (.i s.id) (.l (rR s.log)) (.i s.sure) (.l (rP s.map)) (.l (rR s.held)) (.i tx) (.l (rO ops)) J =
   J (.i (mG s tx ops).1) (.i s.id) (.l (rR (mG s tx ops).2.log)) (.i s.sure) (.l (rP (mG s tx ops).2.map)) (.l (rR (mG s tx ops).2.held)):=by
 obtain ⟨m,rfl⟩:=aV m
 have h1:=hs.wu
 have h2:=hs.Bg
 have hl:=ho.1
 simp only [qR,jn,T.ah,wL]
 rw [adQ (by omega)]
 simp only [T.aI]
 unfold mG
 cases c1:decide (1<=tx/\tx<=1000000) with
 | false=>simp
 | true =>
  rw [ay (by rfl),yI (by omega) ops ho]
  simp only [T.aI]
  cases c2:gF ops with
  | false=>simp
  | true =>
   simp only [Bool.not_true,cond_false,Bool.true_eq_false,false_or,if_false]
   have eo:=K8 (m:=m) (by omega) s tx (by omega) (by omega) hr
   refine (eo _).trans ?_
   simp only [T.aj]
   by_cases c3:bU s tx=2
   ·rw [aC (by simp [c3]),if_neg (by simp [c3])]
    refine (adP (m:=m) (by omega) s hs ops (by omega) _).trans ?_
    simp only [T.aI]
    unfold adO
    by_cases c4:gT s.held ops=true\/kE s.map ops=false\/60<En s ops\/300<s.log.length+s.held.length+2
    ·rw [if_pos c4,ay]
     rcases c4 with h | h | h | h
     ·simp [h]
     ·simp [h]
     ·simp [show ¬ En s ops<=60 by omega]
     ·simp [show ¬ s.log.length+s.held.length+2<=300 by omega]
    ·rw [if_neg c4]
     have d1:gT s.held ops=false:=by simpa using fun h=>c4 (.inl h)
     have d2:kE s.map ops=true:=by simpa using fun h=>c4 (.inr (.inl h))
     have d3:En s ops<=60:=by have:=fun h=>c4 (.inr (.inr (.inl h))); omega
     have d4:s.log.length+s.held.length+2<=300:=by have:=fun h=>c4 (.inr (.inr (.inr h))); omega
     rw [aC (by simp [d1,d2,d3,d4]),vQ (by omega) ops hl]
     simp only [T.ah]
     rw [aN (by rw [dW]; unfold au; omega),vQ (by omega) ops hl]
     simp only [T.ah]
     rw [aN (by rw [dW]; unfold au; omega),YZ (of_decide_eq_true c1) c2 d1 d2]
     congr 2
     ·simp [bg.r]
     ·simp [bg.r]
   ·rw [ay (by simpa using c3),if_pos c3]
theorem aac (s:aF) (k tx:Int) (hk:k=2\/k=3) (h1:1<=tx/\tx<=1000000):lN s ⟨k,tx,[]⟩=match nW tx s.held with
  | none=>{ s with log:=s.log++[⟨k,tx,[]⟩] }
  | some j=>{ s with log:=s.log++[⟨k,tx,[]⟩],map:=if k=2 then qy s.map (s.held.getD j default).ops else s.map,held:=s.held.take j++s.held.drop (j+1) }:=by
 have e0:jB ⟨k,tx,[]⟩=true:=by unfold jB; rcases hk with rfl | rfl <;> simp [h1]
 have e1 : ¬ k=1:=by rcases hk with rfl | rfl <;> omega
 unfold lN jC
 simp only [e0,Bool.true_eq_false,if_false,e1]
 cases nW tx s.held <;> rfl
theorem Y0 {m:Nat} (hm:3200030<=m) (s:aF) (hs:yK s) {seen:List Int} (hr:cO s.log=some ⟨s.map,s.held,seen⟩) (tx:Int) (yes:Bool) (J:T->T->T->T->T->T->An) :
  oF m (.i s.id) (.l (rR s.log)) (.i s.sure) (.l (rP s.map)) (.l (rR s.held)) (.i tx) (.b yes) J (fun a _ b c d e f=>J a b c d e f) =
   J (.b (kF s tx yes).1) (.i s.id) (.l (rR (kF s tx yes).2.log)) (.i s.sure) (.l (rP (kF s tx yes).2.map)) (.l (rR (kF s tx yes).2.held)):=by
 obtain ⟨m,rfl⟩:=aV m
 have h1:=hs.wu
 have h2:=hs.Bg
 have h3:=hs.map
 have hi:=rinv hr
 simp only [oF,jn,T.ah,aM,aX,wL,bq]
 rw [adQ (by omega)]
 simp only [T.aI]
 unfold kF
 cases c1:decide (1<=tx/\tx<=1000000) with
 | false=>simp
 | true =>
  have ht:=of_decide_eq_true c1
  simp only [Bool.not_true,cond_false,Bool.true_eq_false,if_false]
  have hat:=aeZ (tx:=tx) hi.dist
  have hsn:rR s.log++[[T.i (if yes then 2 else 3),T.i tx,T.l []]]=rR (s.log++[⟨if yes then 2 else 3,tx,[]⟩]):=by simp [bg.r]
  have ew:IntKind.i64.wrap (((rR s.log).length:Int)+((rR s.held).length:Int))=((s.log.length+s.held.length:Nat):Int):=by
   rw [dW,dW,wrap_i64 (by omega) (by omega)]; omega
  have body : ∀ k:Int,(k=if yes then 2 else 3)->nK m (T.l (rR s.held)) (.i tx) (fun y2=>iZ m (T.l [s.r]) (.i tx) (fun y3=>cond (y3.int==1)
    (cond yes
     (cond (decide ((0:Int)<=y2.int/\y2.int<((rR s.held).length:Int)))
      (cond (decide ((Int.toNat y2.int)<(rR s.held).length))
       (uH m (T.l (rP s.map)) (T.l (((rR s.held).getD (Int.toNat y2.int) []).getD 2 dflt).rows)
        (fun y4=>aU m (T.l (rR s.held)) y2 (T.i (IntKind.i64.wrap (y2.int+1)))
         (fun y5=>cond (decide (((rR s.log).length+1) * 3<=au))
          (J (T.b true) (.i s.id) (T.l (rR s.log++[[.i k,.i tx,(T.l [])]])) (.i s.sure) (T.l y4.rows) (T.l y5.rows)) (.bad))))
       (.bad)) (.bad))
     (aU m (T.l (rR s.held)) y2 (T.i (IntKind.i64.wrap (y2.int+1)))
      (fun y6=>cond (decide (((rR s.log).length+1) * 3<=au))
       (J (T.b true) (.i s.id) (T.l (rR s.log++[[.i k,.i tx,(T.l [])]])) (.i s.sure) (T.l (rP s.map)) (T.l y6.rows)) (.bad))))
    (cond (y3.int==3) (J (.b yes) (.i s.id) (T.l (rR s.log)) (.i s.sure) (T.l (rP s.map)) (T.l (rR s.held)))
     (cond (y3.int==4) (J (T.b (!yes)) (.i s.id) (T.l (rR s.log)) (.i s.sure) (T.l (rP s.map)) (T.l (rR s.held)))
      (cond (yes==false)
       (cond (decide ((IntKind.i64.wrap (((rR s.log).length:Int)+((rR s.held).length:Int)))>=300))
        (J (T.b false) (.i s.id) (T.l (rR s.log)) (.i s.sure) (T.l (rP s.map)) (T.l (rR s.held)))
        (cond (decide (((rR s.log).length+1) * 3<=au)) (J (T.b true) (.i s.id) (T.l (rR s.log++[[.i k,.i tx,(T.l [])]])) (.i s.sure) (T.l (rP s.map)) (T.l (rR s.held))) (.bad)))
       (J (T.b false) (.i s.id) (T.l (rR s.log)) (.i s.sure) (T.l (rP s.map)) (T.l (rR s.held)))))))) =
    (fun q:Bool×aF=>J (.b q.1) (.i s.id) (.l (rR q.2.log)) (.i s.sure) (.l (rP q.2.map)) (.l (rR q.2.held))) (if bU s tx=1 then (true,lN s ⟨if yes then 2 else 3,tx,[]⟩)
 else if bU s tx=3 then (yes,s)
 else if bU s tx=4 then (!yes,s)
 else if yes=true\/300<=s.log.length+s.held.length then (false,s)
 else (true,lN s ⟨3,tx,[]⟩)):=by
   intro k hk
   rw [Bt (by omega) s.held tx (by omega),hat,K8 (by omega) s tx (by omega) (by omega) hr,ew,hk,hsn]
   simp only [T.aj]
   have dl:decide (((rR s.log).length+1) * 3<=au)=true:=decide_eq_true (by rw [dW]; unfold au; omega)
   simp only [dl,cond_true]
   by_cases o1:bU s tx=1
   ·rw [ay (by simpa using o1),if_pos o1,aac s _ tx (by cases yes <;> simp) ht]
    unfold atI
    cases hf:nW tx s.held with
    | none =>
     exfalso
     unfold bU at o1
     rw [hf] at o1
     simp only [Option.isSome_none,Bool.false_eq_true,if_false] at o1
     have : ∀ l:List bg,l.foldl (yJ tx) 2=2\/l.foldl (yJ tx) 2=3\/l.foldl (yJ tx) 2=4:=Uy (.inl rfl) fun l r ih=>by
      rw [List.foldl_append]
      simp only [List.foldl_cons,List.foldl_nil]
      unfold yJ
      split
      ·split
       ·exact .inr (.inl rfl)
       ·split
        ·exact .inr (.inr rfl)
        ·exact ih
      ·exact ih
     have:=this s.log
     omega
    | some j =>
     have hj:=tK hf
     have hw:IntKind.i64.wrap ((j:Int)+1)=(j:Int)+1:=wrap_i64 (by omega) (by omega)
     simp only [hw]
     cases yes with
     | true =>
      have hsz:=hi.held _ (xH hj)
      have ho:=(hs.held _ (xH hj)).1
      rw [cond_true,bK,bK,Int.toNat_natCast,Ut s.held hj,r2]
      simp only [T.ah]
      rw [RH (by omega) s.map _ (by omega),Uv (by omega) s.held j hj]
      rfl
     | false =>
      rw [cond_false,Uv (by omega) s.held j hj]
      rfl
   ·rw [aC (by simpa using o1),if_neg o1]
    by_cases o3:bU s tx=3
    ·rw [ay (by simpa using o3),if_pos o3]
    ·rw [aC (by simpa using o3),if_neg o3]
     by_cases o4:bU s tx=4
     ·rw [ay (by simpa using o4),if_pos o4]
     ·rw [aC (by simpa using o4),if_neg o4]
      cases yes with
      | true=>simp
      | false =>
       by_cases c7:300<=s.log.length+s.held.length
       ·rw [ay (by rfl),bK,if_pos (.inr c7)]
       ·rw [ay (by rfl),lI,if_neg (show ¬(false=true\/300<=s.log.length+s.held.length) by simp; omega),aac s 3 tx (.inr rfl) ht]
        have:nW tx s.held=none:=by
         cases hf:nW tx s.held with
         | none=>rfl
         | some j=>exact absurd (by unfold bU; rw [hf]; rfl) o1
        rw [this]
        rfl
  cases yes with
  | true=>exact body 2 rfl
  | false=>exact body 3 rfl
end Go.Proofs.YtpchnmbcbcfhjaaGreat

namespace Go.Proofs.YtpchnmbcbcfhjaaGreat
open Go Go.E Go.Proofs
theorem abq {l:List Int} {s:Int} (hl:l.Pairwise (· < ·)) (hs:s ∉ l):(l++[s]).mergeSort (fun x y=>decide (x<=y))=qK l s:=by
 have hp:=List.pairwise_mergeSort (le:=fun x y:Int=>decide (x<=y)) (by intro a b c h1 h2; simp at *; omega) (by intro a b; simp; omega) (l++[s])
 have hperm:=List.mergeSort_perm (l++[s]) fun x y=>decide (x<=y)
 have hnd:(l++[s]).Nodup:=by
  rw [List.nodup_append]
  refine ⟨hl.imp fun h=>by omega,by simp,fun a ha b hb=>?_⟩
  rw [List.mem_singleton] at hb
  subst hb
  intro e; subst e; exact hs ha
 have ab1:=hperm.nodup_iff.2 hnd
 have hlt:((l++[s]).mergeSort fun x y=>decide (x<=y)).Pairwise (· < ·):=by
  have:=List.Pairwise.and hp ab1
  exact this.imp fun {a b} h=>by
   have h1:a<=b:=of_decide_eq_true h.1
   have h2:a≠b:=h.2
   omega
 refine Gl hlt (Ej l s hl) fun x=>?_
 rw [hperm.mem_iff,OU]
 simp [or_comm]
def Xq (tx:Int):List dH->Option Nat
 | []=>none
 | r::l=>if r.tx=tx/\r.state=1 then some 0 else (Xq tx l).map (· + 1)
theorem Xr {tx:Int} : ∀ {l:List dH},(l.Pairwise fun a b=>a.tx<b.tx)->Xq tx l=(match vP tx l with | some k=>if (l.getD k default).state=1 then some k else none | none=>none)
 | [],_=>rfl
 | r::l,h=>by
  rw [List.pairwise_cons] at h
  have ih:=Xr (tx:=tx) h.2
  unfold Xq vP
  by_cases h1:r.tx=tx
  ·rw [if_pos h1]
   have hn:vP tx l=none:=by
    cases hf:vP tx l with
    | none=>rfl
    | some k =>
     exfalso
     have : ∀ {l:List dH} {j:Nat},vP tx l=some j->∃ q∈l,q.tx=tx:=by
      intro l
      induction l with
      | nil=>intro j h; cases h
      | cons x l ih =>
       intro j h
       unfold vP at h
       split at h
       ·exact ⟨x,by simp,by assumption⟩
       ·cases h2:vP tx l with
        | none=>rw [h2] at h; cases h
        | some i=>obtain ⟨q,hq,e⟩:=ih h2; exact ⟨q,by simp [hq],e⟩
     obtain ⟨q,hq,e⟩:=this hf
     have:=h.1 q hq
     omega
   rw [hn] at ih
   by_cases h2:r.state=1
   ·rw [if_pos ⟨h1,h2⟩]; simp [List.getD,h2]
   ·rw [if_neg (fun q=>h2 q.2),ih]; simp [List.getD,h2]
  ·rw [if_neg (fun q=>h1 q.1),if_neg h1,ih]
   cases vP tx l with
   | none=>rfl
   | some k =>
    simp only [Option.map_some,List.getD_cons_succ]
    split <;> rfl
theorem R5 (m:Nat) (hm:2<=m) (tx:Int) : ∀ (post pre:List dH),pre.length+post.length<=1048576->∀ n,post.length<n->∀ k0 k1,
  bA m n (.l (rJ (pre++post))) (.l [[.i tx]]) (.i ((pre++post).length:Nat)) (.i pre.length) k0 k1=(match Xq tx post with | some j=>k0 (.i ((pre.length+j:Nat):Int)) | none=>k1)
 | [],pre,hs,n,hn,k0,k1=>by
  obtain ⟨n,rfl⟩:=aV n
  simp only [bA,T.aj,T.ah,aM,aX,wL,bq]
  rw [lI]
  rfl
 | x::post,pre,hs,n,hn,k0,k1=>by
  obtain ⟨n,rfl⟩:=aV n
  simp only [List.length_cons] at hs hn
  have ih:=R5 m hm tx post (pre++[x]) (by simp; omega) n (by omega) k0 k1
  rw [aG,List.append_assoc,List.singleton_append] at ih
  have r1:bJ (.l [[T.i tx]])=[T.i tx]:=rfl
  have hv : ∀ (K:T->An),oG m (.i x.tx) (.l (rO x.ops)) (.i x.state) (.l (ir x.yes)) (.l [[.i tx]]) K=K (.b (decide (x.tx=tx/\x.state=1))):=by
   intro K
   obtain ⟨m,rfl⟩:=aV m
   simp only [oG,r1,List.getD_cons_zero,T.aj]
   by_cases h1:x.tx=tx
   ·rw [ay (by simp [h1])]
    congr 2
    by_cases h2:x.state=1 <;> simp [h1,h2]
   ·rw [aC (by simp [h1]),decide_eq_false (fun q=>h1 q.1)]
  simp only [bA,T.aj,T.ah,ixJ,bN pre (by omega),j0,j1,j2,j3,r1,aM,aX,wL,bq]
  rw [bK,bK,hv]
  simp only [T.aI]
  unfold Xq
  by_cases h:x.tx=tx/\x.state=1
  ·rw [decide_eq_true h,if_pos h]; rfl
  ·rw [decide_eq_false h,if_neg h,cond_false]
   refine Eq.trans ih ?_
   cases Xq tx post with
   | none=>rfl
   | some j=>simp only [Option.map_some]; congr 3; simp; omega
theorem ae0 {m:Nat} (hm:1048590<=m) (jobs:List dH) (tx:Int) (hl:jobs.length<=1048576) (K:T->An) :
  dF m (.l (rJ jobs)) (.l [[.i tx]]) K=K (.i (match Xq tx jobs with | some k=>(k:Int) | none=>-1)):=by
 obtain ⟨m,rfl⟩:=aV m
 have r2:bJ (.l [[T.i tx]])=[T.i tx]:=rfl
 simp only [dF,T.ah,r2,wL]
 rw [show (T.i ((rJ jobs).length:Int))=T.i ((([]:List dH)++jobs).length:Nat) by simp]
 refine (R5 m (by omega) tx jobs [] (by simp; omega) m (by omega) _ _).trans ?_
 cases Xq tx jobs <;> simp
theorem jh0 (x:dH):x.r.headD dflt = .i x.tx:=rfl
theorem jh1 (x:dH):x.r.tail.headD dflt = .l (rO x.ops):=rfl
theorem jh2 (x:dH):x.r.tail.tail.headD dflt = .i x.state:=rfl
theorem jh3 (x:dH):x.r.tail.tail.tail.headD dflt = .l (ir x.yes):=rfl
theorem adS {m:Nat} (hm:1050200<=m) (c:fV) (h:yL c) (hd:c.jobs.Pairwise fun a b=>a.tx<b.tx) (hy : ∀ j∈c.jobs,j.yes.Pairwise (· < ·)) (s tx:Int) (yes:Bool) (K:T->T->T->T->T->T->An) :
  qV m (.i c.n) (.i c.life) (.i c.next) (.l (rJ c.jobs)) (.l (rC c.log)) (.i c.sure) (.i s) (.i tx) (.b yes) K =
   (fun q:fV=>K (.i q.n) (.i q.life) (.i q.next) (.l (rJ q.jobs)) (.l (rC q.log)) (.i q.sure)) (FM c s tx yes):=by
 obtain ⟨m,rfl⟩:=aV m
 have h1:=h.Bh
 have h2:=h.wu
 simp only [qV,jn,T.ah,aM,aX,wL]
 rw [ae0 (by omega) c.jobs tx (by omega),Xr hd]
 simp only [T.aj]
 unfold FM
 cases hf:vP tx c.jobs with
 | none=>simp
 | some k =>
  obtain ⟨pre,x,post,e1,rfl,e3,e4,e5⟩:=qg c.jobs (MF hf)
  obtain ⟨b1,b2,b3⟩:=h.jobs x (by rw [e1]; simp)
  have hyx:=hy x (by rw [e1]; simp)
  have hpl:pre.length+post.length+1<=10000:=by rw [e1] at h1; simp at h1; omega
  simp only [e3,e4,e5]
  by_cases g1:x.state=1
  ·rw [if_pos g1]
   simp only []
   rw [ay (by simp)]
   by_cases g2:1000<=c.log.length
   ·rw [aN (by rw [kC]; omega),if_pos (.inr g2)]
   ·rw [dn (by rw [kC]; omega),if_neg (by simp [g1]; omega)]
    have hB:decide ((0:Int)<=(pre.length:Int)/\(pre.length:Int)<((rJ c.jobs).length:Int))=true:=decide_eq_true (by rw [e1]; simp; omega)
    have hB2 : ∀ y:dH,decide (Int.toNat (pre.length:Int)<(rJ (pre++y::post)).length)=true:=fun y=>decide_eq_true (by simp)
    have hB4:Nat.beq (Int.toNat (pre.length:Int)) (Int.toNat (pre.length:Int))=true:=Nat.beq_refl _
    have s1:=mo x.ops c.n
    have e6 : ∀ l:List Int,[T.i x.tx,T.l (rO x.ops),T.i x.state,T.l (ir l)]=dH.r { x with yes:=l }:=fun _=>rfl
    have e7:x.r.set 2 (T.i 3)=dH.r { x with state:=3 }:=rfl
    have e8 : ∀ l:List Int,(dH.r { x with yes:=l }).set 2 (T.i 2)=dH.r { x with yes:=l,state:=2 }:=fun _=>rfl
    have e9 : ∀ l:List Int,ir l++[[T.i s]]=ir (l++[s]):=fun l=>by simp [ir,jR]
    have dl:decide (((rC c.log).length+1) * 2<=au)=true:=decide_eq_true (by rw [kC]; unfold au; omega)
    have dl2:decide (((ir x.yes).length+1) * 1<=au)=true:=decide_eq_true (by rw [fu]; unfold au; omega)
    simp only [hB,cond_true,dl]
    rw [e1]
    simp only [hB2,hB4,cond_true,ixJ,j1,j3,jh0,jh1,jh2,jh3,T.ah,e6,e9,Eo,dl2]
    rw [Gn (by omega) x.ops c.n b1]
    simp only [T.ah]
    rw [Em (by omega) (bI x.ops c.n) s (by omega)]
    simp only [T.aI]
    by_cases g3:s∈bI x.ops c.n
    ·rw [decide_eq_true g3,if_neg (by simp [g3])]
     simp only [Bool.not_true,cond_false]
     cases yes with
     | false =>
      simp only [Bool.not_false,cond_true,if_true]
      rw [e7,Eo,WM]
     | true =>
      simp only [Bool.not_true,cond_false,Bool.true_eq_false,if_false]
      rw [Em (by omega) x.yes s (by omega)]
      simp only [T.aI]
      have tail : ∀ l:List Int,cond (((ir l).length:Int)==((ir (bI x.ops c.n)).length:Int)) (K (.i c.n) (.i c.life) (.i c.next) (T.l (rJ (pre ++ { x with yes:=l,state:=2 } :: post))) (T.l (rC (c.log++[⟨tx,true⟩]))) (.i c.sure))
        (K (.i c.n) (.i c.life) (.i c.next) (T.l (rJ (pre ++ { x with yes:=l } :: post))) (T.l (rC c.log)) (.i c.sure)) =
        (fun q:fV=>K (.i q.n) (.i q.life) (.i q.next) (.l (rJ q.jobs)) (.l (rC q.log)) (.i q.sure)) (if l.length=(bI x.ops c.n).length then { c with jobs:=pre ++ { x with yes:=l,state:=2 } :: post,log:=c.log++[⟨tx,true⟩] }
         else { c with jobs:=pre ++ { x with yes:=l } :: post }):=by
       intro l
       rw [fu,fu]
       by_cases g4:l.length=(bI x.ops c.n).length
       ·rw [ay (by simp [g4]),if_pos g4]
       ·rw [aC (by simp; omega),if_neg g4]
      by_cases g5:s∈x.yes
      ·rw [decide_eq_true g5]
       simp only [Bool.not_true,cond_false]
       have ep:qK x.yes s=x.yes:=by unfold qK; rw [if_pos g5]
       rw [ep]
       refine Eq.trans ?_ (tail x.yes)
       try simp only [hB2,cond_true,ixJ,j3,T.ah]
       have e8':x.r.set 2 (T.i 2)=dH.r { x with yes:=x.yes,state:=2 }:=rfl
       rw [e8',Eo,WM]
      ·rw [decide_eq_false g5]
       simp only [Bool.not_false,cond_true]
       obtain ⟨m',rfl⟩ : ∃ q,m=q+1:=⟨m-1,by omega⟩
       have es : ∀ K,rZ (m'+1) (T.l (ir (x.yes++[s]))) K=K (T.l (ir (qK x.yes s))):=by
        intro K
        simp only [rZ,T.ah]
        rw [<-abq hyx g5]
        exact congrArg (fun q=>K (T.l q)) (Ga _)
       rw [es]
       simp only [T.ah,e6,Eo]
       refine Eq.trans ?_ (tail (qK x.yes s))
       simp only [hB2,cond_true,ixJ,j3,T.ah,e8,Eo,WM]
    ·rw [decide_eq_false g3,if_pos g3,e1]
     rfl
  ·rw [if_neg g1]
   simp only []
   rw [aC (by simp),if_pos (.inl g1)]
theorem Y1 {m:Nat} (hm:1048610<=m) (c:fV) (h:yL c) (tx:Int) (K:T->T->An) :
  oH m (.l [[.i c.n,.i c.life,.i c.next,.l (rJ c.jobs),.l (rC c.log),.i c.sure]]) (.i tx) K=K (.b (jN c tx).1) (.b (jN c tx).2):=by
 obtain ⟨m,rfl⟩:=aV m
 have h2:=h.wu
 have h3:=h.life
 have e1:IntKind.i64.wrap (c.life * 1000)=c.life * 1000:=wrap_i64 (by omega) (by omega)
 have r1:bJ (.l [[T.i c.n,.i c.life,.i c.next,.l (rJ c.jobs),.l (rC c.log),.i c.sure]])=[T.i c.n,.i c.life,.i c.next,.l (rJ c.jobs),.l (rC c.log),.i c.sure]:=rfl
 have r2:[T.i c.n,T.i c.life,T.i c.next,T.l (rJ c.jobs),T.l (rC c.log),T.i c.sure].take 6=[T.i c.n,.i c.life,.i c.next,.l (rJ c.jobs),.l (rC c.log),.i c.sure]:=rfl
 simp only [oH,r1,r2,List.drop_succ_cons,List.drop_zero,List.getD_cons_zero,T.ah,T.aj,e1,aX]
 unfold jN
 by_cases c1:tx<1000
 ·rw [aN c1,if_pos c1]
 ·rw [dn c1,if_neg c1,Gq (by omega) _ _ _ _ _ c.log tx (by omega)]
  simp only [T.aj]
  unfold chI
  cases hf:ow tx c.log with
  | none=>simp only []; rw [bK]
  | some k =>
   have hk:=ES hf
   simp only []
   rw [lI]
   by_cases c2:(k:Int)<c.sure
   ·rw [lI,aN (by rw [kC]; omega),Int.toNat_natCast,aeB c.log hk,decide_eq_true c2]
    simp
   ·rw [bK,decide_eq_false c2]
    simp
end Go.Proofs.YtpchnmbcbcfhjaaGreat

namespace Go.Proofs.YtpchnmbcbcfhjaaGreat
open Go Go.E Go.Proofs
structure RW (w:aB):Prop where
 b:uK w
 xq:w.net.length<=400
 rep : ∀ s∈w.av,∃ seen,cO s.log=some ⟨s.map,s.held,seen⟩
 jd:w.c.jobs.Pairwise fun a b=>a.tx<b.tx
 jy : ∀ j∈w.c.jobs,j.yes.Pairwise (· < ·)
 rng : ∀ x∈w.net,0<=x.bQ/\x.bQ<w.av.length
theorem GD : ∀ (l net:List bB),net.length<=400->pJ net l=net++l.take (400-net.length)
 | [],net,h=>by simp [pJ]
 | x::l,net,h=>by
  unfold pJ
  by_cases c:net.length<400
  ·rw [if_pos c,GD l (net++[x]) (by simp; omega)]
   obtain ⟨q,hq⟩ : ∃ q,400-net.length=q+1:=⟨400-net.length-1,by omega⟩
   have e:400-(net++[x]).length=q:=by simp; omega
   rw [e,hq]; simp
  ·rw [if_neg c,GD l net h]
   have e:400-net.length=0:=by omega
   rw [e]; simp
theorem ae1 {m:Nat} (hm:1<=m) (x0 x1 x2 x5:T) (l3 l4 l6 l8 l9:List (List T)) (net said:List bB) (h1:said.length<=1048576) (h2:net.length<=400) (K:KW) :
  tq m x0 x1 x2 (.l l3) (.l l4) x5 (.l l6) (.l (rW net)) (.l l8) (.l l9) (.l (rW said)) K=K (.l l3) (.l l4) (.l l6) (.l l8) (.l l9) x0 x1 x2 x5 (.l (rW (pJ net said))):=by
 obtain ⟨m,rfl⟩:=aV m
 have e0:IntKind.i64.wrap (400-(net.length:Int))=400-(net.length:Int):=wrap_i64 (by omega) (by omega)
 have e1:zV (said.length:Int) (zW (400-(net.length:Int)) 0)=((min said.length (400-net.length):Nat):Int):=by
  unfold zV zW
  split <;> split <;> omega
 have e2:(rW said).take (min said.length (400-net.length))=rW (said.take (400-net.length)):=by
  rw [Nat.min_comm,<-List.take_take,List.take_of_length_le (i:=said.length) (by simp)]
  simp [rW,List.map_take]
 simp only [tq,T.ah,fE,e0,e1,Int.toNat_natCast,e2,wL]
 rw [bK,bK,aN (by simp; unfold au; omega),GD said net h2]
 congr 2
 simp [rW]
theorem abr {m:Nat} (hm:3200040<=m) (w:aB) (h:RW w) (x:bB) (hx:Ep x) (hs:0<=x.bQ/\x.bQ<w.av.length) (kd yes:T) (K:KW) :
  qU m (.i w.c.n) (.i w.c.life) (.i w.c.next) (.l (rJ w.c.jobs)) (.l (rC w.c.log)) (.i w.c.sure) (.l (rS w.av)) (.l (rW w.net)) (.l (rW w.outs)) (.l (rB w.begun)) kd (.i x.bQ) (.i x.tx) (.l (rO x.ops)) yes K=kW K (Av w x):=by
 obtain ⟨m,rfl⟩:=aV m
 have h1:=h.b.shl
 have h2:=h.b.Bl
 obtain ⟨pre,s,post,e1,e2,e3,e4,e5⟩:=WR hs.1 hs.2
 have hB:=h.b.sh s (by rw [e1]; simp)
 obtain ⟨seen,hr⟩:=h.rep s (by rw [e1]; simp)
 unfold Av ug
 simp only [e3,e4,e5]
 simp only [qU,jn,T.ah,T.aj,aX,wL]
 rw [e1,e2,bK,bK]
 simp only [ixS,s0,s1,s2,s3,s4,T.ah]
 rw [adR (by omega) s hB hr x.tx x.ops hx.1]
 have hq:=YC (WS s x.tx x.ops)
 simp only [T.ah,T.aj,hq,J3]
 generalize mG s x.tx x.ops=q
 by_cases g1:q.1=5
 ·rw [aC (by simp [g1]),if_neg (by simp [g1])]
  rfl
 ·rw [ay (by simpa using g1)]
  by_cases g2:w.outs.length<400
  ·rw [dn (by rw [fE]; omega),if_pos ⟨g1,g2⟩]
   have eo : ∀ b:Bool,rW w.outs++[[T.i 2,T.i (pre.length:Int),T.i x.tx,T.l [],T.b b]]=rW (w.outs++[⟨2,(pre.length:Int),x.tx,[],b⟩]):=fun b=>by simp [bB.r]
   by_cases g3:q.1=1
   ·rw [aC (by simp [g3]),aN (by rw [fE]; unfold au; omega),eo,decide_eq_true (.inl g3)]
    rfl
   ·rw [ay (by simpa using g3),aN (by rw [fE]; unfold au; omega),eo]
    have:(q.1==3)=decide (q.1=1\/q.1=3):=by
     by_cases g4:q.1=3
     ·simp [g4]
     ·simp [g3,g4]
    rw [this]
    rfl
  ·rw [aN (by rw [fE]; omega),if_neg (fun q=>g2 q.2)]
   rfl
theorem Xt {m:Nat} (hm:3200060<=m) (w:aB) (h:RW w) (k:Nat) (hk:k<w.net.length) (K:KW) :
  nV m (.i w.c.n) (.i w.c.life) (.i w.c.next) (.l (rJ w.c.jobs)) (.l (rC w.c.log)) (.i w.c.sure) (.l (rS w.av)) (.l (rW w.net)) (.l (rW w.outs)) (.l (rB w.begun)) (.i k) K =
   kW K (Bo { w with net:=w.net.take k++w.net.drop (k+1) } (w.net.getD k default)):=by
 obtain ⟨m,rfl⟩:=aV m
 have h1:=h.xq
 obtain ⟨pre,x,post,e1,rfl,e3,e4,e5⟩:=qg w.net hk
 have hx:=h.b.net x (by rw [e1]; simp)
 have hs:=h.rng x (by rw [e1]; simp)
 have hpl:pre.length+post.length+1<=400:=by rw [e1] at h1; simp at h1; omega
 have f1:IntKind.i64.wrap ((pre.length:Int)+1)=(pre.length:Int)+1:=bN pre (by omega)
 simp only [e3,e4,e5]
 obtain ⟨w',hw'⟩ : ∃ w',w' = { w with net:=pre++post }:=⟨_,rfl⟩
 have hR:RW w':=by
  rw [hw']
  exact ⟨⟨h.b.c,h.b.shl,h.b.sh,by simp; omega,fun y hy=>h.b.net y (by rw [e1]; simp at hy ⊢; rcases hy with hy | hy <;> simp [hy]),h.b.Bl,h.b.out,h.b.Bn⟩,by simp; omega,h.rep,h.jd,h.jy,fun y hy=>h.rng y (by rw [e1]; simp at hy ⊢; rcases hy with hy | hy <;> simp [hy])⟩
 have hdel : ∀ K,dJ m (.l (rW (pre++x::post))) (.i (pre.length:Nat)) (.i ((pre.length:Int)+1)) K=K (.l (rW (pre++post))):=by
  intro K
  obtain ⟨m,rfl⟩:=aV m
  simp only [dJ,T.ah,T.aj]
  rw [bK]
  congr 2
  have:Int.toNat ((pre.length:Int)+1)=pre.length+1:=by omega
  rw [this,Int.toNat_natCast]
  simp [rW,List.drop_append]
 rw [<-hw']
 simp only [nV,T.ah,T.aj,aM,aX,wL,bq]
 rw [e1,bK,bK]
 simp only [ixW,w0,w1,w2,w3,w4,T.ah,T.aj,f1]
 rw [hdel]
 simp only [T.ah]
 have fc:w'.c=w.c:=by rw [hw']
 have fs:w'.av=w.av:=by rw [hw']
 have fn:w'.net=pre++post:=by rw [hw']
 have fo:w'.outs=w.outs:=by rw [hw']
 have fb:w'.begun=w.begun:=by rw [hw']
 rw [<-fc,<-fs,<-fn,<-fo,<-fb]
 have hs':0<=x.bQ/\x.bQ<w'.av.length:=by rw [fs]; exact hs
 clear hw' fc fs fn fo fb
 unfold Bo
 by_cases k1:x.kind=1
 ·rw [ay (by simp [k1]),if_pos k1,abr (by omega) w' hR x hx hs']
  rfl
 ·rw [aC (by simp [k1]),if_neg k1]
  by_cases k3:x.kind=3
  ·obtain ⟨pr,s,po,d1,d2,d3,d4,d5⟩:=WR hs'.1 hs'.2
   have hB:=hR.b.sh s (by rw [d1]; simp)
   obtain ⟨seen,hr⟩:=hR.rep s (by rw [d1]; simp)
   rw [ay (by simp [k3]),if_pos k3]
   unfold ug
   simp only [d3,d4,d5]
   rw [d1,d2,bK,bK]
   simp only [ixS,s0,s1,s2,s3,s4,T.ah]
   refine (Y0 (by omega) s hB hr x.tx x.yes (fun _ a b c d e=>K (.i w'.c.n) (.i w'.c.life) (.i w'.c.next) (T.l (rJ w'.c.jobs)) (T.l (rC w'.c.log)) (.i w'.c.sure) (T.l ((rS (pr++s::po)).set (Int.toNat (pr.length:Int)) [a,(T.l b.rows),c,(T.l d.rows),(T.l e.rows)])) (T.l (rW w'.net)) (T.l (rW w'.outs)) (T.l (rB w'.begun)))).trans ?_
   simp only [T.ah]
   rw [YC (Gu s x.tx x.yes),J3]
   rfl
  ·rw [aC (by simp [k3]),if_neg k3]
   by_cases k2:x.kind=2
   ·rw [ay (by simp [k2]),if_pos k2,adS (by omega) w'.c hR.b.c hR.jd hR.jy]
    rfl
   ·rw [aC (by simp [k2]),if_neg k2]
    by_cases k4:x.kind=4
    ·rw [ay (by simp [k4]),if_pos k4,Y1 (by omega) w'.c hR.b.c]
     simp only [T.aI]
     cases hy:(jN w'.c x.tx).2 with
     | false=>rfl
     | true =>
      simp only [cond_true,if_true]
      exact (ae1 (by omega) _ _ _ _ _ _ _ _ _ w'.net [⟨3,x.bQ,x.tx,[],(jN w'.c x.tx).1⟩] (by simp) hR.xq _).trans rfl
    ·rw [aC (by simp [k4]),if_neg k4]
     rfl
def Dr (w:aB):aB:=Bo { w with net:=w.net.take 0++w.net.drop (0+1) } (w.net.getD 0 default)
def qh:Nat->aB->aB
 | 0,w=>w
 | n+1,w=>if w.net=[] then w else qh n (Dr w)
def Eu (w:aB):aB:=qh 2000 w
theorem J7 {I:aB->Prop} (hS : ∀ w,I w->w.net≠[]->I (Dr w)) : ∀ (c:Nat) (w:aB),I w->I (qh c w)
 | 0,w,h=>h
 | c+1,w,h=>by
  unfold qh
  by_cases hn:w.net=[]
  ·rw [if_pos hn]; exact h
  ·rw [if_neg hn]; exact J7 hS c _ (hS w h hn)
section
variable {I:aB->Prop} (hI : ∀ w,I w->RW w) (hS : ∀ w,I w->w.net≠[]->I (Dr w))
include hI hS
abbrev kD (J:T->T->T->T->T->T->T->T->T->T->T->An) (w:aB):An:=J (.i 0) (.i w.c.n) (.i w.c.life) (.i w.c.next) (.i w.c.sure) (.l (rJ w.c.jobs)) (.l (rC w.c.log)) (.l (rS w.av)) (.l (rW w.net)) (.l (rW w.outs)) (.l (rB w.begun))
theorem K9 (m:Nat) (hm:3200060<=m) (k1:T->T->T->T->T->T->T->T->T->T->T->An) : ∀ (c:Nat) (w:aB),I w->c<=2000->∀ n,c<n->∀ k0,
  fU m n (.i 0) (.i ((2000-c:Nat):Int)) (.i w.c.n) (.i w.c.life) (.i w.c.next) (.i w.c.sure) (.l (rJ w.c.jobs)) (.l (rC w.c.log)) (.l (rS w.av)) (.l (rW w.net)) (.l (rW w.outs)) (.l (rB w.begun)) k0 k1=kD k0 (qh c w)
 | 0,w,h,hc,n,hn,k0=>by
  obtain ⟨n,rfl⟩:=aV n
  simp only [fU,jn,T.aj,T.ah,wL,bq]
  rw [aC (by simp)]
  rfl
 | c+1,w,h,hc,n,hn,k0=>by
  obtain ⟨n,rfl⟩:=aV n
  have hw:=hI w h
  simp only [fU,jn,T.aj,T.ah,wL,bq]
  rw [ay (by simp; omega)]
  unfold qh
  by_cases hn0:w.net=[]
  ·rw [dn (by rw [fE,hn0]; simp),if_pos hn0]
   rfl
  ·have hl:0<w.net.length:=List.length_pos_iff.2 hn0
   rw [aN (by rw [fE]; omega),if_neg hn0]
   refine (Xt (m:=m) (by omega) w hw 0 hl _).trans ?_
   have ih:=K9 m hm k1 c (Dr w) (hS w h hn0) (by omega) n (by omega) k0
   have ew:IntKind.i64.wrap (((2000-(c+1):Nat):Int)+1)=((2000-c:Nat):Int):=by rw [wrap_i64 (by omega) (by omega)]; omega
   rw [ew]
   exact ih
theorem Y2 {m:Nat} (hm:3200070<=m) (w:aB) (h:I w) (K:KW) :
  qd m (.i w.c.n) (.i w.c.life) (.i w.c.next) (.l (rJ w.c.jobs)) (.l (rC w.c.log)) (.i w.c.sure) (.l (rS w.av)) (.l (rW w.net)) (.l (rW w.outs)) (.l (rB w.begun)) K=kW K (Eu w):=by
 obtain ⟨m,rfl⟩:=aV m
 obtain ⟨m',rfl⟩ : ∃ q,m=q+1:=⟨m-1,by omega⟩
 have hw:=hI w h
 simp only [qd,om,jn,T.aj,T.ah,wL,bq]
 rw [ay (by simp)]
 show _=kW K (qh (1999+1) w)
 unfold qh
 by_cases hn0:w.net=[]
 ·rw [dn (by rw [fE,hn0]; simp),if_pos hn0]
  rfl
 ·have hl:0<w.net.length:=List.length_pos_iff.2 hn0
  rw [aN (by rw [fE]; omega),if_neg hn0]
  refine (Xt (m:=m'+1) (by omega) w hw 0 hl _).trans ?_
  have ih:=K9 hI hS (m'+1) (by omega) (fun Mx KJ KL y38 y39 Fa MB PX Qs UF TW=>K KJ KL y38 (T.l Fa.rows) (T.l MB.rows) y39 (T.l PX.rows) (T.l Qs.rows) (T.l UF.rows) (T.l TW.rows)) 1999 (Dr w) (hS w h hn0) (by omega) m' (by omega) (fun Mx KJ KL y38 y39 Fa MB PX Qs UF TW=>K KJ KL y38 (T.l Fa.rows) (T.l MB.rows) y39 (T.l PX.rows) (T.l Qs.rows) (T.l UF.rows) (T.l TW.rows))
  exact ih
end
end Go.Proofs.YtpchnmbcbcfhjaaGreat

namespace Go.Proofs.YtpchnmbcbcfhjaaGreat
open Go Go.E Go.Proofs
theorem R6 {m:Nat} (hm:1<=m) (l:List Int) (h:l.length<=1048576) (K:T->An):gG m (.l (ir l)) K=K (.l (ir l)):=by
 obtain ⟨m,rfl⟩:=aV m
 simp only [gG,T.ah,wL]
 rw [aN (by rw [fu]; unfold au; omega)]
theorem Jh {m:Nat} (hm:1<=m) (l:List aY) (h:l.length<=1048576) (K:T->An):bT m (.l (rC l)) K=K (.l (rC l)):=by
 obtain ⟨m,rfl⟩:=aV m
 simp only [bT,T.ah,wL]
 rw [aN (by rw [kC]; unfold au; omega)]
theorem Y3 {m:Nat} (hm:1<=m) (l:List bR) (h:l.length<=1048576) (K:T->An):bH m (.l (rP l)) K=K (.l (rP l)):=by
 obtain ⟨m,rfl⟩:=aV m
 simp only [bH,T.ah,wL]
 rw [aN (by rw [tH]; unfold au; omega)]
theorem afL (x:dH):[T.i x.tx,T.l (rO x.ops),T.i x.state,T.l (ir x.yes)]=x.r:=rfl
theorem Xu (m:Nat) (hm:1<=m) (x6 x7 x8 x9 x10 bW gH mh qF wF wG xE x18 Dm x20:T) (YH YI:List (List T)) : ∀ (post pre:List dH),(∀ j∈post,j.ops.length<=1048576/\j.yes.length<=1048576)->pre.length+post.length<=1048576->∀ n,post.length<n->∀ k0 k1,
  gW m n (.i 0) (.i 0) (.i 0) (.l (rJ (pre++post))) (.i ((pre++post).length:Nat)) (.i pre.length) x6 x7 x8 x9 x10 bW gH mh qF wF wG xE x18 Dm x20 (.l YH) (.l YI) (.l (rJ pre)) k0 k1 =
   k0 (.i 0) (.i 0) (.i 0) x6 x7 x8 x9 x10 bW gH mh qF wF wG xE x18 Dm x20 (.l YH) (.l YI) (.l (rJ (pre++post)))
 | [],pre,ho,hs,n,hn,k0,k1=>by
  obtain ⟨n,rfl⟩:=aV n
  simp only [gW,T.aj,T.ah,aM,aX,wL,bq]
  rw [lI,List.append_nil]
  rfl
 | x::post,pre,ho,hs,n,hn,k0,k1=>by
  obtain ⟨n,rfl⟩:=aV n
  simp only [List.length_cons] at hs hn
  obtain ⟨h1,h2⟩:=ho x (by simp)
  have ih:=Xu m hm x6 x7 x8 x9 x10 bW gH mh qF wF wG xE x18 Dm x20 YH YI post (pre++[x]) (fun j hj=>ho j (by simp [hj])) (by simp; omega) n (by omega) k0 k1
  rw [aG,List.append_assoc,List.singleton_append] at ih
  have e:rJ pre++[x.r]=rJ (pre++[x]):=by simp
  simp only [gW,T.aj,T.ah,ixJ,bN pre (by omega),j0,j1,j2,j3,aM,aX,wL,bq]
  rw [bK,bK,vQ hm x.ops h1,R6 hm x.yes h2]
  simp only [T.ah,afL,e]
  rw [aN (by simp; unfold au; omega)]
  exact ih
theorem abt {m:Nat} (hm:1048600<=m) (c:fV) (h1:c.jobs.length<=1048576) (h2 : ∀ j∈c.jobs,j.ops.length<=1048576/\j.yes.length<=1048576) (h3:c.log.length<=1048576) (K:T->T->T->T->T->T->An) :
  sS m (.i c.n) (.i c.life) (.i c.next) (.l (rJ c.jobs)) (.l (rC c.log)) (.i c.sure) K=K (.i c.n) (.i c.life) (.i c.next) (.l (rJ c.jobs)) (.l (rC c.log)) (.i c.sure):=by
 obtain ⟨m,rfl⟩:=aV m
 obtain ⟨m',rfl⟩ : ∃ q,m=q+1:=⟨m-1,by omega⟩
 simp only [sS,qw,T.aj,T.ah,aM,aX,wL,bq]
 cases hj:c.jobs with
 | nil =>
  rw [lI]
  rw [Jh (by omega) c.log h3]
  rfl
 | cons x post =>
  rw [hj] at h1 h2
  simp only [List.length_cons] at h1
  obtain ⟨a1,a2⟩:=h2 x (by simp)
  have g:(rJ (x::post)).getD (Int.toNat (0:Int)) []=x.r:=rfl
  simp only [g,j0,j1,j2,j3,T.ah]
  rw [bK,bK,vQ (by omega) x.ops a1,R6 (by omega) x.yes a2]
  simp only [T.ah,afL]
  have l:=Xu (m'+1) (by omega) (.i c.n) (.i c.life) (.i c.next) (.l (rJ (x::post))) (.l (rC c.log)) (.i c.sure) (.i 0) (.i 0) (.i 0) (.i 0) (.i c.n) (.i c.life) (.i c.next) (.l (rC c.log)) (.i c.sure) [] [] post [x] (fun j hj=>h2 j (by simp [hj])) (by simp; omega) m' (by omega)
  rw [show (T.i ((rJ (x::post)).length:Int))=T.i (([x]++post).length:Nat) by simp,show (T.i (IntKind.i64.wrap (0+1)))=T.i ((([x]:List dH).length:Nat):Int) from rfl]
  refine (l _ _).trans ?_
  simp only [T.ah]
  rw [Jh (by omega) c.log h3]
  rfl
theorem Xv (m:Nat) (hm:1<=m) : ∀ (post pre:List bB),(∀ x∈post,x.ops.length<=1048576)->pre.length+post.length<=1048576->∀ n,post.length<n->∀ k0,
  gX m n (.l (rW (pre++post))) (.i ((pre++post).length:Nat)) (.i pre.length) (.l (rW pre)) k0=k0 (.l (rW (pre++post)))
 | [],pre,ho,hs,n,hn,k0=>by
  obtain ⟨n,rfl⟩:=aV n
  simp only [gX,T.aj,T.ah,aM,aX,wL,bq]
  rw [lI,List.append_nil]
 | x::post,pre,ho,hs,n,hn,k0=>by
  obtain ⟨n,rfl⟩:=aV n
  simp only [List.length_cons] at hs hn
  have ih:=Xv m hm post (pre++[x]) (fun j hj=>ho j (by simp [hj])) (by simp; omega) n (by omega) k0
  rw [aG,List.append_assoc,List.singleton_append] at ih
  have e:rW pre++[x.r]=rW (pre++[x]):=by simp
  simp only [gX,T.aj,T.ah,ixW,bN pre (by omega),w0,w1,w2,w3,w4,aM,aX,wL,bq]
  rw [bK,bK,vQ hm x.ops (ho x (by simp))]
  simp only [T.ah,ZV,e]
  rw [aN (by simp; unfold au; omega)]
  exact ih
theorem R7 {m:Nat} (hm:1048600<=m) (l:List bB) (h1:l.length<=1048576) (h2 : ∀ x∈l,x.ops.length<=1048576) (K:T->An):pz m (.l (rW l)) K=K (.l (rW l)):=by
 obtain ⟨m,rfl⟩:=aV m
 simp only [pz,T.ah,wL]
 rw [show (T.i ((rW l).length:Int))=T.i ((([]:List bB)++l).length:Nat) by simp]
 exact (Xv m (by omega) l [] h2 (by simpa using h1) m (by omega) _).trans rfl
theorem Xw (m:Nat) (hm:1<=m) : ∀ (post pre:List bg),(∀ x∈post,x.ops.length<=1048576)->pre.length+post.length<=1048576->∀ n,post.length<n->∀ k0,
  iX m n (.l (rR (pre++post))) (.i ((pre++post).length:Nat)) (.i pre.length) (.l (rR pre)) k0=k0 (.l (rR (pre++post)))
 | [],pre,ho,hs,n,hn,k0=>by
  obtain ⟨n,rfl⟩:=aV n
  simp only [iX,T.aj,T.ah,aM,aX,wL,bq]
  rw [lI,List.append_nil]
 | x::post,pre,ho,hs,n,hn,k0=>by
  obtain ⟨n,rfl⟩:=aV n
  simp only [List.length_cons] at hs hn
  have ih:=Xw m hm post (pre++[x]) (fun j hj=>ho j (by simp [hj])) (by simp; omega) n (by omega) k0
  rw [aG,List.append_assoc,List.singleton_append] at ih
  have e:rR pre++[x.r]=rR (pre++[x]):=by simp
  simp only [iX,T.aj,T.ah,UG,bN pre (by omega),r0,r1,r2,aM,aX,wL,bq]
  rw [bK,bK,vQ hm x.ops (ho x (by simp))]
  simp only [T.ah,ac6,e]
  rw [aN (by simp; unfold au; omega)]
  exact ih
theorem Xx {m:Nat} (hm:1048600<=m) (l:List bg) (h1:l.length<=1048576) (h2 : ∀ x∈l,x.ops.length<=1048576) (K:T->An):qJ m (.l (rR l)) K=K (.l (rR l)):=by
 obtain ⟨m,rfl⟩:=aV m
 simp only [qJ,T.ah,wL]
 rw [show (T.i ((rR l).length:Int))=T.i ((([]:List bg)++l).length:Nat) by simp]
 exact (Xw m (by omega) l [] h2 (by simpa using h1) m (by omega) _).trans rfl
structure PS1 (s:aF):Prop where
 log:s.log.length<=1048576
 akT : ∀ r∈s.log,r.ops.length<=1048576
 held:s.held.length<=1048576
 aiU : ∀ r∈s.held,r.ops.length<=1048576
 map:s.map.length<=1048576
theorem abu {m:Nat} (hm:1048610<=m) (s:aF) (h:PS1 s) (K:T->T->T->T->T->An) :
  sU m (.i s.id) (.l (rR s.log)) (.i s.sure) (.l (rP s.map)) (.l (rR s.held)) K=K (.i s.id) (.l (rR s.log)) (.i s.sure) (.l (rP s.map)) (.l (rR s.held)):=by
 obtain ⟨m,rfl⟩:=aV m
 simp only [sU,T.ah,wL]
 rw [Xx (by omega) s.log h.log h.akT]
 simp only [T.ah]
 rw [Y3 (by omega) s.map h.map,Xx (by omega) s.held h.held h.aiU]
 simp only [T.ah]
theorem sg0 (x:aF):x.r.getD 0 dflt = .i x.id:=rfl
theorem sg2 (x:aF):x.r.getD 2 dflt = .i x.sure:=rfl
theorem sg3 (x:aF):x.r.getD 3 dflt = .l (rP x.map):=rfl
theorem aiV (x:aF):[T.i x.id,T.l (rR x.log),T.i x.sure,T.l (rP x.map),T.l (rR x.held)]=x.r:=rfl
theorem Xy (m:Nat) (hm:1048610<=m) (x6 x7 x8 x9 x10 bW gH mh qF wF wG xE x18 Dm x20 x21 GH x23:T) (l24 l25 l26 l27 l28 l29 l30 l31 l33 l34 l35:List (List T)) : ∀ (post pre:List aF),(∀ s∈post,PS1 s)->pre.length+post.length<=1048576->∀ n,post.length<n->∀ k0,
  gZ m n (.i 0) (.i 0) (.i 0) (.l (rS (pre++post))) (.i ((pre++post).length:Nat)) (.i pre.length) x6 x7 x8 x9 x10 bW gH mh qF wF wG xE x18 Dm x20 x21 GH x23 (.l l24) (.l l25) (.l l26) (.l l27) (.l l28) (.l l29) (.l l30) (.l l31) (.l (rS pre)) (.l l33) (.l l34) (.l l35) k0 =
   k0 (.i 0) (.i 0) (.i 0) x6 x7 x8 x9 x10 bW gH mh qF wF wG xE x18 Dm x20 x21 GH x23 (.l l24) (.l l25) (.l l26) (.l l27) (.l l28) (.l l29) (.l l30) (.l l31) (.l (rS (pre++post))) (.l l33) (.l l34) (.l l35)
 | [],pre,ho,hs,n,hn,k0=>by
  obtain ⟨n,rfl⟩:=aV n
  simp only [gZ,T.aj,T.ah,aM,aX,wL,bq]
  rw [lI,List.append_nil]
  rfl
 | x::post,pre,ho,hs,n,hn,k0=>by
  obtain ⟨n,rfl⟩:=aV n
  simp only [List.length_cons] at hs hn
  have ih:=Xy m hm x6 x7 x8 x9 x10 bW gH mh qF wF wG xE x18 Dm x20 x21 GH x23 l24 l25 l26 l27 l28 l29 l30 l31 l33 l34 l35 post (pre++[x]) (fun j hj=>ho j (by simp [hj])) (by simp; omega) n (by omega) k0
  rw [aG,List.append_assoc,List.singleton_append] at ih
  have e:rS pre++[x.r]=rS (pre++[x]):=by simp
  simp only [gZ,T.aj,T.ah,ixS,bN pre (by omega),sg0,sg1,sg2,sg3,sg4,aM,aX,wL,bq]
  rw [bK,bK,abu hm x (ho x (by simp))]
  simp only [T.ah,aiV,e]
  rw [aN (by simp; unfold au; omega)]
  exact ih
theorem ag3 (x:dD):[T.i x.tx,T.l (rO x.ops)]=x.r:=rfl
theorem Xz (m:Nat) (hm:1<=m) (x5 x6 x7 x8 x9 x10 bW gH:T) (Pp Um XF MG MH XG XH l20 YH YI l23:List (List T)) : ∀ (post pre:List dD),(∀ s∈post,s.ops.length<=1048576)->pre.length+post.length<=1048576->∀ n,post.length<n->∀ k0,
  gY m n (.i 0) (.i 0) (.l (rB (pre++post))) (.i ((pre++post).length:Nat)) (.i pre.length) x5 x6 x7 x8 x9 x10 bW gH (.l Pp) (.l Um) (.l XF) (.l MG) (.l MH) (.l XG) (.l XH) (.l l20) (.l YH) (.l YI) (.l l23) (.l (rB pre)) k0 =
   k0 (.i 0) (.i 0) x5 x6 x7 x8 x9 x10 bW gH (.l Pp) (.l Um) (.l XF) (.l MG) (.l MH) (.l XG) (.l XH) (.l l20) (.l YH) (.l YI) (.l l23) (.l (rB (pre++post)))
 | [],pre,ho,hs,n,hn,k0=>by
  obtain ⟨n,rfl⟩:=aV n
  simp only [gY,T.aj,T.ah,aM,aX,wL,bq]
  rw [lI,List.append_nil]
  rfl
 | x::post,pre,ho,hs,n,hn,k0=>by
  obtain ⟨n,rfl⟩:=aV n
  simp only [List.length_cons] at hs hn
  have ih:=Xz m hm x5 x6 x7 x8 x9 x10 bW gH Pp Um XF MG MH XG XH l20 YH YI l23 post (pre++[x]) (fun j hj=>ho j (by simp [hj])) (by simp; omega) n (by omega) k0
  rw [aG,List.append_assoc,List.singleton_append] at ih
  have e:rB pre++[x.r]=rB (pre++[x]):=by simp
  simp only [gY,T.aj,T.ah,ixB,bN pre (by omega),b0,b1',aM,aX,wL,bq]
  rw [bK,bK,vQ hm x.ops (ho x (by simp))]
  simp only [T.ah,ag3,e]
  rw [aN (by simp; unfold au; omega)]
  exact ih
structure PW (w:aB):Prop where
 Bh:w.c.jobs.length<=1048576
 jobs : ∀ j∈w.c.jobs,j.ops.length<=1048576/\j.yes.length<=1048576
 log:w.c.log.length<=1048576
 shl:w.av.length<=1048576
 sh : ∀ s∈w.av,PS1 s
 xq:w.net.length<=1048576
 net : ∀ x∈w.net,x.ops.length<=1048576
 Bl:w.outs.length<=1048576
 outs : ∀ x∈w.outs,x.ops.length<=1048576
 Bn:w.begun.length<=1048576
 yU : ∀ x∈w.begun,x.ops.length<=1048576
theorem R8 {m:Nat} (hm:1048630<=m) (w:aB) (h:PW w) (K:KW) :
  mV m (.i w.c.n) (.i w.c.life) (.i w.c.next) (.l (rJ w.c.jobs)) (.l (rC w.c.log)) (.i w.c.sure) (.l (rS w.av)) (.l (rW w.net)) (.l (rW w.outs)) (.l (rB w.begun)) K=kW K w:=by
 obtain ⟨m,rfl⟩:=aV m
 simp only [mV,T.ah,wL]
 have h6:=h.shl
 have h9:=h.Bn
 rw [abt (by omega) w.c h.Bh h.jobs h.log,R7 (by omega) w.net h.xq h.net,R7 (by omega) w.outs h.Bl h.outs]
 simp only [T.ah]
 rw [show (T.i ((rS w.av).length:Int))=T.i ((([]:List aF)++w.av).length:Nat) by simp]
 refine (Xy m (by omega) _ _ _ _ _ _ _ _ _ _ _ _ _ _ _ _ _ _ _ _ _ _ _ _ _ _ _ _ _ w.av [] h.sh (by simpa using h6) m (by omega) _).trans ?_
 simp only [T.ah,T.aj]
 rw [show (T.i ((rB w.begun).length:Int))=T.i ((([]:List dD)++w.begun).length:Nat) by simp]
 refine (Xz m (by omega) _ _ _ _ _ _ _ _ _ _ _ _ _ _ _ _ _ _ _ w.begun [] h.yU (by simpa using h9) m (by omega) _).trans ?_
 simp only [T.ah]
 rfl
theorem bV.pw {w:aB} (h:bV w):PW w:=by
 have hb:=uK.of h
 have hbl:=h.Bn
 have hjl:=h.Bh
 have hll:=h.wu
 have hnl:=h.xq
 have hol:=h.Bl
 have hsl:=hb.shl
 refine ⟨by omega,fun j hj=>⟨by have:=(hb.c.jobs j hj).2.1; omega,by have:=(hb.c.jobs j hj).2.2; omega⟩,by omega,by omega,fun s hs=>?_,by omega,fun x hx=>by have:=(hb.net x hx).2; omega,by omega,fun x hx=>by have:=(hb.out x hx).2; omega,by omega,fun o ho=>?_⟩
 ·have hS:=hb.sh s hs
  exact ⟨by have:=hS.wu; omega,fun r hr=>by have:=(hS.log r hr).1; omega,by have:=hS.Bg; omega,fun r hr=>by have:=(hS.held r hr).1; omega,by have:=hS.map; omega⟩
 ·obtain ⟨h1,-⟩:=h.yU o ho
  have:=(xG h1).2
  omega
theorem bV.rw {w:aB} (h:bV w):RW w :=
 ⟨uK.of h,h.xq,fun s hs=>by
  obtain ⟨k,hS,-⟩:=h.mem hs
  exact hS.2.1.rep,h.WY,fun j hj=>(h.jobs j hj).yes.1,h.range⟩
end Go.Proofs.YtpchnmbcbcfhjaaGreat

namespace Go.Proofs.YtpchnmbcbcfhjaaGreat
open Go Go.E Go.Proofs
def Ev (l:List aF):Nat:=(l.map fun s=>s.held.length).sum
def L9 (l:List dH):Nat:=(l.map fun j=>if j.state=1 then 1 else 0).sum
def aad (w:aB):Int:=((Ev w.av+L9 w.c.jobs:Nat):Int)
theorem XA {l:List aF} (h : ∀ s∈l,s.held.length<=1048576):Ev l<=l.length * 1048576:=by
 induction l with
 | nil=>simp [Ev]
 | cons x l ih =>
  have h1:=h x (by simp)
  have h2:=ih fun s hs=>h s (by simp [hs])
  simp only [Ev,List.map_cons,List.sum_cons,List.length_cons] at *
  omega
theorem aae : ∀ l:List dH,L9 l<=l.length
 | []=>by simp [L9]
 | x::l=>by
  have:=aae l
  simp only [L9,List.map_cons,List.sum_cons,List.length_cons] at *
  split <;> omega
theorem FQ (m:Nat) : ∀ (post pre:List aF) (acc:Nat),(∀ s∈post,s.held.length<=1048576)->acc+post.length * 1048576<=4611686018427387->pre.length+post.length<=1048576->∀ n,post.length<n->∀ k0,
  eP m n (.i (acc:Int)) (.l (rS (pre++post))) (.i ((pre++post).length:Nat)) (.i pre.length) k0=k0 (.i ((acc+Ev post:Nat):Int))
 | [],pre,acc,ho,ha,hs,n,hn,k0=>by
  obtain ⟨n,rfl⟩:=aV n
  simp only [eP,T.aj,T.ah,aM,aX,bq]
  rw [lI]
  rfl
 | x::post,pre,acc,ho,ha,hs,n,hn,k0=>by
  obtain ⟨n,rfl⟩:=aV n
  simp only [List.length_cons] at hs hn ha
  have hx:=ho x (by simp)
  have ih:=FQ m post (pre++[x]) (acc+x.held.length) (fun s h=>ho s (by simp [h])) (by omega) (by simp; omega) n (by omega) k0
  rw [aG,List.append_assoc,List.singleton_append] at ih
  have ew:IntKind.i64.wrap ((acc:Int)+((rR x.held).length:Int))=((acc+x.held.length:Nat):Int):=by rw [dW,wrap_i64 (by omega) (by omega)]; omega
  simp only [eP,T.aj,T.ah,ixS,bN pre (by omega),sg4,ew,aM,aX,bq]
  rw [bK,bK,ih]
  simp only [Ev,List.map_cons,List.sum_cons]
  congr 3
  omega
theorem Ji (m:Nat) : ∀ (post pre:List dH) (acc:Nat),acc+post.length<=4611686018427387->pre.length+post.length<=1048576->∀ n,post.length<n->∀ k0,
  dS m n (.i (acc:Int)) (.l (rJ (pre++post))) (.i ((pre++post).length:Nat)) (.i pre.length) k0=k0 (.i ((acc+L9 post:Nat):Int))
 | [],pre,acc,ha,hs,n,hn,k0=>by
  obtain ⟨n,rfl⟩:=aV n
  simp only [dS,T.aj,T.ah,aM,aX,bq]
  rw [lI]
  rfl
 | x::post,pre,acc,ha,hs,n,hn,k0=>by
  obtain ⟨n,rfl⟩:=aV n
  simp only [List.length_cons] at hs hn ha
  have ih:=fun acc h=>Ji m post (pre++[x]) acc h (by simp; omega) n (by omega) k0
  rw [aG,List.append_assoc,List.singleton_append] at ih
  have ew:IntKind.i64.wrap ((acc:Int)+1)=((acc+1:Nat):Int):=by rw [wrap_i64 (by omega) (by omega)]; omega
  simp only [dS,T.aj,T.ah,ixJ,bN pre (by omega),j2,ew,aM,aX,bq]
  rw [bK,bK]
  simp only [L9,List.map_cons,List.sum_cons]
  by_cases h:x.state=1
  ·rw [ay (by simp [h]),if_pos h,ih (acc+1) (by omega)]
   simp only [L9]
   congr 3
   omega
  ·rw [aC (by simp [h]),if_neg h,ih acc (by omega)]
   simp only [L9]
   congr 3
   omega
theorem XB {m:Nat} (hm:1048600<=m) (w:aB) (h:PW w) (K:T->An) :
  Bb m (.i w.c.n) (.i w.c.life) (.i w.c.next) (.l (rJ w.c.jobs)) (.l (rC w.c.log)) (.i w.c.sure) (.l (rS w.av)) (.l (rW w.net)) (.l (rW w.outs)) (.l (rB w.begun)) K=K (.i (aad w)):=by
 obtain ⟨m,rfl⟩:=aV m
 obtain ⟨m,rfl⟩:=aV m
 have h1:=h.shl
 have h2:=h.Bh
 have hh:=XA fun s hs=>(h.sh s hs).held
 have ha:=aae w.c.jobs
 have e6:((bJ (T.l [[.i w.c.n,.i w.c.life,.i w.c.next,.l (rJ w.c.jobs),.l (rC w.c.log),.i w.c.sure,.l (rS w.av),.l (rW w.net),.l (rW w.outs),.l (rB w.begun)]])).drop 6).getD 0 dflt = .l (rS w.av):=rfl
 have e3:((bJ (T.l [[.i w.c.n,.i w.c.life,.i w.c.next,.l (rJ w.c.jobs),.l (rC w.c.log),.i w.c.sure,.l (rS w.av),.l (rW w.net),.l (rW w.outs),.l (rB w.begun)]])).drop 3).getD 0 dflt = .l (rJ w.c.jobs):=rfl
 simp only [Bb,rE,tu,T.ah,e6,e3,wL]
 rw [show (T.i ((rS w.av).length:Int))=T.i ((([]:List aF)++w.av).length:Nat) by simp]
 refine (FQ m w.av [] 0 (fun s hs=>(h.sh s hs).held) (by omega) (by simpa using h1) m (by omega) _).trans ?_
 rw [show (T.i ((rJ w.c.jobs).length:Int))=T.i ((([]:List dH)++w.c.jobs).length:Nat) by simp]
 refine (Ji m w.c.jobs [] 0 (by omega) (by simpa using h2) m (by omega) _).trans ?_
 simp only [T.aj,Nat.zero_add]
 unfold aad
 congr 2
 have:w.av.length * 1048576<=1048576 * 1048576:=Nat.mul_le_mul_right _ h1
 rw [wrap_i64 (by omega) (by omega)]
 omega
theorem FR (m:Nat) (w:aB) : ∀ (post pre:List aF) (acc:Nat),w.av=pre++post->(∀ s∈post,s.held.length<=1048576)->acc+post.length * 1048576<=4611686018427387->pre.length+post.length<=1048576->∀ n,post.length<n->∀ k0,
  mZ m n (.i 0) (.i (acc:Int)) (.i pre.length) (.i w.c.n) (.i w.c.life) (.i w.c.next) (.l (rJ w.c.jobs)) (.l (rC w.c.log)) (.i w.c.sure) (.l (rS w.av)) (.l (rW w.net)) (.l (rW w.outs)) (.l (rB w.begun)) k0 =
   k0 (.i 0) (.i ((acc+Ev post:Nat):Int)) (.i w.c.n) (.i w.c.life) (.i w.c.next) (.l (rJ w.c.jobs)) (.l (rC w.c.log)) (.i w.c.sure) (.l (rS w.av)) (.l (rW w.net)) (.l (rW w.outs)) (.l (rB w.begun))
 | [],pre,acc,he,ho,ha,hs,n,hn,k0=>by
  obtain ⟨n,rfl⟩:=aV n
  simp only [mZ,T.aj,T.ah,qE,aX,nu,bq]
  rw [dn (by rw [he]; simp)]
  rfl
 | x::post,pre,acc,he,ho,ha,hs,n,hn,k0=>by
  obtain ⟨n,rfl⟩:=aV n
  simp only [List.length_cons] at hs hn ha
  have hx:=ho x (by simp)
  have ih:=FR m w post (pre++[x]) (acc+x.held.length) (by rw [he]; simp) (fun s h=>ho s (by simp [h])) (by omega) (by simp; omega) n (by omega) k0
  rw [aG] at ih
  have g:(rS w.av).getD (Int.toNat (pre.length:Int)) []=x.r:=by rw [he]; exact ixS pre x post
  have ew:IntKind.i64.wrap ((acc:Int)+((rR x.held).length:Int))=((acc+x.held.length:Nat):Int):=by rw [dW,wrap_i64 (by omega) (by omega)]; omega
  simp only [mZ,T.aj,T.ah,g,bN pre (by omega),sd4,ew,qE,aX,nu,bq]
  rw [aN (by rw [he]; simp; omega),aN (by rw [he]; simp; omega)]
  refine ih.trans ?_
  simp only [Ev,List.map_cons,List.sum_cons]
  rw [show acc+x.held.length+(post.map fun s=>s.held.length).sum=acc+(x.held.length+(post.map fun s=>s.held.length).sum) by omega]
theorem jd2 (x:dH):(x.r.drop 2).getD 0 dflt = .i x.state:=rfl
theorem Jj (m:Nat) (x3 x4 x5 x8 x9 x10 bW gH:T) (l7:T) : ∀ (post pre:List dH) (acc:Nat),acc+post.length<=4611686018427387->pre.length+post.length<=1048576->∀ n,post.length<n->∀ k0,
  mY m n (.i 0) (.i (acc:Int)) (.i pre.length) x3 x4 x5 (.l (rJ (pre++post))) l7 x8 x9 x10 bW gH k0=k0 (.i ((acc+L9 post:Nat):Int))
 | [],pre,acc,ha,hs,n,hn,k0=>by
  obtain ⟨n,rfl⟩:=aV n
  simp only [mY,T.aj,T.ah,qE,aX,nu,bq]
  rw [lI]
  rfl
 | x::post,pre,acc,ha,hs,n,hn,k0=>by
  obtain ⟨n,rfl⟩:=aV n
  simp only [List.length_cons] at hs hn ha
  have ih:=fun acc h=>Jj m x3 x4 x5 x8 x9 x10 bW gH l7 post (pre++[x]) acc h (by simp; omega) n (by omega) k0
  rw [aG,List.append_assoc,List.singleton_append] at ih
  have ew:IntKind.i64.wrap ((acc:Int)+1)=((acc+1:Nat):Int):=by rw [wrap_i64 (by omega) (by omega)]; omega
  simp only [mY,T.aj,T.ah,ixJ,bN pre (by omega),jd2,ew,qE,aX,nu,bq]
  rw [bK,bK]
  simp only [L9,List.map_cons,List.sum_cons]
  by_cases h:x.state=1
  ·rw [ay (by simp [h]),if_pos h]
   refine (ih (acc+1) (by omega)).trans ?_
   simp only [L9]
   congr 3
   omega
  ·rw [aC (by simp [h]),if_neg h]
   refine (ih acc (by omega)).trans ?_
   simp only [L9]
   congr 3
   omega
theorem adT {m:Nat} (hm:1048600<=m) (w:aB) (h:PW w) (K:T->An) :
  ER m (.i w.c.n) (.i w.c.life) (.i w.c.next) (.l (rJ w.c.jobs)) (.l (rC w.c.log)) (.i w.c.sure) (.l (rS w.av)) (.l (rW w.net)) (.l (rW w.outs)) (.l (rB w.begun)) K=K (.i (aad w)):=by
 obtain ⟨m,rfl⟩:=aV m
 have h1:=h.shl
 have h2:=h.Bh
 have:w.av.length * 1048576<=1048576 * 1048576:=Nat.mul_le_mul_right _ h1
 have hh:=XA fun s hs=>(h.sh s hs).held
 simp only [ER,T.ah,wL]
 refine (FR m w w.av [] 0 rfl (fun s hs=>(h.sh s hs).held) (by omega) (by simpa using h1) m (by omega) _).trans ?_
 simp only [T.aj,Nat.zero_add]
 refine (Jj m _ _ _ _ _ _ _ _ _ w.c.jobs [] (Ev w.av) (by omega) (by simpa using h2) m (by omega) _).trans ?_
 rfl
def XI (l:List bB):Nat:=(l.map fun x=>if x.kind=4 then 2 else 1).sum
theorem adU : ∀ l:List bB,XI l<=2 * l.length
 | []=>by simp [XI]
 | x::l=>by
  have:=adU l
  simp only [XI,List.map_cons,List.sum_cons,List.length_cons] at *
  split <;> omega
theorem ae2 (a b:List bB):XI (a++b)=XI a+XI b:=by simp [XI]
theorem Y4 (w:aB) (x:bB):(Av w x).net=w.net:=by
 unfold Av
 dsimp only
 split <;> rfl
theorem adV (w:aB) (x:bB):XI (Bo w x).net<=XI w.net+(if x.kind=4 then 1 else 0):=by
 unfold Bo
 by_cases k1:x.kind=1
 ·rw [if_pos k1,Y4]; omega
 rw [if_neg k1]
 by_cases k3:x.kind=3
 ·rw [if_pos k3]; exact Nat.le_add_right _ _
 rw [if_neg k3]
 by_cases k2:x.kind=2
 ·rw [if_pos k2]; exact Nat.le_add_right _ _
 rw [if_neg k2]
 by_cases k4:x.kind=4
 ·rw [if_pos k4,if_pos k4]
  split
  ·show XI (if w.net.length<400 then w.net++[_] else w.net)<=_
   split
   ·rw [ae2]; simp [XI]
   ·omega
  ·omega
 ·rw [if_neg k4]; omega
theorem abv {w:aB} (h:w.net≠[]):XI (Dr w).net+1<=XI w.net:=by
 obtain ⟨x,l,e⟩ : ∃ x l,w.net=x::l:=by
  cases hn:w.net with
  | nil=>exact absurd hn h
  | cons x l=>exact ⟨x,l,rfl⟩
 have:=adV { w with net:=w.net.take 0++w.net.drop (0+1) } (w.net.getD 0 default)
 unfold Dr
 refine Nat.le_trans (Nat.add_le_add_right this 1) ?_
 rw [e]
 simp only [List.take_zero,List.nil_append,List.drop_succ_cons,List.drop_zero,List.getD_cons_zero,XI,List.map_cons,List.sum_cons]
 split <;> omega
theorem drain_empty : ∀ (c:Nat) (w:aB),XI w.net<=c->(qh c w).net=[]
 | 0,w,h=>by
  unfold qh
  cases hn:w.net with
  | nil=>rfl
  | cons x l =>
   rw [hn] at h
   simp only [XI,List.map_cons,List.sum_cons] at h
   split at h <;> omega
 | c+1,w,h=>by
  unfold qh
  by_cases hn:w.net=[]
  ·rw [if_pos hn]; exact hn
  ·rw [if_neg hn]
   have:=abv hn
   exact drain_empty c _ (by omega)
theorem Bz {w:aB} (h:bV w) (hn:w.net≠[]):bV (Dr w):=by
 have:=h.aiG 2 0
 unfold WT at this
 have hl:0<w.net.length:=List.length_pos_iff.2 hn
 rw [if_neg (by omega),if_neg (by omega),if_pos rfl] at this
 exact this
theorem adW {w:aB} (h:bV w) (hn:w.net≠[]):(Dr w).av.length=w.av.length/\(Dr w).c.n=w.c.n:=by
 have h1:=h.shl
 have hN:=Bz h hn
 have h2:=hN.shl
 have e:(Dr w).c.n=w.c.n:=by
  unfold Dr Bo Av FM ug
  dsimp only
  repeat' split
  all_goals rfl
 exact ⟨by omega,e⟩
theorem XC : ∀ (c:Nat) (w:aB),bV w->(qh c w).av.length=w.av.length
 | 0,w,h=>rfl
 | c+1,w,h=>by
  unfold qh
  by_cases hn:w.net=[]
  ·rw [if_pos hn]
  ·rw [if_neg hn,XC c _ (Bz h hn),(adW h hn).1]
theorem PU (m:Nat) (x4 x5 x6 x7 x8 x9 x10 bW:T) (Rx Pp Um XF MG MH XG XH YH YI l23:List (List T)) : ∀ (post pre:List aF) (acc:Nat),(∀ s∈post,s.held.length<=1048576)->acc+post.length * 1048576<=4611686018427387->pre.length+post.length<=1048576->∀ n,post.length<n->∀ k0,
  iA m n (.i 0) (.i 0) (.i (acc:Int)) (.i pre.length) x4 x5 x6 x7 x8 x9 x10 bW (.l Rx) (.l Pp) (.l Um) (.l XF) (.l MG) (.l MH) (.l XG) (.l XH) (.l (rS (pre++post))) (.l YH) (.l YI) (.l l23) k0 =
   k0 (.i 0) (.i 0) (.i ((acc+Ev post:Nat):Int)) x4 x5 x6 x7 x8 x9 x10 bW (.l Rx) (.l Pp) (.l Um) (.l XF) (.l MG) (.l MH) (.l XG) (.l XH) (.l (rS (pre++post))) (.l YH) (.l YI) (.l l23)
 | [],pre,acc,ho,ha,hs,n,hn,k0=>by
  obtain ⟨n,rfl⟩:=aV n
  simp only [iA,T.aj,T.ah,aM,aX,wL,nu,bq]
  rw [lI]
  rfl
 | x::post,pre,acc,ho,ha,hs,n,hn,k0=>by
  obtain ⟨n,rfl⟩:=aV n
  simp only [List.length_cons] at hs hn ha
  have hx:=ho x (by simp)
  have ih:=PU m x4 x5 x6 x7 x8 x9 x10 bW Rx Pp Um XF MG MH XG XH YH YI l23 post (pre++[x]) (acc+x.held.length) (fun s h=>ho s (by simp [h])) (by omega) (by simp; omega) n (by omega) k0
  rw [aG,List.append_assoc,List.singleton_append] at ih
  have ew:IntKind.i64.wrap ((acc:Int)+((rR x.held).length:Int))=((acc+x.held.length:Nat):Int):=by rw [dW,wrap_i64 (by omega) (by omega)]; omega
  simp only [iA,T.aj,T.ah,ixS,bN pre (by omega),sg4,ew,aM,aX,wL,nu,bq]
  rw [bK,bK,bK]
  refine ih.trans ?_
  simp only [Ev,List.map_cons,List.sum_cons]
  rw [show acc+x.held.length+(post.map fun s=>s.held.length).sum=acc+(x.held.length+(post.map fun s=>s.held.length).sum) by omega]
theorem abw {m:Nat} (hm:3200210<=m) (w:aB) (h:bV w) (K:KW) :
  CR m (.i w.c.n) (.i w.c.life) (.i w.c.next) (.l (rJ w.c.jobs)) (.l (rC w.c.log)) (.i w.c.sure) (.l (rS w.av)) (.l (rW w.net)) (.l (rW w.outs)) (.l (rB w.begun)) K=kW K (Eu w):=by
 obtain ⟨m,rfl⟩:=aV m
 have hd:bV (Eu w):=J7 (I:=bV) (fun _ h hn=>Bz h hn) 2000 w h
 simp only [CR,T.ah,wL]
 rw [R8 (by omega) w h.pw]
 unfold kW
 simp only [T.ah]
 rw [RV (by omega) w h.cw,h.world]
 simp only [T.aI,cond_true]
 rw [Y2 (I:=bV) (fun _ h=>h.rw) (fun _ h hn=>Bz h hn) (by omega) w h]
 unfold kW
 simp only [T.ah]
 rw [R8 (by omega) (Eu w) hd.pw]
 unfold kW
 simp only [T.ah]
theorem UA {m:Nat} (hm:30000000<=m) (b:List (List T)) (K:T->An):yH m (.l b) K=K (.b true):=by
 obtain ⟨m,rfl⟩:=aV m
 have hbig : ∀ K,Iu m (.l b) K=K (.b (decide ((b.length:Int) > 1048576))):=by
  intro K
  obtain ⟨q,rfl⟩ : ∃ q,m=q+1:=⟨m-1,by omega⟩
  simp only [Iu,T.ah]
 simp only [yH,T.ah,wL]
 rw [hbig]
 simp only [T.aI]
 by_cases hb:(b.length:Int) > 1048576
 ·rw [decide_eq_true hb]; rfl
 ·rw [decide_eq_false hb,cond_false]
  obtain ⟨w,h,hw⟩:=Us (m:=m) (by omega) b (by omega)
  have hd:bV (Eu w):=J7 (I:=bV) (fun _ h hn=>Bz h hn) 2000 w h
  have hnl:=h.xq
  have hne:(Eu w).net=[]:=drain_empty 2000 w (by have:=adU w.net; omega)
  have hsl:(Eu w).av.length=w.av.length:=XC 2000 w h
  rw [hw]
  unfold kW
  simp only [T.ah]
  rw [abw (by omega) w h]
  unfold kW
  generalize Eu w=d at hd hne hsl
  have hp:=hd.pw
  have hp1:=hp.shl
  simp only [T.ah]
  refine (PU m _ _ _ _ _ _ _ _ _ _ _ _ _ _ _ _ _ _ _ d.av [] 0 (fun s hs=>(hp.sh s hs).held) (by omega) (by simpa using hp1) m (by omega) _).trans ?_
  simp only [T.ah,T.aj,Nat.zero_add,List.nil_append]
  rw [ay (by rw [fE,hne]; rfl),ay (by rw [qA,qA,hsl]; simp),adL (by omega) d hd.cw hd.nsl,hd.safe]
  simp only [T.aj]
  rw [ay (by rfl),XB (by omega) d hp]
  simp only [T.aj]
  rw [ay (by unfold aad; simp; omega),XB (by omega) d hp,adT (by omega) d hp]
  simp
end Go.Proofs.YtpchnmbcbcfhjaaGreat

