/- A part of the proof: texts QK1, QK2, QK3, QK4, QK5, QK6, QK7, QK8, QK9, QKA, QKB, QKC, QKD, QKE: see the last part's opening words. -/
import Derived.Test.YtpchnmbcbcfhjaaGreatA
set_option linter.unusedVariables false
set_option linter.unusedSimpArgs false
set_option linter.unnecessarySimpa false
namespace Go.Proofs.YtpchnmbcbcfhjaaGreat
open Go Go.E Go.Proofs
def ZM (k:ByteArray):List bT->Option Nat
 | []=>none
 | p::l=>if keq p.key k then some 0 else (ZM k l).map (· + 1)
theorem abM {k:ByteArray} : ∀ {l:List bT} {j:Nat},ZM k l=some j->j<l.length
 | [],j,h=>by cases h
 | p::l,j,h=>by
  unfold ZM at h
  split at h
  ·cases h; simp
  ·cases h2:ZM k l with
   | none=>rw [h2] at h; cases h
   | some i=>rw [h2] at h; cases h; have:=abM h2; simp; omega
theorem ZN (k:ByteArray) : ∀ l:List bT,uP k l=(match ZM k l with | some j=>((l.getD j default).val,true) | none=>(emp,false))
 | []=>rfl
 | p::l=>by
  unfold uP ZM
  cases hk:keq p.key k with
  | true=>rfl
  | false =>
   simp only [Bool.false_eq_true,if_false]
   rw [ZN k l]
   cases ZM k l <;> rfl
theorem adJ (k v:ByteArray) : ∀ l:List bT,bK k v l=(ZM k l).map fun j=>l.set j ⟨(l.getD j default).key,v⟩
 | []=>rfl
 | p::l=>by
  unfold bK ZM
  cases hk:keq p.key k with
  | true=>rfl
  | false =>
   simp only [Bool.false_eq_true,if_false]
   rw [adJ k v l]
   cases ZM k l <;> rfl
theorem ZO (m:Nat) (hm:1<=m) (k:ByteArray) : ∀ (post pre:List bT),pre.length+post.length<=1048576->∀ n,post.length<n->∀ k0 k1,
  bB m n (.l (rP (pre++post))) (.l [[.s k]]) (.i ((pre++post).length:Nat)) (.i pre.length) k0 k1=(match ZM k post with | some j=>k0 (.i ((pre.length+j:Nat):Int)) | none=>k1)
 | [],pre,hs,n,hn,k0,k1=>by
  obtain ⟨n,rfl⟩:=aS n
  simp only [bB,T.aj,T.ah,aG,aQ,aT]
  rw [jX]
  rfl
 | x::post,pre,hs,n,hn,k0,k1=>by
  obtain ⟨n,rfl⟩:=aS n
  obtain ⟨m,rfl⟩:=aS m
  simp only [List.length_cons] at hs hn
  have ih:=ZO (m+1) hm k post (pre++[x]) (by simp; omega) n (by omega) k0 k1
  rw [aF,List.append_assoc,List.singleton_append] at ih
  have r1:bJ (.l [[T.s k]])=[T.s k]:=rfl
  simp only [bB,Cn,T.aj,T.ah,ixP,bE pre (by omega),r1,List.getD_cons_zero,T.aI,p0,T.lJ,aG,aQ,aT]
  rw [bD,bD]
  unfold ZM
  cases h:keq x.key k with
  | true=>rw [av (show (x.key.toList==k.toList)=true from h)]; rfl
  | false =>
   rw [aC (show (x.key.toList==k.toList)=false from h)]
   refine Eq.trans ih ?_
   simp only [Bool.false_eq_true,if_false]
   cases ZM k post with
   | none=>rfl
   | some j=>simp only [Option.map_some]; congr 3; simp; omega
def pI (k:ByteArray) (l:List bT):Int:=match ZM k l with | some j=>(j:Int) | none=>-1
theorem Sd {m:Nat} (hm:1048600<=m) (l:List bT) (k:ByteArray) (hl:l.length<=1048576) (K:T->An):xC m (.l (rP l)) (.s k) K=K (.i (pI k l)):=by
 obtain ⟨m,rfl⟩:=aS m
 obtain ⟨m,rfl⟩:=aS m
 have r2:bJ (.l [[T.s k]])=[T.s k]:=rfl
 simp only [xC,eP,r2,T.ah,uw,wL]
 refine (ZO m (by omega) k l [] (by simp; omega) m (by omega) _ _).trans ?_
 unfold pI
 cases ZM k l <;> simp
theorem ahW (l:List bT) {j:Nat} (h:j<l.length):(rP l).getD j []=(l.getD j default).r:=by simp [List.getD,h]
theorem ajx {m:Nat} (hm:1048610<=m) (l:List bT) (k:ByteArray) (hl:l.length<=1048576) (K:T->T->An):Bv m (.l (rP l)) (.s k) K=K (.s (uP k l).1) (.b (uP k l).2):=by
 obtain ⟨m,rfl⟩:=aS m
 simp only [Bv,T.ah,uM,aQ,wL]
 rw [Sd (by omega) l k hl,ZN]
 unfold pI
 cases h:ZM k l with
 | none=>rfl
 | some j =>
  have hj:=abM h
  simp only [T.aj]
  rw [jX,bD,show Int.toNat (j:Int)=j from rfl,ahW l hj]
  rfl
theorem Gb (m:Nat) (hm:1048620<=m) (mp:List bT) (hp:mp.length<=1048576) : ∀ (post pre:List eT),pre.length+post.length<=1048576->∀ n,post.length<n->∀ k0 k1,
  lG m n (.l (rP mp)) (.l (rO (pre++post))) (.i ((pre++post).length:Nat)) (.i pre.length) k0 k1=cond (lS mp post) k1 (k0 (.b false))
 | [],pre,hs,n,hn,k0,k1=>by
  obtain ⟨n,rfl⟩:=aS n
  simp only [lG,T.aj,T.ah,aG,aQ,wL,aT]
  rw [jX]
  rfl
 | x::post,pre,hs,n,hn,k0,k1=>by
  obtain ⟨n,rfl⟩:=aS n
  simp only [List.length_cons] at hs hn
  have ih:=Gb m hm mp hp post (pre++[x]) (by simp; omega) n (by omega) k0 k1
  rw [aF,List.append_assoc,List.singleton_append] at ih
  simp only [lG,T.aj,T.ah,XM,bE pre (by omega),o0,o1,o2,T.lJ,aG,aQ,wL,aT]
  rw [bD,bD]
  have e:lS mp (x::post)=(Zt mp x&&lS mp post):=rfl
  rw [e]
  unfold Zt
  by_cases h3:x.kind=3
  ·rw [aC (by simp [h3]),ajx (by omega) mp x.key hp]
   simp only [T.aI,T.lJ,h3,bne_self_eq_false,Bool.false_or]
   rw [show (⟨#[]⟩:ByteArray)=emp from rfl]
   cases h1:((uP x.key mp).2 == !(x.val.toList==emp.toList)) with
   | false=>rw [aC (by rfl)]; rfl
   | true =>
    rw [av (by rfl)]
    cases h2:((uP x.key mp).1.toList==x.val.toList) with
    | false=>rw [av (by rfl)]; rfl
    | true=>rw [aC (by rfl)]; exact ih
  ·rw [av (by simp [h3]),ih]
   have:(x.kind != 3)=true:=by simp [h3]
   rw [this]; rfl
theorem Vm {m:Nat} (hm:1048630<=m) (mp:List bT) (l:List eT) (hp:mp.length<=1048576) (hl:l.length<=1048576) (K:T->An):zT m (.l (rP mp)) (.l (rO l)) K=K (.b (lS mp l)):=by
 obtain ⟨m,rfl⟩:=aS m
 simp only [zT,T.ah,lH,wL]
 refine (Gb m (by omega) mp hp l [] (by simp; omega) m (by omega) _ _).trans ?_
 cases lS mp l <;> rfl
theorem KT (m:Nat) (k v:ByteArray) : ∀ (post pre:List bT),pre.length+post.length<=4611686018427387->∀ n,post.length<n->∀ k0,
  mo m n (.s k) (.s v) (.i pre.length) (.l (rP (pre++post))) k0=k0 (.s k) (.s v) (.i ((pre.length+Da k post:Nat):Int)) (.l (rP (pre++post)))
 | [],pre,hs,n,hn,k0=>by
  obtain ⟨n,rfl⟩:=aS n
  simp only [mo,T.aj,T.ah,Da,aG,aQ,wL,aT]
  rw [aC (by simp)]
  rfl
 | x::post,pre,hs,n,hn,k0=>by
  obtain ⟨n,rfl⟩:=aS n
  simp only [List.length_cons] at hs hn
  have ih:=KT m k v post (pre++[x]) (by simp; omega) n (by omega) k0
  rw [aF,List.append_assoc,List.singleton_append] at ih
  simp only [mo,T.aj,T.ah,ixP,bE pre (by omega),Da,p0,T.lJ,aG,aQ,wL,aT]
  rw [av (by simp <;> omega),bD,bD]
  cases hk:kle x.key k with
  | true =>
   rw [av (show (Op.bytesLess x.key.toList k.toList||(x.key.toList==k.toList))=true from hk)]
   refine ih.trans ?_
   have e:(pre++[x]).length+Da k post=pre.length+(Da k post+1):=by simp; omega
   rw [if_pos rfl,e]
  | false =>
   rw [aC (show (Op.bytesLess x.key.toList k.toList||(x.key.toList==k.toList))=false from hk)]
   rfl
theorem ajy {m:Nat} (hm:1048610<=m) (l:List bT) (k v:ByteArray) (hl:l.length<=1048576) (K:T->An):Bw m (.l (rP l)) (.s k) (.s v) K=K (.l (rP (abC l k v))):=by
 obtain ⟨m,rfl⟩:=aS m
 simp only [Bw,T.ah,aQ,wL]
 rw [Sd (by omega) l k hl]
 unfold abC
 rw [adJ]
 unfold pI
 cases h:ZM k l with
 | none =>
  simp only [T.aj,Option.map_none]
  rw [jX]
  refine (KT m k v l [] (by simp; omega) m (by omega) _).trans ?_
  have hc:=OL k l
  obtain ⟨m,rfl⟩:=aS m
  simp only [gy,T.ah,T.aj,List.nil_append,List.length_nil,Nat.zero_add,show Int.toNat (Da k l:Int)=Da k l from rfl]
  rw [av (by simp [ak]; omega)]
  simp [rP,List.map_take,List.map_drop,bT.r]
 | some j =>
  have hj:=abM h
  simp only [T.aj,Option.map_some]
  rw [bD,bD,show Int.toNat (j:Int)=j from rfl,aK (by simpa using hj),ahW l hj]
  congr 2
  simp [rP,List.map_set,bT.r]
theorem ajz {m:Nat} (hm:1<=m) (l:List bT) (k:ByteArray) (hl:l.length<=1048576) (K:T->An):Bd m (.l (rP l)) (.s k) K=K (.l (rP (Zw l k))):=by
 obtain ⟨m,rfl⟩:=aS m
 simp only [Bd,T.ah]
 rw [aK (by rw [uw]; unfold ak; omega)]
 congr 2
 unfold Bb Zw rP
 rw [List.filter_map]
 rfl
theorem Gc (m:Nat) (hm:1048620<=m) : ∀ (post pre:List eT) (acc:List bT),pre.length+post.length<=1048576->acc.length+post.length<=1048576->∀ n,post.length<n->∀ k0,
  iZ m n (.l (rO (pre++post))) (.i ((pre++post).length:Nat)) (.i pre.length) (.l (rP acc)) k0=k0 (.l (rP (sH acc post)))
 | [],pre,acc,hs,ha,n,hn,k0=>by
  obtain ⟨n,rfl⟩:=aS n
  simp only [iZ,T.aj,T.ah,aG,aQ,wL,aT]
  rw [jX]
  rfl
 | x::post,pre,acc,hs,ha,n,hn,k0=>by
  obtain ⟨n,rfl⟩:=aS n
  simp only [List.length_cons] at hs hn ha
  have h1:=RO acc x
  have ih:=Gc m hm post (pre++[x]) (app1 acc x) (by simp; omega) (by omega) n (by omega) k0
  rw [aF,List.append_assoc,List.singleton_append] at ih
  simp only [iZ,T.aj,T.ah,XM,bE pre (by omega),o0,o1,o2,aG,aQ,wL,aT]
  rw [bD,bD,ajy (by omega) acc x.key x.val (by omega),ajz (by omega) acc x.key (by omega)]
  simp only [T.ah]
  show _=k0 (.l (rP (sH (app1 acc x) post)))
  rw [<-ih]
  unfold app1
  by_cases h1:x.kind=1
  ·rw [av (by simp [h1]),if_pos h1]
  ·rw [aC (by simp [h1]),if_neg h1]
   by_cases h2:x.kind=2
   ·rw [av (by simp [h2]),if_pos h2]
   ·rw [aC (by simp [h2]),if_neg h2]
theorem Vn {m:Nat} (hm:1048630<=m) (mp:List bT) (l:List eT) (hs:mp.length+l.length<=1048576) (K:T->An):vZ m (.l (rP mp)) (.l (rO l)) K=K (.l (rP (sH mp l))):=by
 obtain ⟨m,rfl⟩:=aS m
 simp only [vZ,T.ah,lH,wL]
 obtain ⟨q,rfl⟩ : ∃ q,m=q+1:=⟨m-1,by omega⟩
 rw [show ∀ k,bM (q+1) (.l (rP mp)) k=k (.l (rP mp)) from fun k=>by
  simp only [bM,T.ah,wL]
  rw [aK (by rw [uw]; unfold ak; omega)]]
 exact (Gc (q+1) (by omega) l [] mp (by simp; omega) (by omega) (q+1) (by omega) _).trans rfl
end Go.Proofs.YtpchnmbcbcfhjaaGreat

namespace Go.Proofs.YtpchnmbcbcfhjaaGreat
open Go Go.E Go.Proofs
def qP (tx:Int) (l:List bq):Nat->Option Nat
 | 0=>none
 | i+1=>if (l.getD i default).tx=tx then some i else qP tx l i
theorem XA (l:List bq) {j:Nat} (h:j<l.length):(rR l).getD j []=(l.getD j default).r:=by simp [List.getD,h]
theorem Sg (m:Nat) (tx:Int) (l:List bq) (hl:l.length<=1048576) : ∀ (i n:Nat),i<=l.length->i<n->∀ k0 k1,
  nH m n (.l (rR l)) (.i tx) (.i ((i:Int)-1)) k0 k1=match qP tx l i with | some j=>k0 (.i (j:Int)) | none=>k1
 | 0,n,hi,hn,k0,k1=>by
  obtain ⟨n,rfl⟩:=aS n
  simp only [nH,T.aj,T.ah,qP,uM,aQ]
  rw [jX]
 | i+1,n,hi,hn,k0,k1=>by
  obtain ⟨n,rfl⟩:=aS n
  have ih:=Sg m tx l hl i n (by omega) (by omega) k0 k1
  have e:(((i+1:Nat):Int)-1)=(i:Int):=by omega
  have hw:IntKind.i64.wrap ((i:Int)-1)=(i:Int)-1:=by rw [IntKind.wrap_i64]; omega
  rw [e]
  simp only [nH,T.aj,T.ah,qP,uM,aQ]
  rw [bD,bD,show Int.toNat (i:Int)=i from rfl,XA l (by omega),hw,rd1,ih]
  by_cases h:(l.getD i default).tx=tx
  ·rw [av (by simpa using h),if_pos h]
  ·rw [aC (by simpa using h),if_neg h]
def Om (tx:Int) (l:List bq):Int:=match qP tx l l.length with | some j=>(j:Int) | none=>-1
theorem Di {m:Nat} (hm:1048590<=m) (l:List bq) (tx:Int) (hl:l.length<=1048576) (K:T->An):o9 m (.l (rR l)) (.i tx) K=K (.i (Om tx l)):=by
 obtain ⟨m,rfl⟩:=aS m
 have hw:IntKind.i64.wrap ((l.length:Int)-1)=(l.length:Int)-1:=by rw [IntKind.wrap_i64]; omega
 simp only [o9,T.ah,eU,hw,wL]
 refine (Sg m tx l hl l.length m (Nat.le_refl _) (by omega) _ _).trans ?_
 unfold Om
 cases qP tx l l.length <;> rfl
theorem wz {tx:Int} {l:List bq} : ∀ {i j:Nat},qP tx l i=some j->j<i/\(l.getD j default).tx=tx
 | 0,j,h=>by cases h
 | i+1,j,h=>by
  unfold qP at h
  split at h
  ·cases h; exact ⟨Nat.lt_succ_self _,by assumption⟩
  ·have:=wz h; exact ⟨by omega,this.2⟩
theorem Si {tx:Int} {l:List bq} : ∀ {i:Nat},qP tx l i=none->∀ j,j<i->(l.getD j default).tx≠tx
 | 0,h,j,hj=>absurd hj (Nat.not_lt_zero _)
 | i+1,h,j,hj=>by
  unfold qP at h
  split at h
  ·cases h
  ·rename_i hne
   by_cases e:j=i
   ·subst e; exact hne
   ·exact Si h j (by omega)
theorem ze {l:List bq} {j:Nat} (h:j<l.length):l.getD j default∈l:=by simp [List.getD,h]
theorem Sj {tx:Int} {l:List bq} : qP tx l l.length=none ↔ ∀ r∈l,r.tx≠tx:=by
 constructor
 ·intro h r hr
  obtain ⟨j,hj,rfl⟩:=List.getElem_of_mem hr
  have:=Si h j hj
  simpa [List.getD,hj] using this
 ·intro h
  cases h2:qP tx l l.length with
  | none=>rfl
  | some j =>
   obtain ⟨h3,h4⟩:=wz h2
   exact absurd h4 (h _ (ze h3))
theorem XB {tx:Int} {l:List bq} (hd:l.Pairwise fun a b=>a.tx≠b.tx):qP tx l l.length=pU tx l:=by
 cases h2:qP tx l l.length with
 | none=>exact (Dh.2 (Sj.1 h2)).symm
 | some j =>
  obtain ⟨h3,h4⟩:=wz h2
  cases h5:pU tx l with
  | none=>exact absurd h4 (Dh.1 h5 _ (ze h3))
  | some i =>
   have h6:=vE h5
   have h7:=Dc h5
   congr 1
   rw [List.pairwise_iff_getElem] at hd
   rcases Nat.lt_trichotomy i j with h | h | h
   ·exact absurd (by simpa [List.getD,h3,h6] using h7.trans h4.symm) (hd i j h6 h3 h)
   ·exact h.symm
   ·exact absurd (by simpa [List.getD,h3,h6] using h4.trans h7.symm) (hd j i h3 h6 h)
theorem ahX (a b:ByteArray):keq a b=keq b a:=by
 unfold keq
 rw [Bool.eq_iff_iff]
 simp only [beq_iff_eq]
 exact ⟨Eq.symm,Eq.symm⟩
theorem ahY (m:Nat) (x2 x3 x4 x5 x6 x7 bC dO x0:T) (o:eT) : ∀ (post pre:List eT) (x1:Nat),pre.length+post.length<=1048576->∀ n,post.length<n->∀ k0 k1,
  iP m n x0 (.i (x1:Int)) x2 x3 x4 x5 x6 x7 (.l (rO (pre++post))) (.i ((pre++post).length:Nat)) (.i pre.length) bC (.s o.key) dO k0 k1=cond (KJ post o) (k0 (.b true)) (k1 x0 x2 x3 x4 x5 x6 x7)
 | [],pre,x1,hs,n,hn,k0,k1=>by
  obtain ⟨n,rfl⟩:=aS n
  simp only [iP,T.aj,T.ah,aG,aQ,aT]
  rw [jX]
  rfl
 | x::post,pre,x1,hs,n,hn,k0,k1=>by
  obtain ⟨n,rfl⟩:=aS n
  simp only [List.length_cons] at hs hn
  have ih:=ahY m x2 x3 x4 x5 x6 x7 bC dO x0 o post (pre++[x]) x1 (by simp; omega) n (by omega) k0 k1
  rw [aF,List.append_assoc,List.singleton_append] at ih
  have hx:(x1:Int).toNat=x1:=rfl
  simp only [iP,T.aj,T.ah,XM,bE pre (by omega),o1,T.lJ,hx,aG,aQ,aT]
  rw [bD,bD]
  show _=cond (keq o.key x.key||KJ post o) _ _
  rw [ahX]
  cases h:keq x.key o.key with
  | true=>rw [av (show (x.key.toList==o.key.toList)=true from h)]; rfl
  | false=>rw [aC (show (x.key.toList==o.key.toList)=false from h),ih]; rfl
theorem ahZ (m:Nat) (x1 x2 x3:T) (ops:List eT) (h3:ops.length<=1048576) : ∀ (oq op:List eT),op.length+oq.length<=1048576->∀ n,oq.length+ops.length+1<n->∀ k0 k1,
  iQ m n (.l (rO ops)) x1 x2 x3 (.l (rO (op++oq))) (.i ((op++oq).length:Nat)) (.i op.length) k0 k1=cond (oq.any (KJ ops)) (k0 (.b true)) (k1 (.l (rO ops)) x1 x2 x3)
 | [],op,hs,n,hn,k0,k1=>by
  obtain ⟨n,rfl⟩:=aS n
  simp only [iQ,T.aj,T.ah,aG,aQ,aT]
  rw [jX]
  rfl
 | o::oq,op,hs,n,hn,k0,k1=>by
  obtain ⟨n,rfl⟩:=aS n
  simp only [List.length_cons] at hn hs
  have ih:=ahZ m x1 x2 x3 ops h3 oq (op++[o]) (by simp; omega) n (by omega) k0 k1
  rw [aF,List.append_assoc,List.singleton_append] at ih
  simp only [iQ,T.aj,T.ah,XM,o0,o1,o2,lH,aG,aQ,aT]
  rw [bD,bD]
  have l2:=ahY m x1 x2 x3 (.l (rO (op++o::oq))) (.i ((op++o::oq).length:Nat)) (.i op.length) (.i o.kind) (.s o.val) (.l (rO ops)) o ops [] 0 (by simpa using h3) n (by omega) k0
  simp only [List.nil_append,List.length_nil,Int.natCast_zero] at l2
  refine (l2 _).trans ?_
  simp only [T.aj,bE op (by omega),List.any_cons]
  rw [ih]
  cases KJ ops o <;> rfl
theorem ah0 (m:Nat) (ops:List eT) (h3:ops.length<=1048576) : ∀ (hq hp:List bq),(∀ r∈hq,r.ops.length<=1048576)->hp.length+hq.length<=1048576->∀ n,hq.length+ops.length+1048580<n->∀ k0 k1,
  iR m n (.l (rO ops)) (.l (rR (hp++hq))) (.i ((hp++hq).length:Nat)) (.i hp.length) k0 k1=cond (iH hq ops) (k0 (.b true)) k1
 | [],hp,ho,hs,n,hn,k0,k1=>by
  obtain ⟨n,rfl⟩:=aS n
  simp only [iR,T.aj,T.ah,aG,aQ,aT]
  rw [jX]
  rfl
 | r::hq,hp,ho,hs,n,hn,k0,k1=>by
  obtain ⟨n,rfl⟩:=aS n
  simp only [List.length_cons] at hn hs
  have hr:=ho r (by simp)
  have ih:=ah0 m ops h3 hq (hp++[r]) (fun q hq=>ho q (by simp [hq])) (by simp; omega) n (by omega) k0 k1
  rw [aF,List.append_assoc,List.singleton_append] at ih
  simp only [iR,T.aj,T.ah,T9,r2,lH,aG,aQ,aT]
  rw [bD,bD]
  have l1:=ahZ m (.l (rR (hp++r::hq))) (.i ((hp++r::hq).length:Nat)) (.i hp.length) ops h3 r.ops [] (by simpa using hr) n (by omega) k0
  simp only [List.nil_append,List.length_nil,Int.natCast_zero] at l1
  refine (l1 _).trans ?_
  simp only [T.aj,bE hp (by omega)]
  show cond (RQ ops r) _ _=cond (RQ ops r||iH hq ops) _ _
  rw [ih]
  cases RQ ops r <;> rfl
theorem Ni {m:Nat} (hm:3200000<=m) (held:List bq) (ops:List eT) (h1:held.length<=1048576) (h2 : ∀ r∈held,r.ops.length<=1048576) (h3:ops.length<=1048576) (K:T->An) :
  qL m (.l (rR held)) (.l (rO ops)) K=K (.b (iH held ops)):=by
 obtain ⟨m,rfl⟩:=aS m
 simp only [qL,T.ah,eU,wL]
 refine (ah0 m ops h3 held [] h2 (by simpa using h1) m (by omega) _ _).trans ?_
 cases iH held ops <;> rfl
theorem aeU {m:Nat} (hm:1048620<=m) (r:bq) (h:I9 r) (K:T->An):Ej m (.i r.kind) (.i r.tx) (.l (rO r.ops)) K=K (.b (kD r)):=by
 obtain ⟨m,rfl⟩:=aS m
 have e0:(((rO r.ops).length:Int)==0)=(r.ops.length==0):=by rw [lH]; cases r.ops <;> simp <;> omega
 have ah1 : ∀ k,mh m (.i r.tx) k=k (.b (decide (1<=r.tx/\r.tx<=1000000))):=fun k=>by
  obtain ⟨q,rfl⟩ : ∃ q,m=q+1:=⟨m-1,by omega⟩
  simp only [mh]
  exact fK (by omega) _ _ _ _
 simp only [Ej,T.ah,T.aj,ah1,T.aI,e0,wL]
 unfold kD
 by_cases k1:r.kind=1
 ·rw [av (by simp [k1]),if_pos k1,wm (by omega) r.ops h.ops]
  cases decide (1<=r.tx/\r.tx<=1000000) <;> rfl
 ·rw [aC (by simp [k1]),if_neg k1]
  by_cases k2:r.kind=2
  ·rw [av (by simp [k2]),if_pos (.inl k2)]
   cases decide (1<=r.tx/\r.tx<=1000000) <;> rfl
  ·rw [aC (by simp [k2])]
   by_cases k3:r.kind=3
   ·rw [av (by simp [k3]),if_pos (.inr k3)]
    cases decide (1<=r.tx/\r.tx<=1000000) <;> rfl
   ·rw [aC (by simp [k3]),if_neg (by simp [k2,k3])]
    cases decide (1<=r.tx/\r.tx<=1000000) <;> rfl
end Go.Proofs.YtpchnmbcbcfhjaaGreat

namespace Go.Proofs.YtpchnmbcbcfhjaaGreat
open Go Go.E Go.Proofs
theorem qQ {m:Nat} (hm:1<=m) (l:List eT) (h:l.length<=1048576) (K:T->An):aL m (.l (rO l)) K=K (.l (rO l)):=by
 obtain ⟨m,rfl⟩:=aS m
 simp only [aL,T.ah,wL]
 rw [aK (by rw [lH]; unfold ak; omega)]
theorem XC {m:Nat} (hm:1<=m) (l:List bq) (j:Nat) (hj:j<l.length) (K:T->An):aX m (.l (rR l)) (.i j) (.i ((j:Int)+1)) K=K (.l (rR (l.take j++l.drop (j+1)))):=by
 obtain ⟨m,rfl⟩:=aS m
 simp only [aX,T.ah,T.aj,eU]
 rw [bD,show Int.toNat (j:Int)=j from rfl,show Int.toNat ((j:Int)+1)=j+1 from rfl]
 simp [rR,List.map_take,List.map_drop]
theorem ah2 {pre:List bq} {s:St} (hI:RInv pre s) (tx:Int):decide (Om tx pre>=0)=decide (tx∈s.seen):=by
 apply decide_eq_decide.2
 rw [hI.seen]
 unfold Om
 cases h:qP tx pre pre.length with
 | none =>
  have:=Sj.1 h
  constructor
  ·intro h; simp at h
  ·rintro ⟨r,h1,h2⟩; exact absurd h2 (this r h1)
 | some j =>
  obtain ⟨h3,h4⟩:=wz h
  exact ⟨fun _=>⟨_,ze h3,h4⟩,fun _=>by simp⟩
theorem ajA {m:Nat} (hm:3200010<=m) {pre:List bq} {s:St} (hI:RInv pre s) (hs:BSt s) (hp:pre.length<=1048576) {r:bq} (hr:I9 r) (hok:kD r=true) (J:Bool->List (List T)->List (List T)->An) (k0:T->T->T->An) (k1:T->T->T->T->An)
  (h0 : ∀ b p q,k0 (.b b) (.l p) (.l q)=J b p q) (h1 : ∀ b z p q,k1 (.b b) z (.l p) (.l q)=J b p q) :
  tu m (.l (rP s.map)) (.l (rR s.held)) (.i r.kind) (.i r.tx) (.l (rO r.ops)) (.l (rR pre)) k0 k1=J (kE s r).1 (rP (kE s r).2.map) (rR (kE s r).2.held):=by
 obtain ⟨m,rfl⟩:=aS m
 have hm1:=hs.map
 have hh1:=hs.held.1
 have hw : ∀ j:Nat,j<=400000->IntKind.i64.wrap ((j:Int)+1)=(j:Int)+1:=fun j hj=>by rw [IntKind.wrap_i64]; omega
 simp only [tu,T.ah,T.aj,aG,aQ,wL,aT]
 rw [Di (by omega) pre r.tx hp]
 simp only [T.aj,ah2 hI]
 unfold kE
 rw [if_neg (by rw [hok]; decide)]
 by_cases k1':r.kind=1
 ·rw [av (by simp [k1']),if_pos k1',Ni (by omega) s.held r.ops (by omega) (fun q hq=>by have:=(hs.held.2 q hq).1; omega) (by have:=hr.1; omega),Vm (by omega) s.map r.ops (by omega) (by have:=hr.1; omega),qQ (by omega) r.ops (by have:=hr.1; omega)]
  simp only [T.aI,T.ah]
  rw [aK (by rw [eU]; unfold ak; omega)]
  have e:(rR s.held++[[T.i 1,T.i r.tx,T.l (rO r.ops)]])=rR (s.held++[r]):=by simp [rR,bq.r,k1']
  rw [e]
  cases decide (r.tx∈s.seen) with
  | true=>simp only [Bool.true_or,if_true]; rw [aC (by decide),h0]
  | false =>
   rw [av (by decide)]
   cases iH s.held r.ops with
   | true=>simp only [Bool.or_true,Bool.true_or,if_true]; rw [aC (by decide),h0]
   | false =>
    rw [av (by decide)]
    cases lS s.map r.ops with
    | false=>rw [av (by decide),h0]; rfl
    | true=>rw [aC (by decide),h0]; rfl
 ·rw [aC (by simp [k1']),if_neg k1',Di (by omega) s.held r.tx (by omega)]
  unfold Om
  rw [XB hI.dist]
  cases hf:pU r.tx s.held with
  | none =>
   simp only [T.aj]
   rw [bD]
   by_cases k3:r.kind=3
   ·rw [av (by simp [k3]),h0]; simp [k3]
   ·rw [aC (by simp [k3]),h0]; rw [show (r.kind==3)=false by simp [k3]]; rfl
  | some j =>
   have hj:=vE hf
   have hops:(s.held.getD j default).ops.length<=400000:=(hs.held.2 _ (ze hj)).1
   simp only [T.aj,hw j (by omega),eU]
   rw [jX,XC (by omega) s.held j hj,show Int.toNat (j:Int)=j from rfl,XA s.held hj]
   simp only [r2,T.ah]
   rw [Vn (by omega) s.map (s.held.getD j default).ops (by omega)]
   simp only [T.ah,XC (by omega:1<=m) s.held j hj]
   by_cases k2:r.kind=2
   ·rw [av (by simp [k2]),bD,aK hj,h1,if_pos k2,uw,ajn]
   ·rw [aC (by simp [k2]),h0,if_neg k2,uw,ajn]
theorem EM (m:Nat) (hm:3200010<=m) : ∀ (post pre:List bq) (k:Nat) (s:St),RInv pre s->GSt k s->k+post.length<=20000->(∀ r∈post,I9 r)->pre.length+post.length<=1048576->∀ n,post.length<n->∀ k0 k1,
  fI m n (.l (rR (pre++post))) (.i 0) (.l (rR (pre++post))) (.i ((pre++post).length:Nat)) (.i pre.length) (.l (rP s.map)) (.l (rR s.held)) k0 k1=match eu s post with
   | none=>k0 (.b false) (.l []) (.l [])
   | some s'=>k1 (.i 0) (.l (rP s'.map)) (.l (rR s'.held))
 | [],pre,k,s,hI,hg,hk,hr,hs,n,hn,k0,k1=>by
  obtain ⟨n,rfl⟩:=aS n
  simp only [fI,T.aj,T.ah,eu,aG,aQ,wL,aT]
  rw [jX]
  rfl
 | x::post,pre,k,s,hI,hg,hk,hr,hs,n,hn,k0,k1=>by
  obtain ⟨n,rfl⟩:=aS n
  simp only [List.length_cons] at hs hn hk
  have hx:=hr x (by simp)
  simp only [fI,T.aj,T.ah,T9,bE pre (by omega),r0,r1,r2,eU,aG,aQ,wL,aT]
  rw [bD,bD,aeU (by omega) x hx]
  simp only [T.aI]
  have htk:(rR (pre++x::post)).take (Int.toNat (pre.length:Int))=rR pre:=by
   rw [show Int.toNat (pre.length:Int)=pre.length from rfl]
   simp [rR]
  unfold eu
  cases hok:kD x with
  | false =>
   have:(kE s x).1=false:=by unfold kE; rw [if_pos hok]
   rw [this,aC (by decide)]; rfl
  | true =>
   rw [av (by decide),bD,bD,htk]
   refine (ajA (by omega) hI (hg.b (by omega)) (by omega) hx hok (fun b p q=>cond (!b) (k0 (.b false) (.l []) (.l [])) (fI m n (.l (rR (pre++x::post))) (T.i (((0:Int).toNat:Nat):Int)) (.l (rR (pre++x::post))) (.i ((pre++x::post).length:Nat)) (T.i ((pre.length:Int)+1)) (T.l p) (T.l q) k0 k1)) _ _ (fun b p q=>rfl) (fun b z p q=>rfl)).trans ?_
   cases h:(kE s x).1 with
   | false=>rfl
   | true =>
    have hI':=hI.step hok (GA h).2
    have ih:=EM m hm post (pre++[x]) (k+1) (kE s x).2 hI' (ahG hg hx.2) (by omega) (fun r h=>hr r (by simp [h])) (by simp; omega) n (by omega) k0 k1
    rw [aF,List.append_assoc,List.singleton_append] at ih
    exact ih
theorem apL:RInv [] st0:=⟨fun x=>by simp [st0],fun h hh=>(nomatch hh),fun r hr=>(nomatch hr),fun r hr=>(nomatch hr),List.Pairwise.nil⟩
theorem Sk {m:Nat} (hm:3200020<=m) (l:List bq) (hl:l.length<=10000) (hr : ∀ r∈l,I9 r) (K:T->T->T->An) :
  pR m (.l (rR l)) K=K (.l (rP (mapOf (cZ l)))) (.l (rR (Et (cZ l)))) (.b (cZ l).isSome):=by
 obtain ⟨m,rfl⟩:=aS m
 simp only [pR,T.ah,eU,wL]
 refine (EM m (by omega) l [] 0 st0 apL ⟨by simp [st0],by simp [st0],by simp [st0],by simp [st0]⟩ (by omega) hr (by simp; omega) m (by omega) _ _).trans ?_
 unfold cZ
 cases eu st0 l <;> rfl
end Go.Proofs.YtpchnmbcbcfhjaaGreat

namespace Go.Proofs.YtpchnmbcbcfhjaaGreat
open Go Go.E Go.Proofs
def Mi {α:Type} (f:α->α->Bool):List α->List α->Bool
 | [],[]=>true
 | x::a,y::b=>f x y&&Mi f a b
 | _,_=>false
def Ah (p q:bT):Bool:=keq p.key q.key&&(keq p.val q.val&&true)
def KU (o q:eT):Bool:=(o.kind==q.kind)&&(keq o.key q.key&&(keq o.val q.val&&true))
def EN (r q:bq):Bool:=(r.kind==q.kind)&&((r.tx==q.tx)&&Mi KU r.ops q.ops)
theorem adK {α:Type} {f:α->α->Bool} : ∀ {a b:List α},Mi f a b=true->a.length=b.length
 | [],[],_=>rfl
 | x::a,y::b,h=>by
  unfold Mi at h
  simp only [Bool.and_eq_true] at h
  simp [adK h.2]
 | [],_::_,h=>by cases h
 | _::_,[],h=>by cases h
theorem Dj {α:Type} {f:α->α->Bool} : ∀ (a:List α),(∀ x∈a,f x x=true)->Mi f a a=true
 | [],_=>rfl
 | x::a,h=>by
  unfold Mi
  rw [h x (by simp),Dj a fun y hy=>h y (by simp [hy])]
  rfl
theorem ZP (a:ByteArray):keq a a=true:=by unfold keq; simp
theorem Mj (o:eT):KU o o=true:=by unfold KU; simp [ZP]
theorem ZQ (o:bT):Ah o o=true:=by unfold Ah; simp [ZP]
theorem abN (r:bq):EN r r=true:=by unfold EN; simp [Dj r.ops fun o _=>Mj o]
theorem atc (pre pre':List bT) (x:bT) (post:List bT) (h:pre.length=pre'.length):(rP (pre'++x::post)).getD (Int.toNat (pre.length:Int)) []=x.r:=by rw [h]; exact ixP _ _ _
theorem atd (pre pre':List eT) (x:eT) (post:List eT) (h:pre.length=pre'.length):(rO (pre'++x::post)).getD (Int.toNat (pre.length:Int)) []=x.r:=by rw [h]; exact XM _ _ _
theorem ate (pre pre':List bq) (x:bq) (post:List bq) (h:pre.length=pre'.length):(rR (pre'++x::post)).getD (Int.toNat (pre.length:Int)) []=x.r:=by rw [h]; exact T9 _ _ _
theorem abO {α β:Type} {a:List α} {b:List β} (h:a.length≠b.length):((a.length:Int) != (b.length:Int))=true:=by simp; omega
theorem abP {α β:Type} {a:List α} {b:List β} (h:a.length=b.length):((a.length:Int) != (b.length:Int))=false:=by simp [h]
theorem Vo (m:Nat) : ∀ (post post' pre pre':List bT),pre.length=pre'.length->post.length=post'.length->pre.length+post.length<=1048576->∀ n,post.length<n->∀ k0 k1,
  bL m n (.l (rP (pre++post))) (.l (rP (pre'++post'))) (.i ((pre++post).length:Nat)) (.i pre.length) k0 k1=cond (Mi Ah post post') k1 (k0 (.b false))
 | [],[],pre,pre',h1,h2,hs,n,hn,k0,k1=>by
  obtain ⟨n,rfl⟩:=aS n
  simp only [bL,T.aj,T.ah,aG,aQ,aT]
  rw [jX]
  rfl
 | x::post,y::post',pre,pre',h1,h2,hs,n,hn,k0,k1=>by
  obtain ⟨n,rfl⟩:=aS n
  simp only [List.length_cons] at hs hn h2
  have ih:=Vo m post post' (pre++[x]) (pre'++[y]) (by simp [h1]) (by omega) (by simp; omega) n (by omega) k0 k1
  rw [aF,List.append_assoc,List.singleton_append,List.append_assoc,List.singleton_append] at ih
  simp only [bL,T.aj,T.ah,ixP,atc pre pre' y post' h1,bE pre (by omega),p0,p1,T.lJ,aG,aQ,aT]
  rw [bD,bD,bD,ih]
  show cond (!(Ah x y)) _ _=cond (Ah x y&&Mi Ah post post') _ _
  cases Ah x y <;> rfl
 | [],_::_,_,_,_,h2,_,_,_,_,_=>by simp at h2
 | _::_,[],_,_,_,h2,_,_,_,_,_=>by simp at h2
theorem abQ {α:Type} {f:α->α->Bool} {a b:List α} (h:a.length≠b.length):Mi f a b=false:=by
 cases h2:Mi f a b with
 | false=>rfl
 | true=>exact absurd (adK h2) h
theorem atf {m:Nat} (hm:1048590<=m) (a b:List bT) (ha:a.length<=1048576) (K:T->An):dU m (.l (rP a)) (.l (rP b)) K=K (.b (Mi Ah a b)):=by
 obtain ⟨m,rfl⟩:=aS m
 simp only [dU,T.ah,uw,wL]
 by_cases h:a.length=b.length
 ·rw [aC (abP h)]
  refine (Vo m a b [] [] rfl h (by simpa using ha) m (by omega) _ _).trans ?_
  cases Mi Ah a b <;> rfl
 ·rw [av (abO h),abQ h]
theorem Vp (m:Nat) : ∀ (post post' pre pre':List eT),pre.length=pre'.length->post.length=post'.length->pre.length+post.length<=1048576->∀ n,post.length<n->∀ k0 k1,
  bS m n (.l (rO (pre++post))) (.l (rO (pre'++post'))) (.i ((pre++post).length:Nat)) (.i pre.length) k0 k1=cond (Mi KU post post') k1 (k0 (.b false))
 | [],[],pre,pre',h1,h2,hs,n,hn,k0,k1=>by
  obtain ⟨n,rfl⟩:=aS n
  simp only [bS,T.aj,T.ah,aG,aQ,aT]
  rw [jX]
  rfl
 | x::post,y::post',pre,pre',h1,h2,hs,n,hn,k0,k1=>by
  obtain ⟨n,rfl⟩:=aS n
  simp only [List.length_cons] at hs hn h2
  have ih:=Vp m post post' (pre++[x]) (pre'++[y]) (by simp [h1]) (by omega) (by simp; omega) n (by omega) k0 k1
  rw [aF,List.append_assoc,List.singleton_append,List.append_assoc,List.singleton_append] at ih
  simp only [bS,T.aj,T.ah,XM,atd pre pre' y post' h1,bE pre (by omega),o0,o1,o2,T.lJ,aG,aQ,aT]
  rw [bD,bD,bD,ih]
  show cond (!(KU x y)) _ _=cond (KU x y&&Mi KU post post') _ _
  cases KU x y <;> rfl
 | [],_::_,_,_,_,h2,_,_,_,_,_=>by simp at h2
 | _::_,[],_,_,_,h2,_,_,_,_,_=>by simp at h2
theorem anv {m:Nat} (hm:1048590<=m) (a b:List eT) (ha:a.length<=1048576) (K:T->An):bZ m (.l (rO a)) (.l (rO b)) K=K (.b (Mi KU a b)):=by
 obtain ⟨m,rfl⟩:=aS m
 simp only [bZ,T.ah,lH,wL]
 by_cases h:a.length=b.length
 ·rw [aC (abP h)]
  refine (Vp m a b [] [] rfl h (by simpa using ha) m (by omega) _ _).trans ?_
  cases Mi KU a b <;> rfl
 ·rw [av (abO h),abQ h]
theorem ZR {m:Nat} (hm:1048600<=m) (r q:bq) (h:r.ops.length<=1048576) (K:T->An):yP m (.i r.kind) (.i r.tx) (.l (rO r.ops)) (.i q.kind) (.i q.tx) (.l (rO q.ops)) K=K (.b (EN r q)):=by
 obtain ⟨m,rfl⟩:=aS m
 simp only [yP,T.ah,T.aj,wL]
 rw [anv (by omega) r.ops q.ops h]
 simp only [T.aI]
 unfold EN
 cases h1:r.kind==q.kind with
 | false=>rfl
 | true =>
  cases h2:r.tx==q.tx with
  | false=>rfl
  | true=>rfl
theorem Vq (m:Nat) (hm:1048600<=m) : ∀ (post post' pre pre':List bq),pre.length=pre'.length->post.length=post'.length->pre.length+post.length<=1048576->(∀ r∈post,r.ops.length<=1048576)->∀ n,post.length<n->∀ k0 k1,
  aM m n (.l (rR (pre'++post'))) (.l (rR (pre++post))) (.i ((pre++post).length:Nat)) (.i pre.length) k0 k1=cond (Mi EN post post') k1 (k0 (.b false))
 | [],[],pre,pre',h1,h2,hs,ho,n,hn,k0,k1=>by
  obtain ⟨n,rfl⟩:=aS n
  simp only [aM,T.aj,T.ah,aG,aQ,wL,aT]
  rw [jX]
  rfl
 | x::post,y::post',pre,pre',h1,h2,hs,ho,n,hn,k0,k1=>by
  obtain ⟨n,rfl⟩:=aS n
  simp only [List.length_cons] at hs hn h2
  have ih:=Vq m hm post post' (pre++[x]) (pre'++[y]) (by simp [h1]) (by omega) (by simp; omega) (fun r hr=>ho r (by simp [hr])) n (by omega) k0 k1
  rw [aF,List.append_assoc,List.singleton_append,List.append_assoc,List.singleton_append] at ih
  simp only [aM,T.aj,T.ah,T9,ate pre pre' y post' h1,bE pre (by omega),r0,r1,r2,aG,aQ,wL,aT]
  rw [bD,bD,bD,ZR hm x y (ho x (by simp)),ih]
  simp only [T.aI]
  show cond (!(EN x y)) _ _=cond (EN x y&&Mi EN post post') _ _
  cases EN x y <;> rfl
 | [],_::_,_,_,_,h2,_,_,_,_,_,_=>by simp at h2
 | _::_,[],_,_,_,h2,_,_,_,_,_,_=>by simp at h2
theorem atg {m:Nat} (hm:1048610<=m) (a b:List bq) (ha:a.length<=1048576) (ho : ∀ r∈a,r.ops.length<=1048576) (K:T->An):bI m (.l (rR a)) (.l (rR b)) K=K (.b (Mi EN a b)):=by
 obtain ⟨m,rfl⟩:=aS m
 simp only [bI,T.ah,eU,wL]
 by_cases h:a.length=b.length
 ·rw [aC (abP h)]
  refine (Vq m (by omega) a b [] [] rfl h (by simpa using ha) ho m (by omega) _ _).trans ?_
  cases Mi EN a b <;> rfl
 ·rw [av (abO h),abQ h]
end Go.Proofs.YtpchnmbcbcfhjaaGreat

namespace Go.Proofs.YtpchnmbcbcfhjaaGreat
open Go Go.E Go.Proofs
theorem ah3 : ∀ {l:List bq} {k:Nat} {s s':St},GSt k s->(∀ r∈l,∀ o∈r.ops,BOp o)->eu s l=some s'->GSt (k+l.length) s'
 | [],k,s,s',h,ho,e=>by unfold eu at e; cases e; exact h
 | r::l,k,s,s',h,ho,e=>by
  unfold eu at e
  split at e
  ·have:=ah3 (ahG h (ho r (by simp))) (fun q hq=>ho q (by simp [hq])) e
   rw [List.length_cons]
   exact this.mono (by omega)
  ·cases e
def Ai (s:aH):Bool:=decide (0<=s.id/\s.id<=7)&&(decide (0<=s.sure/\s.sure<=(s.log.length:Int))&&(decide (s.log.length+s.held.length<=300)&&((cZ s.log).isSome&&(Mi Ah (mapOf (cZ s.log)) s.map&&Mi EN (Et (cZ s.log)) s.held))))
structure abR (s:aH):Prop where
 log:s.log.length<=1048576
 held:s.held.length<=1048576
 map:s.map.length<=1048576
 recs : ∀ r∈s.log,I9 r
theorem abS {l:List bq} (hl:l.length<=300) (hr : ∀ r∈l,I9 r):(mapOf (cZ l)).length<=1048576/\(Et (cZ l)).length<=1048576 /\ ∀ r∈Et (cZ l),r.ops.length<=1048576:=by
 cases h:cZ l with
 | none=>exact ⟨by simp [mapOf],by simp [Et],fun r hr=>(nomatch hr)⟩
 | some s =>
  have:=ah3 (k:=0) (s:=st0) ⟨by simp [st0],by simp [st0],by simp [st0],by simp [st0]⟩ (fun r h=>(hr r h).2) h
  refine ⟨by show s.map.length<=_; have:=this.map; omega,by show s.held.length<=_; have:=this.BH; omega,fun r hr=>?_⟩
  have:=(this.held r hr).1
  omega
theorem aeV {m:Nat} (hm:3200100<=m) (s:aH) (h:abR s) (K:T->An):yQ m (.i s.id) (.l (rR s.log)) (.i s.sure) (.l (rP s.map)) (.l (rR s.held)) K=K (.b (Ai s)):=by
 obtain ⟨m,rfl⟩:=aS m
 have hl:=h.log
 have hh:=h.held
 have hw:IntKind.i64.wrap ((s.log.length:Int)+(s.held.length:Int))=(s.log.length:Int)+(s.held.length:Int):=by rw [IntKind.wrap_i64]; omega
 have hid : ∀ k,vY m (.i s.id) k=k (.b (decide (0<=s.id/\s.id<=7))):=fun k=>by
  obtain ⟨q,rfl⟩ : ∃ q,m=q+1:=⟨m-1,by omega⟩
  simp only [vY]
  exact fK (by omega) _ _ _ _
 simp only [yQ,jn,T.ah,T.aj,hid,eU,hw,wL]
 rw [fK (by omega)]
 simp only [T.aI]
 unfold Ai
 cases decide (0<=s.id/\s.id<=7) with
 | false=>rfl
 | true =>
  rw [av (by decide)]
  cases decide (0<=s.sure/\s.sure<=(s.log.length:Int)) with
  | false=>rfl
  | true =>
   rw [av (by decide)]
   by_cases h3:s.log.length+s.held.length<=300
   ·obtain ⟨b1,b2,b3⟩:=abS (l:=s.log) (by omega) h.recs
    rw [jX,Sk (by omega) s.log (by omega) h.recs,decide_eq_true h3]
    simp only [T.aI,T.ah,atf (show 1048590<=m by omega) _ s.map b1,atg (show 1048610<=m by omega) _ s.held b2 b3]
    cases (cZ s.log).isSome with
    | false=>rfl
    | true=>cases Mi Ah (mapOf (cZ s.log)) s.map <;> rfl
   ·rw [bD,decide_eq_false h3]; rfl
def GH (x:aY):Bool:=decide (0<=x.bN/\x.bN<=7)&&(decide (1<=x.tx/\x.tx<=1000000)&&(if x.kind=1 then gL x.ops && !x.yes else if x.kind=2\/x.kind=3 then x.ops.length==0 else if x.kind=4 then (x.ops.length==0) && !x.yes else false))
theorem ah4 {m:Nat} (hm:1048700<=m) (x:aY) (h:oL x.ops) (K:T->An):Bz m (.i x.kind) (.i x.bN) (.i x.tx) (.l (rO x.ops)) (.b x.yes) K=K (.b (GH x)):=by
 obtain ⟨m,rfl⟩:=aS m
 have e0:(((rO x.ops).length:Int)==0)=(x.ops.length==0):=by rw [lH]; cases x.ops <;> simp <;> omega
 have hid : ∀ k,vY m (.i x.bN) k=k (.b (decide (0<=x.bN/\x.bN<=7))):=fun k=>by
  obtain ⟨q,rfl⟩ : ∃ q,m=q+1:=⟨m-1,by omega⟩
  simp only [vY]
  exact fK (by omega) _ _ _ _
 have ah1 : ∀ k,mh m (.i x.tx) k=k (.b (decide (1<=x.tx/\x.tx<=1000000))):=fun k=>by
  obtain ⟨q,rfl⟩ : ∃ q,m=q+1:=⟨m-1,by omega⟩
  simp only [mh]
  exact fK (by omega) _ _ _ _
 simp only [Bz,jn,T.ah,T.aj,hid,ah1,T.aI,e0,wL]
 rw [wm (by omega) x.ops h]
 simp only [T.aI]
 unfold GH
 cases decide (0<=x.bN/\x.bN<=7) with
 | false=>rfl
 | true =>
  rw [av (by decide)]
  cases decide (1<=x.tx/\x.tx<=1000000) with
  | false=>rfl
  | true =>
   rw [aC (by decide),Bool.true_and,Bool.true_and]
   by_cases k1:x.kind=1
   ·rw [av (by simp [k1]),if_pos k1]; cases gL x.ops <;> rfl
   ·rw [aC (by simp [k1]),if_neg k1]
    by_cases k2:x.kind=2
    ·rw [av (by simp [k2]),if_pos (.inl k2)]; rfl
    ·rw [aC (by simp [k2])]
     by_cases k3:x.kind=3
     ·rw [if_pos (.inr k3),av (by simp [k3])]
     ·rw [if_neg (by simp [k2,k3]),aC (by simp [k3])]
      by_cases k4:x.kind=4
      ·rw [av (by simp [k4]),if_pos k4]; cases x.ops.length==0 <;> rfl
      ·rw [aC (by simp [k4]),if_neg k4]
end Go.Proofs.YtpchnmbcbcfhjaaGreat

namespace Go.Proofs.YtpchnmbcbcfhjaaGreat
open Go Go.E Go.Proofs
abbrev yU (w:aA):List T:=[.i w.c.n,.i w.c.life,.i w.c.next,.l (rJ w.c.jobs),.l (rC w.c.log),.i w.c.sure,.l (rS w.ay),.l (rW w.net),.l (rW w.outs),.l (rB w.begun)]
structure CW (w:aA):Prop where
 jobs:ak8 w.c.jobs
 log:w.c.log.length<=1048576
 shl:w.ay.length<=1048576
 sh : ∀ s∈w.ay,abR s
 sI:w.net.length<=1048576
 net : ∀ x∈w.net,oL x.ops
 Av:w.outs.length<=1048576
 outs : ∀ x∈w.outs,oL x.ops
 yS:w.begun.length<=1048576
 Ag : ∀ o∈w.begun,oL o.ops
theorem sJ (r:List T):bJ (.l [r])=r:=rfl
theorem wr3 (w:aA):((yU w).drop 3).getD 0 dflt = .l (rJ w.c.jobs):=rfl
theorem wr4 (w:aA):((yU w).drop 4).getD 0 dflt = .l (rC w.c.log):=rfl
theorem wr5 (w:aA):((yU w).drop 5).getD 0 dflt = .i w.c.sure:=rfl
theorem wr6 (w:aA):((yU w).drop 6).getD 0 dflt = .l (rS w.ay):=rfl
theorem wr9 (w:aA):((yU w).drop 9).getD 0 dflt = .l (rB w.begun):=rfl
theorem wt6 (w:aA):(yU w).take 6=Mf w.c.n w.c.life w.c.next (rJ w.c.jobs) (rC w.c.log) (.i w.c.sure):=rfl
theorem anw (w:aA):(yU w).take 10=yU w:=rfl
theorem wo0 (x:aY):x.r.getD 0 dflt = .i x.kind:=rfl
theorem wo1 (x:aY):x.r.getD 1 dflt = .i x.bN:=rfl
theorem wo2 (x:aY):x.r.getD 2 dflt = .i x.tx:=rfl
theorem wo3 (x:aY):x.r.getD 3 dflt = .l (rO x.ops):=rfl
theorem wo4 (x:aY):x.r.getD 4 dflt = .b x.yes:=rfl
theorem ixB (pre:List dG) (x:dG) (post:List dG):(rB (pre++x::post)).getD (Int.toNat (pre.length:Int)) []=x.r:=by simp [List.getD]
theorem b0 (x:dG):x.r.getD 0 dflt = .i x.tx:=rfl
theorem b1' (x:dG):x.r.getD 1 dflt = .l (rO x.ops):=rfl
theorem bd1 (x:dG):(x.r.drop 1).getD 0 dflt = .l (rO x.ops):=rfl
theorem abT (l:List dG) {j:Nat} (h:j<l.length):(rB l).getD j []=(l.getD j default).r:=by simp [List.getD,h]
def Nj (k:Nat) (x:aY):Bool:=GH x&&decide (x.bN<(k:Int))
def Je (k:Nat) (l:List aY):Bool:=l.all (Nj k)&&decide (l.length<=400)
theorem apM (n:Nat):decide ((n:Int)<=400)=decide (n<=400):=decide_eq_decide.2 (by omega)
theorem apN (a b:Int):decide (a>=b) = !decide (a<b):=by
 by_cases h:a<b
 ·rw [decide_eq_true h,decide_eq_false (by omega)]; rfl
 ·rw [decide_eq_false h,decide_eq_true (by omega)]; rfl
theorem Nk (m:Nat) (hm:1048700<=m) (w:aA) (x1:T) : ∀ (post pre:List aY),(∀ x∈post,oL x.ops)->pre.length+post.length<=1048576->∀ n,post.length<n->∀ k0 k1,
  eY m n (.l [yU w]) x1 (.l (rW (pre++post))) (.i ((pre++post).length:Nat)) (.i pre.length) k0 k1=cond (post.all (Nj w.ay.length)) (k1 x1) (k0 (.b false))
 | [],pre,ho,hs,n,hn,k0,k1=>by
  obtain ⟨n,rfl⟩:=aS n
  simp only [eY,T.aj,T.ah,aG,aQ,wL,aT]
  rw [jX]
  rfl
 | x::post,pre,ho,hs,n,hn,k0,k1=>by
  obtain ⟨n,rfl⟩:=aS n
  simp only [List.length_cons] at hs hn
  have ih:=Nk m hm w x1 post (pre++[x]) (fun y hy=>ho y (by simp [hy])) (by simp; omega) n (by omega) k0 k1
  rw [aF,List.append_assoc,List.singleton_append] at ih
  simp only [eY,T.aj,T.ah,ixW,bE pre (by omega),wo0,wo1,wo2,wo3,wo4,sJ,wr6,qO,aG,aQ,wL,aT]
  rw [bD,bD,ah4 hm x (ho x (by simp)),ih,apN]
  simp only [T.aI,List.all_cons]
  unfold Nj
  cases GH x with
  | false=>rfl
  | true=>cases decide (x.bN<(w.ay.length:Int)) <;> rfl
theorem Vr {m:Nat} (hm:1048710<=m) (w:aA) (l:List aY) (hl:l.length<=1048576) (ho : ∀ x∈l,oL x.ops) (K:T->An):mP m (.l [yU w]) (.l (rW l)) K=K (.b (Je w.ay.length l)):=by
 obtain ⟨m,rfl⟩:=aS m
 simp only [mP,T.ah,dL,sJ,wL]
 refine (Nk m (by omega) w (.l (rW l)) l [] ho (by simpa using hl) m (by omega) _ _).trans ?_
 unfold Je
 simp only [T.ah,dL,apM]
 cases l.all (Nj w.ay.length) <;> rfl
def Aj (tx:Int):List dG->Option Nat
 | []=>none
 | o::l=>if o.tx=tx then some 0 else (Aj tx l).map (· + 1)
theorem ZT {tx:Int} : ∀ {l:List dG} {j:Nat},Aj tx l=some j->j<l.length
 | [],j,h=>by cases h
 | r::l,j,h=>by
  unfold Aj at h
  split at h
  ·cases h; simp
  ·cases h2:Aj tx l with
   | none=>rw [h2] at h; cases h
   | some i=>rw [h2] at h; cases h; have:=ZT h2; simp; omega
def Ak (tx:Int) (l:List dG):Int:=match Aj tx l with | some j=>(j:Int) | none=>-1
theorem Vs (m:Nat) (hm:1<=m) (tx:Int) : ∀ (post pre:List dG),pre.length+post.length<=1048576->∀ n,post.length<n->∀ k0 k1,
  aZ m n (.l (rB (pre++post))) (.l [[.i tx]]) (.i ((pre++post).length:Nat)) (.i pre.length) k0 k1=(match Aj tx post with | some j=>k0 (.i ((pre.length+j:Nat):Int)) | none=>k1)
 | [],pre,hs,n,hn,k0,k1=>by
  obtain ⟨n,rfl⟩:=aS n
  simp only [aZ,T.aj,T.ah,aG,aQ,wL,aT]
  rw [jX]
  rfl
 | x::post,pre,hs,n,hn,k0,k1=>by
  obtain ⟨n,rfl⟩:=aS n
  obtain ⟨m,rfl⟩:=aS m
  simp only [List.length_cons] at hs hn
  have ih:=Vs (m+1) hm tx post (pre++[x]) (by simp; omega) n (by omega) k0 k1
  rw [aF,List.append_assoc,List.singleton_append] at ih
  have r1:bJ (.l [[T.i tx]])=[T.i tx]:=rfl
  simp only [aZ,qM,T.aj,T.ah,ixB,bE pre (by omega),r1,List.getD_cons_zero,T.aI,b0,aG,aQ,wL,aT]
  rw [bD,bD]
  unfold Aj
  by_cases h:x.tx=tx
  ·rw [av (by simp [h]),if_pos h]; rfl
  ·rw [aC (by simp [h]),if_neg h]
   refine Eq.trans ih ?_
   cases Aj tx post with
   | none=>rfl
   | some j=>simp only [Option.map_some]; congr 3; simp; omega
theorem Dk {m:Nat} (hm:1048600<=m) (w:aA) (tx:Int) (hl:w.begun.length<=1048576) (K:T->An):fJ m (.l [yU w]) (.i tx) K=K (.i (Ak tx w.begun)):=by
 obtain ⟨m,rfl⟩:=aS m
 obtain ⟨m,rfl⟩:=aS m
 simp only [fJ,dZ,sJ,wr9,T.ah,vF,wL]
 refine (Vs m (by omega) tx w.begun [] (by simp; omega) m (by omega) _ _).trans ?_
 unfold Ak
 cases Aj tx w.begun <;> simp
end Go.Proofs.YtpchnmbcbcfhjaaGreat

namespace Go.Proofs.YtpchnmbcbcfhjaaGreat
open Go Go.E Go.Proofs
def ajB (life next:Int) (full:List dG) (i:Nat) (o:dG):Bool:=gL o.ops&&(decide (1000<=o.tx/\o.tx<=life * 1000+next-1)&&(Ak o.tx full==(i:Int)))
def Sl (life next:Int) (full:List dG):Nat->List dG->Bool
 | _,[]=>true
 | i,o::l=>ajB life next full i o&&Sl life next full (i+1) l
def aeW (full:List dG) (c:bA):Bool:=!decide (Ak c.tx full<0)
def aeX (full:List dG) (j:dN):Bool:=!decide (Ak j.tx full<0)&&Mi KU (full.getD (Ak j.tx full).toNat default).ops j.ops
def Jf (w:aA):Bool:=Sl w.c.life w.c.next w.begun 0 w.begun&&(w.c.log.all (aeW w.begun)&&(w.c.jobs.all (aeX w.begun)&&decide (w.begun.length<=1000)))
theorem Sm {tx:Int} {l:List dG} (h : ¬ Ak tx l<0) : ∃ j:Nat,Ak tx l=j/\j<l.length:=by
 unfold Ak at h ⊢
 cases h2:Aj tx l with
 | none=>rw [h2] at h; simp at h
 | some j=>exact ⟨j,rfl,ZT h2⟩
theorem Sn {l:List dG} {j:Nat} (h:j<l.length):l.getD j default∈l:=by simp [List.getD,h]
section
variable (m:Nat) (w:aA) (h1:1<=w.c.life/\w.c.life<=900) (h2:0<=w.c.next/\w.c.next<=999) (hb:w.begun.length<=1048576) (Wz : ∀ o∈w.begun,oL o.ops)
include hb
theorem alj (hm:1048700<=m) (h1:1<=w.c.life/\w.c.life<=900) (h2:0<=w.c.next/\w.c.next<=999) : ∀ (post pre:List dG),(∀ o∈post,oL o.ops)->pre.length+post.length<=1048576->∀ n,post.length<n->∀ k0 k1,
  fu m n (.l [yU w]) (.l (rB (pre++post))) (.i ((pre++post).length:Nat)) (.i pre.length) k0 k1=cond (Sl w.c.life w.c.next w.begun pre.length post) (k1 (.l [yU w])) (k0 (.b false))
 | [],pre,ho,hs,n,hn,k0,k1=>by
  obtain ⟨n,rfl⟩:=aS n
  simp only [fu,T.aj,T.ah,sJ,aG,aQ,wL,aT]
  rw [jX]
  rfl
 | x::post,pre,ho,hs,n,hn,k0,k1=>by
  obtain ⟨n,rfl⟩:=aS n
  simp only [List.length_cons] at hs hn
  have ih:=alj hm h1 h2 post (pre++[x]) (fun y hy=>ho y (by simp [hy])) (by simp; omega) n (by omega) k0 k1
  rw [aF,List.append_assoc,List.singleton_append,show (pre++[x]).length=pre.length+1 by simp] at ih
  simp only [fu,T.aj,T.ah,ixB,bE pre (by omega),b0,b1',sJ,wt6,anw,aG,aQ,wL,aT]
  rw [bD,bD,wm (by omega) x.ops (ho x (by simp)),Xt (by omega) _ _ _ _ _ _ h1 h2]
  simp only [T.aj,T.aI]
  rw [wrap_i64 (by omega) (by omega),fK (by omega)]
  simp only [T.aI]
  rw [Dk (by omega) w x.tx hb,ih]
  simp only [T.aj]
  show _=cond (ajB _ _ _ _ _&&_) _ _
  unfold ajB
  cases gL x.ops with
  | false=>rfl
  | true =>
   rw [av (by decide)]
   cases decide (1000<=x.tx/\x.tx<=w.c.life * 1000+w.c.next-1) with
   | false=>rfl
   | true =>
    rw [av (by decide)]
    by_cases h:Ak x.tx w.begun=(pre.length:Int)
    ·rw [aC (by simp [h])]; simp [h]
    ·rw [av (by simp [h]),show (Ak x.tx w.begun==(pre.length:Int))=false by simp [h]]; rfl
theorem alk (hm:1048700<=m) : ∀ (post pre:List bA),pre.length+post.length<=1048576->∀ n,post.length<n->∀ k0 k1,
  fq m n (.l [yU w]) (.l (rC (pre++post))) (.i ((pre++post).length:Nat)) (.i pre.length) k0 k1=cond (post.all (aeW w.begun)) (k1 (.l [yU w])) (k0 (.b false))
 | [],pre,hs,n,hn,k0,k1=>by
  obtain ⟨n,rfl⟩:=aS n
  simp only [fq,T.aj,T.ah,sJ,aG,aQ,aT]
  rw [jX]
  rfl
 | x::post,pre,hs,n,hn,k0,k1=>by
  obtain ⟨n,rfl⟩:=aS n
  simp only [List.length_cons] at hs hn
  have ih:=alk hm post (pre++[x]) (by simp; omega) n (by omega) k0 k1
  rw [aF,List.append_assoc,List.singleton_append] at ih
  simp only [fq,T.aj,T.ah,ixC,bE pre (by omega),c0,sJ,anw,aG,aQ,aT]
  rw [bD,bD,Dk (by omega) w x.tx hb,ih]
  simp only [T.aj,List.all_cons,aeW]
  cases decide (Ak x.tx w.begun<0) <;> rfl
theorem alm (hm:1048700<=m) (Wz : ∀ o∈w.begun,oL o.ops) : ∀ (post pre:List dN),pre.length+post.length<=1048576->∀ n,post.length<n->∀ k0 k1,
  eZ m n (.l [yU w]) (.l (rJ (pre++post))) (.i ((pre++post).length:Nat)) (.i pre.length) k0 k1=cond (post.all (aeX w.begun)) (k1 (.l [yU w])) (k0 (.b false))
 | [],pre,hs,n,hn,k0,k1=>by
  obtain ⟨n,rfl⟩:=aS n
  simp only [eZ,T.aj,T.ah,sJ,aG,aQ,wL,aT]
  rw [jX]
  rfl
 | x::post,pre,hs,n,hn,k0,k1=>by
  obtain ⟨n,rfl⟩:=aS n
  simp only [List.length_cons] at hs hn
  have ih:=alm hm Wz post (pre++[x]) (by simp; omega) n (by omega) k0 k1
  rw [aF,List.append_assoc,List.singleton_append] at ih
  simp only [eZ,T.aj,T.ah,ixJ,bE pre (by omega),j0,j1,sJ,anw,wr9,vF,aG,aQ,wL,aT]
  rw [bD,bD,Dk (by omega) w x.tx hb,ih]
  simp only [T.aj,List.all_cons,aeX]
  by_cases h:Ak x.tx w.begun<0
  ·rw [decide_eq_true h]; rfl
  ·obtain ⟨j,hj,hjl⟩:=Sm h
   rw [decide_eq_false h,hj,av (by decide),bD,show Int.toNat (j:Int)=j from rfl,abT w.begun hjl,bd1]
   simp only [T.ah]
   rw [anv (by omega) _ x.ops (Wz _ (Sn hjl)).1]
   simp only [T.aI,Bool.not_false,Bool.true_and]
   cases Mi KU (w.begun.getD j default).ops x.ops <;> rfl
theorem aeY (hm:1048710<=m) (h1:1<=w.c.life/\w.c.life<=900) (h2:0<=w.c.next/\w.c.next<=999) (Wz : ∀ o∈w.begun,oL o.ops) (hj:w.c.jobs.length<=1048576) (hl:w.c.log.length<=1048576) (K:T->An) :
  pq m (.l [yU w]) K=K (.b (Jf w)):=by
 obtain ⟨m,rfl⟩:=aS m
 simp only [pq,sJ,wr9,T.ah,vF]
 refine (alj m w hb (by omega) h1 h2 w.begun [] Wz (by simpa using hb) m (by omega) _ _).trans ?_
 unfold Jf
 simp only [List.length_nil]
 cases Sl w.c.life w.c.next w.begun 0 w.begun with
 | false=>rfl
 | true =>
  simp only [cond_true,sJ,wr4,wr3,wr9,T.ah,iG,Rx,vF,Bool.true_and]
  refine (alk m w hb (by omega) w.c.log [] (by simpa using hl) m (by omega) _ _).trans ?_
  cases w.c.log.all (aeW w.begun) with
  | false=>rfl
  | true =>
   simp only [cond_true,sJ,wr4,wr3,wr9,T.ah,iG,Rx,vF,Bool.true_and]
   refine (alm m w hb (by omega) Wz w.c.jobs [] (by simpa using hj) m (by omega) _ _).trans ?_
   cases w.c.jobs.all (aeX w.begun) with
   | false=>rfl
   | true=>simp only [cond_true,sJ,wr9,T.ah,vF,Bool.true_and]; congr 2; exact decide_eq_decide.2 (by omega)
end
section
variable (m:Nat) (N life next sure:Int) (jobs:List dN) (log:List bA) (l8 l9 l10:List (List T)) (Ag:List dG) (hb:Ag.length<=1048576)
include hb
end
end Go.Proofs.YtpchnmbcbcfhjaaGreat

namespace Go.Proofs.YtpchnmbcbcfhjaaGreat
open Go Go.E Go.Proofs
def xI:Nat->List aH->Bool
 | _,[]=>true
 | i,s::l=>(s.id==(i:Int))&&(Ai s&&xI (i+1) l)
def Dl (w:aA):Bool:=xE w.c.n w.c.life w.c.next w.c.jobs w.c.log w.c.sure&&(((w.ay.length:Int)==w.c.n)&&(xI 0 w.ay&&(Je w.ay.length w.net&&(Je w.ay.length w.outs&&Jf w))))
theorem Uc {N life next sure:Int} {jobs:List dN} {log:List bA} (h:xE N life next jobs log sure=true):(1<=life/\life<=900)/\(0<=next/\next<=999):=by
 unfold xE at h
 simp only [Bool.and_eq_true,decide_eq_true_eq] at h
 exact ⟨h.2.1,h.2.2.1⟩
theorem anx (pre:List aH) (x:aH) (post:List aH):(rS (pre++x::post)).getD (Int.toNat (pre.length:Int)) []=x.r:=by simp [List.getD]
theorem s0' (x:aH):x.r.getD 0 dflt = .i x.id:=rfl
theorem s1' (x:aH):x.r.getD 1 dflt = .l (rR x.log):=rfl
theorem s2' (x:aH):x.r.getD 2 dflt = .i x.sure:=rfl
theorem s3' (x:aH):x.r.getD 3 dflt = .l (rP x.map):=rfl
theorem s4' (x:aH):x.r.getD 4 dflt = .l (rR x.held):=rfl
theorem Vt (m:Nat) (hm:3200100<=m) (x4 x5 x6 x7 x8 x9 x10 bC dw dO:T) : ∀ (post pre:List aH),(∀ s∈post,abR s)->pre.length+post.length<=1048576->∀ n,post.length<n->∀ k0 k1,
  kU m n (.i 0) (.l (rS (pre++post))) (.i ((pre++post).length:Nat)) (.i pre.length) x4 x5 x6 x7 x8 x9 x10 bC dw dO k0 k1=cond (xI pre.length post) (k1 (.i 0) x4 x5 x6 x7 x8 x9 x10 bC dw dO) (k0 (.b false))
 | [],pre,ho,hs,n,hn,k0,k1=>by
  obtain ⟨n,rfl⟩:=aS n
  simp only [kU,T.aj,T.ah,aG,aQ,wL,aT]
  rw [jX]
  rfl
 | x::post,pre,ho,hs,n,hn,k0,k1=>by
  obtain ⟨n,rfl⟩:=aS n
  simp only [List.length_cons] at hs hn
  have ih:=Vt m hm x4 x5 x6 x7 x8 x9 x10 bC dw dO post (pre++[x]) (fun y hy=>ho y (by simp [hy])) (by simp; omega) n (by omega) k0 k1
  rw [aF,List.append_assoc,List.singleton_append,show (pre++[x]).length=pre.length+1 by simp] at ih
  have hz:((((0:Int).toNat:Nat)):Int)=0:=rfl
  simp only [kU,T.aj,T.ah,anx,bE pre (by omega),s0',s1',s2',s3',s4',hz,aG,aQ,wL,aT]
  rw [bD,bD,aeV (by omega) x (ho x (by simp)),ih]
  simp only [T.aI]
  show _=cond ((x.id==(pre.length:Int))&&(Ai x&&xI (pre.length+1) post)) _ _
  by_cases h:x.id=(pre.length:Int)
  ·rw [av (by simp [h]),show (x.id==(pre.length:Int))=true by simp [h]]
   cases Ai x <;> rfl
  ·rw [aC (by simp [h]),show (x.id==(pre.length:Int))=false by simp [h]]; rfl
theorem Mk {m:Nat} (hm:3200200<=m) (w:aA) (h:CW w) (K:T->An) :
  rQ m (.i w.c.n) (.i w.c.life) (.i w.c.next) (.l (rJ w.c.jobs)) (.l (rC w.c.log)) (.i w.c.sure) (.l (rS w.ay)) (.l (rW w.net)) (.l (rW w.outs)) (.l (rB w.begun)) K=K (.b (Dl w)):=by
 obtain ⟨m,rfl⟩:=aS m
 simp only [rQ,jn,T.ah,T.aj,qO,wL]
 rw [aeE (by omega) w.c.n w.c.life w.c.next w.c.sure w.c.jobs w.c.log h.jobs h.log]
 unfold Dl
 cases hc:xE w.c.n w.c.life w.c.next w.c.jobs w.c.log w.c.sure with
 | false=>rfl
 | true =>
  obtain ⟨h1,h2⟩:=Uc hc
  simp only [T.aI]
  rw [av (by decide)]
  by_cases hn:(w.ay.length:Int)=w.c.n
  ·rw [aC (by simp [hn]),show ((w.ay.length:Int)==w.c.n)=true by simp [hn]]
   refine (Vt m (by omega) _ _ _ _ _ _ _ _ _ _ w.ay [] h.sh (by simpa using h.shl) m (by have:=h.shl; omega) _ _).trans ?_
   simp only [List.length_nil]
   cases xI 0 w.ay with
   | false=>rfl
   | true =>
    simp only [cond_true,T.ah,Bool.true_and]
    rw [show (T.l [[.i w.c.n,.i w.c.life,.i w.c.next,.l (rJ w.c.jobs),.l (rC w.c.log),.i w.c.sure,.l (rS w.ay),.l (rW w.net),.l (rW w.outs),.l (rB w.begun)]])=T.l [yU w] from rfl,Vr (by omega) w w.net h.sI h.net,Vr (by omega) w w.outs h.Av h.outs,aeY m w h.yS (by omega) h1 h2 h.Ag h.jobs.1 h.log]
    simp only [T.aI]
    cases Je w.ay.length w.net with
    | false=>rfl
    | true=>cases Je w.ay.length w.outs <;> rfl
  ·rw [av (by simp [hn]),show ((w.ay.length:Int)==w.c.n)=false by simp [hn]]; rfl
end Go.Proofs.YtpchnmbcbcfhjaaGreat

namespace Go.Proofs.YtpchnmbcbcfhjaaGreat
open Go Go.E Go.Proofs
theorem hz0:((((0:Int).toNat:Nat)):Int)=0:=rfl
def XD (first kind tx:Int):Nat->List bq->Bool
 | _,[]=>false
 | i,r::l=>decide ((i:Int)<first)&&(((r.kind==kind)&&(r.tx==tx))||XD first kind tx (i+1) l)
def aln (l:List bq) (first kind tx:Int):Bool:=XD first kind tx 0 l
def adL (sh:List aH) (tx:Int):Bool:=sh.any fun s=>aln s.log s.log.length 3 tx
def anz (sh:List aH) (r:bq):Bool:=!(r.kind==2) || !adL sh r.tx
def Al (sh:List aH):Bool:=sh.all fun s=>s.log.all (anz sh)
theorem Sq (first kind tx:Int) : ∀ (l:List bq) (i:Nat),((i+l.length:Nat):Int)<=first->XD first kind tx i l=l.any fun r=>(r.kind==kind)&&(r.tx==tx)
 | [],i,h=>rfl
 | r::l,i,h=>by
  simp only [List.length_cons] at h
  unfold XD
  rw [decide_eq_true (by omega),Sq first kind tx l (i+1) (by omega)]
  rfl
theorem ZU (l:List bq) (kind tx:Int):aln l l.length kind tx=l.any fun r=>(r.kind==kind)&&(r.tx==tx):=Sq _ _ _ l 0 (by simp)
def nsP (sh:List aH):List (Int×Int):=sh.flatMap fun s=>s.log.map fun r=>(r.kind,r.tx)
theorem aeZ (sh:List aH):vT (rS sh)=nsP sh:=by
 unfold vT nsP
 rw [List.flatMap_map]
 congr 1
 funext s
 show IG s.r=_
 show (rR s.log).map YE=_
 rw [List.map_map]
 rfl
theorem anA (sh:List aH):nsB (nsP sh)=Al sh:=by
 rw [Bool.eq_iff_iff]
 unfold nsB Al anz adL UN nsP
 simp only [List.all_eq_true,List.mem_map,List.mem_filter,List.mem_flatMap,Bool.or_eq_true,Bool.not_eq_true',List.any_eq_false,ZU,Bool.and_eq_true,beq_iff_eq,beq_eq_false_iff_ne]
 constructor
 ·intro h s hs r hr
  by_cases hk:r.kind=2
  ·right
   intro s' hs' h2
   rw [List.any_eq_true] at h2
   obtain ⟨r',hr',h3⟩:=h2
   simp only [Bool.and_eq_true,beq_iff_eq] at h3
   have:=h r.tx ⟨(r.kind,r.tx),⟨⟨s,hs,r,hr,rfl⟩,hk⟩,rfl⟩
   rw [<-Bool.not_eq_true] at this
   exact this (by rw [List.contains_iff_mem]; exact List.mem_map.2 ⟨(r'.kind,r'.tx),by simp only [List.mem_filter,List.mem_flatMap,List.mem_map,beq_iff_eq]; exact ⟨⟨s',hs',r',hr',rfl⟩,h3.1⟩,h3.2⟩)
  ·exact .inl hk
 ·rintro h x ⟨⟨k,t⟩,⟨⟨s,hs,r,hr,e⟩,hk⟩,rfl⟩
  cases e
  rcases h s hs r hr with h1 | h1
  ·exact absurd hk h1
  ·rw [<-Bool.not_eq_true,List.contains_iff_mem]
   intro hx
   obtain ⟨⟨k',t'⟩,h2,h3⟩:=List.mem_map.1 hx
   simp only [List.mem_filter,List.mem_flatMap,List.mem_map,beq_iff_eq] at h2
   obtain ⟨⟨s',hs',r',hr',e'⟩,hk'⟩:=h2
   cases e'
   exact h1 s' hs' (by rw [List.any_eq_true]; exact ⟨r',hr',by simp only [Bool.and_eq_true,beq_iff_eq]; exact ⟨hk',h3⟩⟩)
theorem ZV {m:Nat} (hm:1<=m) (x0 x1 x2 x3 x4 x5 x7 x8 x9:T) (sh:List aH) (hl:(nsP sh).length<=ak) (K:T->An):yF m x0 x1 x2 x3 x4 x5 (.l (rS sh)) x7 x8 x9 K=K (.b (Al sh)):=by
 obtain ⟨m,rfl⟩:=aS m
 simp only [yF,T.ah,aeZ,anA]
 rw [aK hl]
end Go.Proofs.YtpchnmbcbcfhjaaGreat

namespace Go.Proofs.YtpchnmbcbcfhjaaGreat
open Go Go.E Go.Proofs
def abU (sure tx:Int):Nat->List bA->Bool
 | _,[]=>false
 | i,c::l=>((c.tx==tx)&&(c.yes&&decide ((i:Int)<sure)))||abU sure tx (i+1) l
theorem adM (m:Nat) (w:aA) (tx:Int) : ∀ (post pre:List bA),pre.length+post.length<=1048576->∀ n,post.length<n->∀ k0 k1,
  cO m n (.l [yU w]) (.i tx) (.l (rC (pre++post))) (.i ((pre++post).length:Nat)) (.i pre.length) k0 k1=cond (abU w.c.sure tx pre.length post) (k0 (.b true)) k1
 | [],pre,hs,n,hn,k0,k1=>by
  obtain ⟨n,rfl⟩:=aS n
  simp only [cO,T.aj,T.ah,aG,aQ,aT]
  rw [jX]
  rfl
 | x::post,pre,hs,n,hn,k0,k1=>by
  obtain ⟨n,rfl⟩:=aS n
  simp only [List.length_cons] at hs hn
  have ih:=adM m w tx post (pre++[x]) (by simp; omega) n (by omega) k0 k1
  rw [aF,List.append_assoc,List.singleton_append,show (pre++[x]).length=pre.length+1 by simp] at ih
  simp only [cO,T.aj,T.ah,ixC,bE pre (by omega),c0,c1,T.aI,sJ,wr5,aG,aQ,aT]
  rw [bD,bD,ih]
  show _=cond (((x.tx==tx)&&(x.yes&&decide ((pre.length:Int)<w.c.sure)))||abU w.c.sure tx (pre.length+1) post) _ _
  cases (x.tx==tx) <;> cases x.yes <;> cases decide ((pre.length:Int)<w.c.sure) <;> rfl
def KV (w:aA) (tx:Int):Bool:=abU w.c.sure tx 0 w.c.log
theorem abV {m:Nat} (hm:1048600<=m) (w:aA) (tx:Int) (hl:w.c.log.length<=1048576) (K:T->An):om m (.l [yU w]) (.i tx) K=K (.b (KV w tx)):=by
 obtain ⟨m,rfl⟩:=aS m
 simp only [om,sJ,wr4,T.ah,iG]
 refine (adM m w tx w.c.log [] (by simpa using hl) m (by omega) _ _).trans ?_
 unfold KV
 simp only [List.length_nil]
 cases abU w.c.sure tx 0 w.c.log <;> rfl
def bk1 (w:aA) (r:bq):Bool:=!(r.kind==2)||KV w r.tx
def GI (w:aA):Bool:=w.ay.all fun s=>s.log.all (bk1 w)
section
variable (m:Nat) (hm:1048700<=m) (w:aA) (hw:CW w)
include hm hw
theorem ah5 (x1 x2 x3:T) : ∀ (post pre:List bq),pre.length+post.length<=1048576->∀ n,post.length<n->∀ k0 k1,
  mq m n (.i 0) x1 x2 x3 (.l (rR (pre++post))) (.i ((pre++post).length:Nat)) (.i pre.length) (.i w.c.n) (.i w.c.life) (.i w.c.next) (.l (rJ w.c.jobs)) (.l (rC w.c.log)) (.i w.c.sure) (.l (rS w.ay)) (.l (rW w.net)) (.l (rW w.outs)) (.l (rB w.begun)) k0 k1 =
   cond (post.all (bk1 w)) (k1 (.i 0) x1 x2 x3 (.i w.c.n) (.i w.c.life) (.i w.c.next) (.l (rJ w.c.jobs)) (.l (rC w.c.log)) (.i w.c.sure) (.l (rS w.ay)) (.l (rW w.net)) (.l (rW w.outs)) (.l (rB w.begun))) (k0 (.b false))
 | [],pre,hs,n,hn,k0,k1=>by
  obtain ⟨n,rfl⟩:=aS n
  simp only [mq,T.aj,T.ah,aG,aQ,wL,aT]
  rw [jX]
  rfl
 | x::post,pre,hs,n,hn,k0,k1=>by
  obtain ⟨n,rfl⟩:=aS n
  simp only [List.length_cons] at hs hn
  have ih:=ah5 x1 x2 x3 post (pre++[x]) (by simp; omega) n (by omega) k0 k1
  rw [aF,List.append_assoc,List.singleton_append] at ih
  simp only [mq,T.aj,T.ah,T9,bE pre (by omega),r0,r1,hz0,aG,aQ,wL,aT]
  rw [bD,bD,show (T.l [[.i w.c.n,.i w.c.life,.i w.c.next,.l (rJ w.c.jobs),.l (rC w.c.log),.i w.c.sure,.l (rS w.ay),.l (rW w.net),.l (rW w.outs),.l (rB w.begun)]])=T.l [yU w] from rfl,abV (by omega) w x.tx hw.log,ih]
  simp only [T.aI,List.all_cons,bk1]
  cases (x.kind==2) <;> cases KV w x.tx <;> rfl
theorem ah6 : ∀ (post pre:List aH),(∀ s∈post,s.log.length<=1048576)->pre.length+post.length<=1048576->∀ n,post.length+1048576+1<n->∀ k0 k1,
  mD m n (.i 0) (.l (rS (pre++post))) (.i ((pre++post).length:Nat)) (.i pre.length) (.i w.c.n) (.i w.c.life) (.i w.c.next) (.l (rJ w.c.jobs)) (.l (rC w.c.log)) (.i w.c.sure) (.l (rS w.ay)) (.l (rW w.net)) (.l (rW w.outs)) (.l (rB w.begun)) k0 k1 =
   cond (post.all fun s=>s.log.all (bk1 w)) k1 (k0 (.b false))
 | [],pre,ho,hs,n,hn,k0,k1=>by
  obtain ⟨n,rfl⟩:=aS n
  simp only [mD,T.aj,T.ah,aG,aQ,aT]
  rw [jX]
  rfl
 | x::post,pre,ho,hs,n,hn,k0,k1=>by
  obtain ⟨n,rfl⟩:=aS n
  simp only [List.length_cons] at hs hn
  have hx:=ho x (by simp)
  have ih:=ah6 post (pre++[x]) (fun s h=>ho s (by simp [h])) (by simp; omega) n (by omega) k0 k1
  rw [aF,List.append_assoc,List.singleton_append] at ih
  simp only [mD,T.aj,T.ah,anx,s1',hz0,eU,aG,aQ,aT]
  rw [bD,bD]
  have l1:=ah5 m hm w hw (.l (rS (pre++x::post))) (.i ((pre++x::post).length:Nat)) (.i pre.length) x.log [] (by simpa using hx) n (by omega) k0
  simp only [List.nil_append,List.length_nil,Int.natCast_zero] at l1
  refine (l1 _).trans ?_
  simp only [T.aj,hz0,bE pre (by omega),List.all_cons]
  rw [ih]
  cases x.log.all (bk1 w) <;> rfl
end
theorem abW {m:Nat} (hm:2200000<=m) (w:aA) (hw:CW w) (K:T->An) :
  BD m (.i w.c.n) (.i w.c.life) (.i w.c.next) (.l (rJ w.c.jobs)) (.l (rC w.c.log)) (.i w.c.sure) (.l (rS w.ay)) (.l (rW w.net)) (.l (rW w.outs)) (.l (rB w.begun)) K=K (.b (GI w)):=by
 obtain ⟨m,rfl⟩:=aS m
 simp only [BD,T.ah,qO,wL]
 refine (ah6 m (by omega) w hw w.ay [] (fun s h=>(hw.sh s h).log) (by simpa using hw.shl) m (by have:=hw.shl; omega) _ _).trans ?_
 unfold GI
 cases w.ay.all fun s=>s.log.all (bk1 w) <;> rfl
section
variable (m:Nat) (hm:1048700<=m) (w:aA) (hw:CW w)
include hm hw
end
end Go.Proofs.YtpchnmbcbcfhjaaGreat

namespace Go.Proofs.YtpchnmbcbcfhjaaGreat
open Go Go.E Go.Proofs
def wh1 (w:aA) (id:Int) (r:bq):Bool:=(r.kind != 1)||(!decide (Ak r.tx w.begun<0)&&Mi KU (mQ (w.begun.getD (Ak r.tx w.begun).toNat default).ops id w.c.n) r.ops)
def Ml (w:aA):Bool:=w.ay.all fun s=>s.log.all (wh1 w s.id)
section
variable (m:Nat) (hm:1048700<=m) (w:aA) (hw:CW w)
include hm hw
theorem apO (x2 x3 x4 nC x20 x21 vg:T) (id:Int) : ∀ (post pre:List bq),pre.length+post.length<=1048576->∀ n,post.length<n->∀ k0 k1,
  nI m n (.i 0) (.i 0) x2 x3 x4 (.l (rR (pre++post))) (.i ((pre++post).length:Nat)) (.i pre.length) (.i w.c.n) (.i w.c.life) (.i w.c.next) (.l (rJ w.c.jobs)) (.l (rC w.c.log)) (.i w.c.sure) (.l (rS w.ay)) (.l (rW w.net)) (.l (rW w.outs)) (.l (rB w.begun)) (.i id) nC x20 x21 vg k0 k1 =
   cond (post.all (wh1 w id)) (k1 (.i 0) x2 x3 x4 (.i w.c.n) (.i w.c.life) (.i w.c.next) (.l (rJ w.c.jobs)) (.l (rC w.c.log)) (.i w.c.sure) (.l (rS w.ay)) (.l (rW w.net)) (.l (rW w.outs)) (.l (rB w.begun))) (k0 (.b false))
 | [],pre,hs,n,hn,k0,k1=>by
  obtain ⟨n,rfl⟩:=aS n
  simp only [nI,T.aj,T.ah,uM,aG,aQ,wL,aT]
  rw [jX]
  rfl
 | x::post,pre,hs,n,hn,k0,k1=>by
  obtain ⟨n,rfl⟩:=aS n
  simp only [List.length_cons] at hs hn
  have ih:=apO x2 x3 x4 nC x20 x21 vg id post (pre++[x]) (by simp; omega) n (by omega) k0 k1
  rw [aF,List.append_assoc,List.singleton_append] at ih
  have hbl:=hw.yS
  simp only [nI,T.aj,T.ah,T9,bE pre (by omega),r0,r1,r2,hz0,vF,uM,aG,aQ,wL,aT]
  rw [bD,bD,show (T.l [[.i w.c.n,.i w.c.life,.i w.c.next,.l (rJ w.c.jobs),.l (rC w.c.log),.i w.c.sure,.l (rS w.ay),.l (rW w.net),.l (rW w.outs),.l (rB w.begun)]])=T.l [yU w] from rfl,Dk (by omega) w x.tx hbl,ih]
  simp only [T.aj,List.all_cons]
  unfold wh1
  by_cases hk:x.kind=1
  ·rw [aC (by simp [hk]),show (x.kind != 1)=false by simp [hk]]
   by_cases h:Ak x.tx w.begun<0
   ·rw [decide_eq_true h]; rfl
   ·obtain ⟨j,hj,hjl⟩:=Sm h
    have K9:=hw.Ag _ (Sn hjl)
    rw [decide_eq_false h,hj,av (by decide),bD,show Int.toNat (j:Int)=j from rfl,abT w.begun hjl,bd1]
    simp only [T.ah]
    rw [Rw (by omega) _ id w.c.n K9]
    simp only [T.ah]
    rw [anv (by omega) _ x.ops (by have:=Eu (w.begun.getD j default).ops id w.c.n; have:=K9.1; omega)]
    simp only [T.aI,Bool.not_false,Bool.true_and,Bool.false_or]
    cases Mi KU (mQ (w.begun.getD j default).ops id w.c.n) x.ops <;> rfl
  ·rw [av (by simp [hk]),show (x.kind != 1)=true by simp [hk]]; rfl
theorem apP : ∀ (post pre:List aH),(∀ s∈post,s.log.length<=1048576)->pre.length+post.length<=1048576->∀ n,post.length+1048576+1<n->∀ k0 k1,
  nJ m n (.i 0) (.l (rS (pre++post))) (.i ((pre++post).length:Nat)) (.i pre.length) (.i w.c.n) (.i w.c.life) (.i w.c.next) (.l (rJ w.c.jobs)) (.l (rC w.c.log)) (.i w.c.sure) (.l (rS w.ay)) (.l (rW w.net)) (.l (rW w.outs)) (.l (rB w.begun)) k0 k1 =
   cond (post.all fun s=>s.log.all (wh1 w s.id)) k1 (k0 (.b false))
 | [],pre,ho,hs,n,hn,k0,k1=>by
  obtain ⟨n,rfl⟩:=aS n
  simp only [nJ,T.aj,T.ah,aG,aQ,aT]
  rw [jX]
  rfl
 | x::post,pre,ho,hs,n,hn,k0,k1=>by
  obtain ⟨n,rfl⟩:=aS n
  simp only [List.length_cons] at hs hn
  have hx:=ho x (by simp)
  have ih:=apP post (pre++[x]) (fun s h=>ho s (by simp [h])) (by simp; omega) n (by omega) k0 k1
  rw [aF,List.append_assoc,List.singleton_append] at ih
  simp only [nJ,T.aj,T.ah,anx,s0',s1',s2',s3',s4',hz0,eU,aG,aQ,aT]
  rw [bD,bD]
  have l1:=apO m hm w hw (.l (rS (pre++x::post))) (.i ((pre++x::post).length:Nat)) (.i pre.length) (.l (rR x.log)) (.i x.sure) (.l (rP x.map)) (.l (rR x.held)) x.id x.log [] (by simpa using hx) n (by omega) k0
  simp only [List.nil_append,List.length_nil,Int.natCast_zero] at l1
  refine (l1 _).trans ?_
  simp only [T.aj,hz0,bE pre (by omega),List.all_cons]
  rw [ih]
  cases x.log.all (wh1 w x.id) <;> rfl
end
theorem ae0 {m:Nat} (hm:2200000<=m) (w:aA) (hw:CW w) (K:T->An) :
  En m (.i w.c.n) (.i w.c.life) (.i w.c.next) (.l (rJ w.c.jobs)) (.l (rC w.c.log)) (.i w.c.sure) (.l (rS w.ay)) (.l (rW w.net)) (.l (rW w.outs)) (.l (rB w.begun)) K=K (.b (Ml w)):=by
 obtain ⟨m,rfl⟩:=aS m
 simp only [En,T.ah,qO,wL]
 refine (apP m (by omega) w hw w.ay [] (fun s h=>(hw.sh s h).log) (by simpa using hw.shl) m (by have:=hw.shl; omega) _ _).trans ?_
 unfold Ml
 cases w.ay.all fun s=>s.log.all (wh1 w s.id) <;> rfl
section
variable (m:Nat) (hm:1048700<=m) (w:aA) (hw:CW w)
include hm hw
end
end Go.Proofs.YtpchnmbcbcfhjaaGreat

namespace Go.Proofs.YtpchnmbcbcfhjaaGreat
open Go Go.E Go.Proofs
def ZW (tx:Int) (r:bq):Bool:=(r.tx==tx)&&((r.kind==1)||(r.kind==2))
def EO (s:aH):Nat:=(qX 0 (ow s.sure (s.log.length:Int))).toNat
def ZX (s:aH) (tx:Int):Bool:=(s.log.take (EO s)).any (ZW tx)
theorem ah7 (s:aH):EO s<=s.log.length:=by
 unfold EO qX ow
 split <;> split <;> omega
theorem alo (s:aH):qX 0 (ow s.sure (s.log.length:Int))=(EO s:Int):=by
 unfold EO qX ow
 split <;> split <;> omega
theorem Sr (m:Nat) (tx:Int) : ∀ (post pre:List bq),pre.length+post.length<=1048576->∀ n,post.length<n->∀ k0 k1,
  dB m n (.i tx) (.l (rR (pre++post))) (.i ((pre++post).length:Nat)) (.i pre.length) k0 k1=cond (post.any (ZW tx)) (k0 (.b true)) k1
 | [],pre,hs,n,hn,k0,k1=>by
  obtain ⟨n,rfl⟩:=aS n
  simp only [dB,T.aj,T.ah,aG,aQ,aT]
  rw [jX]
  rfl
 | x::post,pre,hs,n,hn,k0,k1=>by
  obtain ⟨n,rfl⟩:=aS n
  simp only [List.length_cons] at hs hn
  have ih:=Sr m tx post (pre++[x]) (by simp; omega) n (by omega) k0 k1
  rw [aF,List.append_assoc,List.singleton_append] at ih
  simp only [dB,T.aj,T.ah,T9,bE pre (by omega),r0,r1,aG,aQ,aT]
  rw [bD,bD,ih]
  simp only [List.any_cons,ZW]
  cases (x.tx==tx) <;> cases (x.kind==1) <;> cases (x.kind==2) <;> rfl
theorem ah8 {m:Nat} (hm:1048600<=m) (s:aH) (tx:Int) (hl:s.log.length<=1048576) (K:T->An):mV m (.l [s.r]) (.i tx) K=K (.b (ZX s tx)):=by
 obtain ⟨m,rfl⟩:=aS m
 have e1:(s.r.drop 1).getD 0 dflt = .l (rR s.log):=rfl
 have e2:(s.r.drop 2).getD 0 dflt = .i s.sure:=rfl
 have hle:=ah7 s
 have e3:(rR s.log).take (Int.toNat (EO s:Int))=rR (s.log.take (EO s)):=by
  rw [show Int.toNat (EO s:Int)=EO s from rfl]; simp [rR]
 simp only [mV,sJ,e1,e2,T.ah,T.aj,eU,alo,e3]
 rw [bD,bD]
 refine (Sr m tx (s.log.take (EO s)) [] (by rw [List.length_take]; simp; omega) m (by rw [List.length_take]; omega) _ _).trans ?_
 unfold ZX
 cases (s.log.take (EO s)).any (ZW tx) <;> rfl
def pr1 (w:aA) (tx s:Int):Bool:=decide (s<(w.ay.length:Int))&&ZX (w.ay.getD s.toNat default) tx
def pr (w:aA) (c:bA):Bool:=!c.yes||(!decide (Ak c.tx w.begun<0)&&(bg (w.begun.getD (Ak c.tx w.begun).toNat default).ops w.c.n).all (pr1 w c.tx))
def zf (w:aA):Bool:=w.c.log.all (pr w)
theorem Vu {ops:List eT} {n s:Int} (h:s∈bg ops n):0<=s:=by
 unfold bg at h
 rw [C9] at h
 rcases h with h | h
 ·cases h
 ·obtain ⟨o,-,rfl⟩:=List.mem_map.1 h; omega
theorem anC (l:List aH) {j:Nat} (h:j<l.length):(rS l).getD j []=(l.getD j default).r:=by simp [List.getD,h]
theorem ah9 {l:List aH} {j:Nat} (h:j<l.length):l.getD j default∈l:=by simp [List.getD,h]
section
variable (m:Nat) (hm:1048800<=m) (w:aA) (hw:CW w)
include hm hw
theorem apR (x2 x3 x4 nC:T) (tx:Int) : ∀ (post pre:List Int),(∀ s∈post,0<=s)->pre.length+post.length<=1048576->∀ n,post.length<n->∀ k0 k1,
  jJ m n (.i 0) (.i 0) x2 x3 x4 (.l (ir (pre++post))) (.i ((pre++post).length:Nat)) (.i pre.length) (.i w.c.n) (.i w.c.life) (.i w.c.next) (.l (rJ w.c.jobs)) (.l (rC w.c.log)) (.i w.c.sure) (.l (rS w.ay)) (.l (rW w.net)) (.l (rW w.outs)) (.l (rB w.begun)) (.i tx) nC k0 k1 =
   cond (post.all (pr1 w tx)) (k1 (.i 0) x2 x3 x4 (.i w.c.n) (.i w.c.life) (.i w.c.next) (.l (rJ w.c.jobs)) (.l (rC w.c.log)) (.i w.c.sure) (.l (rS w.ay)) (.l (rW w.net)) (.l (rW w.outs)) (.l (rB w.begun))) (k0 (.b false))
 | [],pre,hp,hs,n,hn,k0,k1=>by
  obtain ⟨n,rfl⟩:=aS n
  simp only [jJ,T.aj,T.ah,aG,aQ,aT]
  rw [jX]
  rfl
 | x::post,pre,hp,hs,n,hn,k0,k1=>by
  obtain ⟨n,rfl⟩:=aS n
  simp only [List.length_cons] at hs hn
  have hx:=hp x (by simp)
  have ih:=apR x2 x3 x4 nC tx post (pre++[x]) (fun s h=>hp s (by simp [h])) (by simp; omega) n (by omega) k0 k1
  rw [aF,List.append_assoc,List.singleton_append] at ih
  simp only [jJ,T.aj,T.ah,ixI,bE pre (by omega),hz0,qO,aG,aQ,aT]
  rw [bD,aK (by simp [ir]; omega),ih]
  simp only [List.all_cons,pr1]
  by_cases h:x<(w.ay.length:Int)
  ·have hxl:x.toNat<w.ay.length:=by omega
   rw [av (by simp; omega),bD,anC w.ay hxl,show (w.ay.getD x.toNat default).r.take 5=(w.ay.getD x.toNat default).r from rfl,ah8 (by omega) _ tx (hw.sh _ (ah9 hxl)).log,decide_eq_true h]
   simp only [T.aI,Bool.true_and]
   cases ZX (w.ay.getD x.toNat default) tx <;> rfl
  ·rw [aC (by simp; omega),decide_eq_false h]; rfl
theorem apS : ∀ (post pre:List bA),pre.length+post.length<=1048576->∀ n,post.length+1048576+1<n->∀ k0 k1,
  jK m n (.i 0) (.l (rC (pre++post))) (.i ((pre++post).length:Nat)) (.i pre.length) (.i w.c.n) (.i w.c.life) (.i w.c.next) (.l (rJ w.c.jobs)) (.l (rC w.c.log)) (.i w.c.sure) (.l (rS w.ay)) (.l (rW w.net)) (.l (rW w.outs)) (.l (rB w.begun)) k0 k1 =
   cond (post.all (pr w)) k1 (k0 (.b false))
 | [],pre,hs,n,hn,k0,k1=>by
  obtain ⟨n,rfl⟩:=aS n
  simp only [jK,T.aj,T.ah,uM,aG,aQ,wL,aT]
  rw [jX]
  rfl
 | x::post,pre,hs,n,hn,k0,k1=>by
  obtain ⟨n,rfl⟩:=aS n
  simp only [List.length_cons] at hs hn
  have ih:=apS post (pre++[x]) (by simp; omega) n (by omega) k0 k1
  rw [aF,List.append_assoc,List.singleton_append] at ih
  have hbl:=hw.yS
  simp only [jK,T.aj,T.ah,ixC,bE pre (by omega),c0,c1,T.aI,hz0,vF,uM,aG,aQ,wL,aT]
  rw [bD,bD,show (T.l [[.i w.c.n,.i w.c.life,.i w.c.next,.l (rJ w.c.jobs),.l (rC w.c.log),.i w.c.sure,.l (rS w.ay),.l (rW w.net),.l (rW w.outs),.l (rB w.begun)]])=T.l [yU w] from rfl,Dk (by omega) w x.tx hbl,ih]
  simp only [T.aj,List.all_cons]
  unfold pr
  cases hy:x.yes with
  | false=>rfl
  | true =>
   rw [aC (by decide)]
   by_cases h:Ak x.tx w.begun<0
   ·rw [decide_eq_true h]; rfl
   ·obtain ⟨j,hj,hjl⟩:=Sm h
    have K9:=hw.Ag _ (Sn hjl)
    rw [decide_eq_false h,hj,cond_false,bD,show Int.toNat (j:Int)=j from rfl,abT w.begun hjl,bd1]
    simp only [T.ah]
    rw [Ac (by omega) _ w.c.n K9]
    simp only [T.ah,Bool.not_true,Bool.false_or,Bool.not_false,Bool.true_and]
    have hsl:=kC (w.begun.getD j default).ops w.c.n
    have hol:=K9.1
    have l1:=apR m hm w hw (.l (rC (pre++x::post))) (.i ((pre++x::post).length:Nat)) (.i pre.length) (.b true) x.tx (bg (w.begun.getD j default).ops w.c.n) [] (fun s hs=>Vu hs) (by rw [List.length_nil,Nat.zero_add]; omega) n (by omega) k0
    simp only [List.nil_append,List.length_nil,Int.natCast_zero] at l1
    rw [show ((ir (bg (w.begun.getD j default).ops w.c.n)).length:Int)=((bg (w.begun.getD j default).ops w.c.n).length:Int) by simp [ir]]
    refine (l1 _).trans ?_
    simp only [T.aj,hz0,bE pre (by omega)]
    rw [ih]
    cases (bg (w.begun.getD j default).ops w.c.n).all (pr1 w x.tx) <;> rfl
end
theorem XE {m:Nat} (hm:2200000<=m) (w:aA) (hw:CW w) (K:T->An) :
  wO m (.i w.c.n) (.i w.c.life) (.i w.c.next) (.l (rJ w.c.jobs)) (.l (rC w.c.log)) (.i w.c.sure) (.l (rS w.ay)) (.l (rW w.net)) (.l (rW w.outs)) (.l (rB w.begun)) K=K (.b (zf w)):=by
 obtain ⟨m,rfl⟩:=aS m
 simp only [wO,T.ah,iG,wL]
 refine (apS m (by omega) w hw w.c.log [] (by simpa using hw.log) m (by have:=hw.log; omega) _ _).trans ?_
 unfold zf
 cases w.c.log.all (pr w) <;> rfl
section
variable (m:Nat) (hm:1048800<=m) (w:aA) (hw:CW w)
include hm hw
end
def adN (w:aA):Int:=if Dl w=false then 1 else if Al w.ay=false then 2 else if GI w=false then 3 else if Ml w=false then 4 else if zf w=false then 5 else 0
theorem ix5 {m:Nat} (hm:20<=m) (a b c d e:Bool) (K:T->An):ny m (.l [[.b a],[.b b],[.b c],[.b d],[.b e]]) (.b false) K=K (.i (if a=false then 0 else if b=false then 1 else if c=false then 2 else if d=false then 3 else if e=false then 4 else -1)):=by
 obtain ⟨m,rfl⟩ : ∃ q,m=q+8:=⟨m-8,by omega⟩
 cases a <;> cases b <;> cases c <;> cases d <;> cases e <;> rfl
theorem ZY {m:Nat} (hm:4000000<=m) (w:aA) (hw:CW w) (hl:(nsP w.ay).length<=ak) (K:T->An) :
  wh m (.i w.c.n) (.i w.c.life) (.i w.c.next) (.l (rJ w.c.jobs)) (.l (rC w.c.log)) (.i w.c.sure) (.l (rS w.ay)) (.l (rW w.net)) (.l (rW w.outs)) (.l (rB w.begun)) K=K (.i (adN w)):=by
 obtain ⟨m,rfl⟩:=aS m
 simp only [wh,T.ah,wL]
 rw [Mk (by omega) w hw,ZV (by omega) _ _ _ _ _ _ _ _ _ w.ay hl,abW (by omega) w hw,ae0 (by omega) w hw,XE (by omega) w hw,ix5 (by omega)]
 simp only [T.aj]
 congr 2
 unfold adN
 cases Dl w <;> cases Al w.ay <;> cases GI w <;> cases Ml w <;> cases zf w <;> rfl
end Go.Proofs.YtpchnmbcbcfhjaaGreat

namespace Go.Proofs.YtpchnmbcbcfhjaaGreat
open Go Go.E Go.Proofs
theorem OO {x:bA} : ∀ {pre post:List bA},(∀ y∈pre,y.tx≠x.tx)->oM x.tx (pre++x::post)=some pre.length
 | [],post,h=>by simp [oM]
 | y::pre,post,h=>by
  simp only [List.cons_append,oM]
  rw [if_neg (h y (by simp)),OO fun z hz=>h z (by simp [hz])]
  rfl
theorem Sv {x:dG} : ∀ {pre post:List dG},(∀ y∈pre,y.tx≠x.tx)->Aj x.tx (pre++x::post)=some pre.length
 | [],post,h=>by simp [Aj]
 | y::pre,post,h=>by
  simp only [List.cons_append,Aj]
  rw [if_neg (h y (by simp)),Sv fun z hz=>h z (by simp [hz])]
  rfl
theorem GJ {w:aA} (h:bW w) {o:dG} (ho:o∈w.begun) : ∃ j:Nat,Ak o.tx w.begun=j/\j<w.begun.length/\w.begun.getD j default=o:=by
 obtain ⟨pre,post,e⟩:=List.append_of_mem ho
 have hd:=h.Xy
 rw [e,List.pairwise_append] at hd
 have:Aj o.tx w.begun=some pre.length:=by
  rw [e]
  exact Sv fun y hy=>by have:=hd.2.2 y hy o (by simp); omega
 refine ⟨pre.length,?_,by rw [e]; simp,by rw [e]; simp [List.getD]⟩
 unfold Ak
 rw [this]
theorem Z0 {w:aA} (h:bW w) : ∀ (post pre:List bA),w.c.log=pre++post->Nb w.c.life w.c.next w.c.log pre.length post=true
 | [],pre,e=>rfl
 | x::post,pre,e=>by
  have ih:=Z0 h post (pre++[x]) (by rw [e]; simp)
  rw [show (pre++[x]).length=pre.length+1 by simp] at ih
  have hx:x∈w.c.log:=by rw [e]; simp
  obtain ⟨⟨o,ho,htx⟩,-⟩:=h.log x hx
  have hb:=h.Ag o ho
  have hd:=h.Ub
  rw [e,List.pairwise_append] at hd
  have hc:chI x.tx w.c.log=(pre.length:Int):=by
   unfold chI
   rw [show oM x.tx w.c.log=some pre.length by rw [e]; exact OO fun y hy=>hd.2.2 y hy x (by simp)]
  unfold Nb
  rw [ih,hc,decide_eq_true (show 1000<=x.tx/\x.tx<=w.c.life * 1000+w.c.next-1 by omega)]
  simp
theorem Z4 {sh:List Int} : ∀ {l:List Int} {p:Option Int},(∀ y∈l,y∈sh)->l.Pairwise (· < ·)->(∀ q,p=some q->∀ y∈l,q<y)->RA sh p l=true
 | [],_,_,_,_=>rfl
 | y::l,p,h1,h2,h3=>by
  rw [List.pairwise_cons] at h2
  unfold RA
  rw [decide_eq_true (h1 y (by simp)),Z4 (fun z hz=>h1 z (by simp [hz])) h2.2 (fun q e z hz=>by cases e; exact h2.1 z hz)]
  cases p with
  | none=>rfl
  | some q=>simp only [decide_eq_true (h3 q rfl y (by simp))]; rfl
theorem abX {log:List bA} (hd:log.Pairwise fun a b=>a.tx≠b.tx) {j:dN} (h:JSt log j):Gx log j=true:=by
 have at_ : ∀ c∈log,c.tx=j.tx->oM j.tx log=some 0 \/ ∃ k,oM j.tx log=some k/\log.getD k default=c:=fun c hc e=>by
  obtain ⟨pre,post,e2⟩:=List.append_of_mem hc
  rw [e2,List.pairwise_append] at hd
  right
  refine ⟨pre.length,?_,by rw [e2]; simp [List.getD]⟩
  rw [e2,<-e]
  exact OO fun y hy=>hd.2.2 y hy c (by simp)
 have at' : ∀ c∈log,c.tx=j.tx->∃ k,oM j.tx log=some k/\log.getD k default=c:=fun c hc e=>by
  obtain ⟨pre,post,e2⟩:=List.append_of_mem hc
  rw [e2,List.pairwise_append] at hd
  refine ⟨pre.length,?_,by rw [e2]; simp [List.getD]⟩
  rw [e2,<-e]
  exact OO fun y hy=>hd.2.2 y hy c (by simp)
 unfold Gx
 rcases h with ⟨h1,h2⟩ | ⟨h1,h2⟩ | ⟨h1,h2⟩
 ·have:oM j.tx log=none:=by
   clear at_ at' hd
   induction log with
   | nil=>rfl
   | cons c l ih=>unfold oM; rw [if_neg (h2 c (by simp)),ih fun d hd=>h2 d (by simp [hd])]; rfl
  rw [this]; simp [h1]
 ·obtain ⟨k,e1,e2⟩:=at' _ h2 rfl
  rw [e1]; simp only [e2,h1]; rfl
 ·obtain ⟨k,e1,e2⟩:=at' _ h2 rfl
  rw [e1]; simp only [e2,h1]; rfl
theorem Vv {w:aA} (h:bW w) : ∀ {l:List dN} {p:Option dN},(∀ j∈l,j∈w.c.jobs)->(l.Pairwise fun a b=>a.tx<b.tx)->(∀ q,p=some q->∀ j∈l,q.tx<j.tx)->I7 w.c.n w.c.life w.c.next w.c.log p l=true
 | [],_,_,_,_=>rfl
 | j::l,p,h1,h2,h3=>by
  rw [List.pairwise_cons] at h2
  have hj:=h.jobs j (h1 j (by simp))
  obtain ⟨hok,-,-,hlt⟩:=h.Ag _ hj.Ag
  simp only at hok hlt
  unfold I7
  rw [Vv h (fun z hz=>h1 z (by simp [hz])) h2.2 (fun q e z hz=>by cases e; exact h2.1 z hz)]
  have hp:Xr p j=true:=by
   cases p with
   | none=>rfl
   | some q=>exact decide_eq_true (h3 q rfl j (by simp))
  have hjp:aeC w.c.n w.c.life w.c.next w.c.log j=true:=by
   unfold aeC anj
   have:=hj.tx
   rw [decide_eq_true (show w.c.life * 1000<=j.tx/\j.tx<=w.c.life * 1000+w.c.next-1 by omega),hok,Z4 (fun y hy=>(hj.yes.2 y hy).1) hj.yes.1 (fun q e=>by cases e),abX h.Ub hj.st]
   rfl
  rw [hp,hjp]; rfl
theorem bW.apT {w:aA} (h:bW w):xE w.c.n w.c.life w.c.next w.c.jobs w.c.log w.c.sure=true:=by
 have e0:Nb w.c.life w.c.next w.c.log 0 w.c.log=true:=Z0 h w.c.log [] rfl
 unfold xE
 rw [decide_eq_true h.n,decide_eq_true h.life,decide_eq_true h.next,decide_eq_true h.vK,decide_eq_true h.sure,e0,Vv h (fun j hj=>hj) h.ZJ (fun q e=>by cases e)]
 rfl
theorem Nl {w:aA} (h:bW w) : ∀ (post pre:List aH),w.ay=pre++post->xI pre.length post=true
 | [],pre,e=>rfl
 | s::post,pre,e=>by
  have ih:=Nl h post (pre++[s]) (by rw [e]; simp)
  rw [show (pre++[s]).length=pre.length+1 by simp] at ih
  have hs:w.ay[pre.length]? = some s:=by rw [e]; simp
  obtain ⟨hid,hsi,-⟩:=h.sh _ _ hs
  obtain ⟨seen,e2,-,h3,-⟩:=hsi.inv
  have hl:pre.length<w.ay.length:=by rw [e]; simp
  have hn:=h.n
  have apU:=h.shl
  unfold xI
  have hok:Ai s=true:=by
   unfold Ai
   rw [decide_eq_true (show 0<=s.id/\s.id<=7 by rw [hid]; omega),decide_eq_true hsi.sure,decide_eq_true h3,e2]
   simp only [mapOf,Et,Option.isSome_some,Bool.true_and]
   rw [Dj s.map fun x _=>ZQ x,Dj s.held fun x _=>abN x]
   rfl
  rw [hok,ih,hid]
  simp
theorem Z5 : ∀ {a b c:List UInt8},Op.bytesLess a b=true->Op.bytesLess b c=true->Op.bytesLess a c=true
 | a,b,[],_,h2=>by simp [Op.bytesLess] at h2
 | [],b,c::z,_,_=>rfl
 | a::x,[],c::z,h1,_=>by simp [Op.bytesLess] at h1
 | a::x,b::y,c::z,h1,h2=>by
  simp only [Op.bytesLess,Bool.or_eq_true,Bool.and_eq_true,decide_eq_true_eq,beq_iff_eq] at h1 h2 ⊢
  rcases h1 with h1 | ⟨rfl,h1⟩ <;> rcases h2 with h2 | ⟨rfl,h2⟩
  ·exact .inl (UInt8.lt_trans h1 h2)
  ·exact .inl h1
  ·exact .inl h2
  ·exact .inr ⟨rfl,Z5 h1 h2⟩
theorem abY : ∀ {l:List eT} {p q:eT},blt p.key q.key=true->vM (some q) l=true->vM (some p) l=true
 | [],_,_,_,_=>rfl
 | x::l,p,q,h,h2=>by
  unfold vM at h2 ⊢
  simp only [Bool.and_eq_true] at h2 ⊢
  exact ⟨⟨h2.1.1,Z5 h h2.1.2⟩,h2.2⟩
theorem abZ {l:List eT} {p:eT} (h:vM (some p) l=true):vM none l=true:=by
 cases l with
 | nil=>rfl
 | cons x l =>
  unfold vM at h ⊢
  simp only [Bool.and_eq_true] at h ⊢
  exact ⟨⟨h.1.1,trivial⟩,h.2⟩
theorem Ey (f:eT->Bool) : ∀ {l:List eT} {p:Option eT},vM p l=true->vM p (l.filter f)=true
 | [],_,_=>rfl
 | x::l,p,h=>by
  have h':=h
  unfold vM at h
  simp only [Bool.and_eq_true] at h
  cases hf:f x with
  | true =>
   rw [List.filter_cons_of_pos hf]
   unfold vM
   simp only [Bool.and_eq_true]
   exact ⟨h.1,Ey f h.2⟩
  | false =>
   rw [List.filter_cons_of_neg (by rw [hf]; decide)]
   refine Ey f ?_
   cases p with
   | none=>exact abZ h.2
   | some q=>exact abY h.1.2 h.2
theorem ae1 {ops:List eT} {n s:Int} (h:gL ops=true) (hs:s∈bg ops n):gL (mQ ops s n)=true:=by
 unfold gL at h ⊢
 simp only [Bool.and_eq_true,decide_eq_true_eq] at h ⊢
 have hl:=Eu ops s n
 refine ⟨Ey _ h.1,?_,by omega⟩
 unfold bg at hs
 rw [C9] at hs
 rcases hs with hs | hs
 ·cases hs
 ·obtain ⟨o,ho,e⟩:=List.mem_map.1 hs
  have:o∈mQ ops s n:=List.mem_filter.2 ⟨ho,by simpa using e⟩
  exact List.length_pos_of_mem this
theorem bW.word {w:aA} (h:bW w) {x:aY} (hx:NW w x):Nj w.ay.length x=true:=by
 obtain ⟨hsh,o,ho,htx,hk⟩:=hx
 have hn:=h.n
 have hlf:=h.life
 have hnx:=h.next
 obtain ⟨hok,-,h1,h2⟩:=h.Ag o ho
 have apU:=h.shl
 unfold Nj GH
 rw [decide_eq_true (show 0<=x.bN/\x.bN<=7 by omega),decide_eq_true (show 1<=x.tx/\x.tx<=1000000 by omega),decide_eq_true (show x.bN<(w.ay.length:Int) by omega)]
 simp only [Bool.true_and,Bool.and_true]
 rcases hk with ⟨k1,k2,k3,k4⟩ | ⟨k0,⟨k1,-⟩ | ⟨k1,-,-⟩ | ⟨k1,k2⟩⟩
 ·rw [if_pos k1,k2,k4,ae1 hok k3]; rfl
 ·simp [k1,k0]
 ·simp [k1,k0]
 ·simp [k1,k0,k2]
theorem bW.apV {w:aA} (h:bW w) {x:aY} (hx:OW w x):Nj w.ay.length x=true:=by
 obtain ⟨hsh,⟨o,ho,htx⟩,k0,k1,-⟩:=hx
 have hn:=h.n
 have hlf:=h.life
 have hnx:=h.next
 obtain ⟨hok,-,h1,h2⟩:=h.Ag o ho
 have apU:=h.shl
 unfold Nj GH
 rw [decide_eq_true (show 0<=x.bN/\x.bN<=7 by omega),decide_eq_true (show 1<=x.tx/\x.tx<=1000000 by omega),decide_eq_true (show x.bN<(w.ay.length:Int) by omega)]
 simp [k1,k0]
theorem Z6 {w:aA} (h:bW w) : ∀ (post pre:List dG),w.begun=pre++post->Sl w.c.life w.c.next w.begun pre.length post=true
 | [],pre,e=>rfl
 | o::post,pre,e=>by
  have ih:=Z6 h post (pre++[o]) (by rw [e]; simp)
  rw [show (pre++[o]).length=pre.length+1 by simp] at ih
  obtain ⟨hok,-,h1,h2⟩:=h.Ag o (by rw [e]; simp)
  have hd:=h.Xy
  rw [e,List.pairwise_append] at hd
  have hi:Ak o.tx w.begun=(pre.length:Int):=by
   unfold Ak
   rw [show Aj o.tx w.begun=some pre.length by rw [e]; exact Sv fun y hy=>by have:=hd.2.2 y hy o (by simp); omega]
  unfold Sl ajB
  rw [ih,hok,hi,decide_eq_true (show 1000<=o.tx/\o.tx<=w.c.life * 1000+w.c.next-1 by omega)]
  simp
theorem bW.Jf {w:aA} (h:bW w):Jf w=true:=by
 unfold Go.Proofs.YtpchnmbcbcfhjaaGreat.Jf
 have e0:Sl w.c.life w.c.next w.begun 0 w.begun=true:=Z6 h w.begun [] rfl
 rw [e0,decide_eq_true h.yS]
 have h1:w.c.log.all (aeW w.begun)=true:=List.all_eq_true.2 fun c hc=>by
  obtain ⟨⟨o,ho,htx⟩,-⟩:=h.log c hc
  obtain ⟨j,e,-,-⟩:=GJ h ho
  unfold aeW
  rw [<-htx,e,decide_eq_false (by omega)]; rfl
 have h2:w.c.jobs.all (aeX w.begun)=true:=List.all_eq_true.2 fun x hx=>by
  obtain ⟨j,e,-,e2⟩:=GJ h (h.jobs x hx).Ag
  simp only at e
  unfold aeX
  rw [e,decide_eq_false (by omega),show Int.toNat (j:Int)=j from rfl,e2,Dj x.ops fun o _=>Mj o]; rfl
 rw [h1,h2]; rfl
theorem bW.world {w:aA} (h:bW w):Dl w=true:=by
 have e0:xI 0 w.ay=true:=Nl h w.ay [] rfl
 unfold Dl Je
 rw [h.apT,e0,h.Jf,decide_eq_true h.sI,decide_eq_true h.Av,List.all_eq_true.2 fun x hx=>h.word (h.net x hx),List.all_eq_true.2 fun x hx=>h.apV (h.outs x hx)]
 simp [h.shl]
theorem bW.mem {w:aA} (h:bW w) {s:aH} (hs:s∈w.ay) : ∃ k,ShI w k s/\w.ay[k]? = some s:=by
 obtain ⟨k,hk,rfl⟩:=List.getElem_of_mem hs
 have e:w.ay[k]? = some w.ay[k]:=List.getElem?_eq_getElem hk
 exact ⟨k,h.sh _ _ e,e⟩
theorem bW.ajC {w:aA} (h:bW w):Al w.ay=true:=by
 unfold Al
 refine List.all_eq_true.2 fun s hs=>List.all_eq_true.2 fun r hr=>?_
 unfold anz
 by_cases hk:r.kind=2
 ·have hg:adL w.ay r.tx=false:=by
   unfold adL
   rw [List.any_eq_false]
   intro s' hs' h2
   rw [ZU,List.any_eq_true] at h2
   obtain ⟨r',hr',h3⟩:=h2
   simp only [Bool.and_eq_true,beq_iff_eq] at h3
   obtain ⟨k,hS,-⟩:=h.mem hs
   obtain ⟨k',hS',-⟩:=h.mem hs'
   have c1:=List.mem_of_mem_take ((hS.2.2 r hr).2.1 hk)
   have c2:=(hS'.2.2 r' hr').2.2 h3.1
   rw [h3.2] at c2
   have hd:=h.Ub
   rcases c2 with c2 | ⟨-,c2⟩
   ·have c2:=List.mem_of_mem_take c2
    have:(⟨r.tx,true⟩:bA)=⟨r.tx,false⟩:=by
     clear hS hS'
     generalize w.c.log=l at c1 c2 hd
     induction l with
     | nil=>cases c1
     | cons c l ih =>
      rw [List.pairwise_cons] at hd
      rcases List.mem_cons.1 c1 with e1 | c1 <;> rcases List.mem_cons.1 c2 with e2 | c2
      ·exact e1.trans e2.symm
      ·exact absurd (show c.tx=r.tx by rw [<-e1]) (hd.1 _ c2)
      ·exact absurd (show c.tx=r.tx by rw [<-e2]) (hd.1 _ c1)
      ·exact ih c1 c2 hd.2
    cases this
   ·exact c2 _ c1 rfl
  rw [hg]; simp
 ·simp [hk]
theorem Z7 {sure tx:Int} : ∀ {l:List bA} {i:Nat},(⟨tx,true⟩:bA)∈l.take (sure-i).toNat->abU sure tx i l=true
 | [],i,h=>by simp at h
 | c::l,i,h=>by
  by_cases hi:(i:Int)<sure
  ·obtain ⟨q,hq⟩ : ∃ q,(sure-i).toNat=q+1:=⟨(sure-i).toNat-1,by omega⟩
   rw [hq,List.take_succ_cons] at h
   unfold abU
   rcases List.mem_cons.1 h with e | h
   ·rw [<-e,decide_eq_true hi]; simp
   ·rw [Z7 (i:=i+1) (by rw [show (sure-((i+1:Nat):Int)).toNat=q by omega]; exact h),Bool.or_true]
  ·rw [show (sure-(i:Int)).toNat=0 by omega] at h; simp at h
theorem bW.backed {w:aA} (h:bW w):GI w=true:=by
 unfold GI
 refine List.all_eq_true.2 fun s hs=>List.all_eq_true.2 fun r hr=>?_
 unfold bk1
 by_cases hk:r.kind=2
 ·obtain ⟨k,hS,-⟩:=h.mem hs
  have:=(hS.2.2 r hr).2.1 hk
  unfold KV
  rw [Z7 (by rw [Int.natCast_zero,Int.sub_zero]; exact this),Bool.or_true]
 ·simp [hk]
theorem bW.whole {w:aA} (h:bW w):Ml w=true:=by
 unfold Ml
 refine List.all_eq_true.2 fun s hs=>List.all_eq_true.2 fun r hr=>?_
 unfold wh1
 by_cases hk:r.kind=1
 ·obtain ⟨k,hS,-⟩:=h.mem hs
  obtain ⟨o,ho,htx,hops⟩:=(hS.2.2 r hr).1
  obtain ⟨j,e,-,e2⟩:=GJ h ho
  rw [<-htx,e,decide_eq_false (by omega),show Int.toNat (j:Int)=j from rfl,e2,hops hk,hS.1,Dj _ fun o _=>Mj o]
  simp
 ·simp [hk]
theorem bW.promised {w:aA} (h:bW w):zf w=true:=by
 unfold zf
 refine List.all_eq_true.2 fun c hc=>?_
 unfold pr
 cases hy:c.yes with
 | false=>rfl
 | true =>
  obtain ⟨⟨o,ho,htx⟩,h2⟩:=h.log c hc
  obtain ⟨j,e,-,e2⟩:=GJ h ho
  rw [<-htx,e,decide_eq_false (by omega),show Int.toNat (j:Int)=j from rfl,e2]
  simp only [Bool.not_true,Bool.false_or,Bool.not_false,Bool.true_and]
  refine List.all_eq_true.2 fun s hs=>?_
  obtain ⟨sh,e3,r,hr,h4,h5⟩:=h2 hy o ho htx s hs
  have hlt:=(List.getElem?_eq_some_iff.1 e3).1
  have hnn:=Vu hs
  unfold pr1
  rw [decide_eq_true (by omega),show w.ay.getD s.toNat default=sh by rw [List.getD,e3]; rfl]
  have hsi:=(h.sh _ _ e3).2.1.sure
  unfold ZX
  rw [Bool.true_and,List.any_eq_true]
  refine ⟨r,?_,?_⟩
  ·have:EO sh=sh.sure.toNat:=by
    have:=alo sh
    unfold qX ow at this
    split at this <;> split at this <;> omega
   rw [this]; exact hr
  ·unfold ZW
   rw [h4,htx]
   rcases h5 with h5 | h5 <;> simp [h5]
theorem bW.safe {w:aA} (h:bW w):adN w=0:=by
 unfold adN
 rw [h.world,h.ajC,h.backed,h.whole,h.promised]
 rfl
end Go.Proofs.YtpchnmbcbcfhjaaGreat

namespace Go.Proofs.YtpchnmbcbcfhjaaGreat
open Go Go.E Go.Proofs
theorem bW.cw {w:aA} (h:bW w):CW w:=by
 have hb:=vG.of h
 have hbl:=h.yS
 have hjl:=h.Au
 have hll:=h.vK
 have hnl:=h.sI
 have hol:=h.Av
 have hsl:=hb.shl
 refine ⟨⟨by omega,fun j hj=>⟨(hb.c.jobs j hj).1,by have:=(hb.c.jobs j hj).2.2; unfold ak7; omega⟩⟩,by omega,by omega,fun s hs=>?_,by omega,fun x hx=>(hb.net x hx).1,by omega,fun x hx=>(hb.out x hx).1,by omega,fun o ho=>?_⟩
 ·obtain ⟨k,hS,-⟩:=h.mem hs
  obtain ⟨seen,-,hi,h1,h2⟩:=hS.2.1.inv
  exact ⟨by omega,by omega,by omega,fun r hr=>(adH (hi.ok r hr) (hS.2.1.ops r hr)).b⟩
 ·obtain ⟨h1,h2,-⟩:=h.Ag o ho
  exact ⟨by have:=(za h1).2; omega,fun p hp=>(h2 p hp).b⟩
theorem ajD {sh:List aH} {b:Nat} (h : ∀ s∈sh,s.log.length<=b):(nsP sh).length<=sh.length * b:=by
 induction sh with
 | nil=>simp [nsP]
 | cons s sh ih =>
  have:=ih fun x hx=>h x (by simp [hx])
  have h1:=h s (by simp)
  have e:nsP (s::sh)=(s.log.map fun r=>(r.kind,r.tx))++nsP sh:=by simp [nsP]
  rw [e,List.length_append,List.length_map,List.length_cons,Nat.add_mul,Nat.one_mul]
  omega
theorem bW.nsl {w:aA} (h:bW w):(nsP w.ay).length<=ak:=by
 have h1 : ∀ s∈w.ay,s.log.length<=300:=fun s hs=>by
  obtain ⟨k,hS,-⟩:=h.mem hs
  obtain ⟨seen,-,-,h1,-⟩:=hS.2.1.inv
  omega
 have h2:=ajD h1
 have hn:=h.n
 have hl:=h.shl
 have:w.ay.length * 300<=8 * 300:=Nat.mul_le_mul_right _ (by omega)
 unfold ak
 omega
end Go.Proofs.YtpchnmbcbcfhjaaGreat

