/- A part of the proof: texts VK1, VK2, VK3, VK4, VK5, VK6, VK7, VK8, VK9, VKA, VKB, VKC, VKD, VKE: see the last part's opening words. -/
import Derived.Test.YtpchnmbcbcfhjaaGreatA
set_option linter.unusedVariables false
set_option linter.unusedSimpArgs false
set_option linter.unnecessarySimpa false
namespace Go.Proofs.YtpchnmbcbcfhjaaGreat
open Go Go.E Go.Proofs
def Xa (k:ByteArray):List bR->Option Nat
 | []=>none
 | p::l=>if keq p.key k then some 0 else (Xa k l).map (· + 1)
theorem YJ {k:ByteArray} : ∀ {l:List bR} {j:Nat},Xa k l=some j->j<l.length
 | [],j,h=>by cases h
 | p::l,j,h=>by
  unfold Xa at h
  split at h
  ·cases h; simp
  ·cases h2:Xa k l with
   | none=>rw [h2] at h; cases h
   | some i=>rw [h2] at h; cases h; have:=YJ h2; simp; omega
theorem Xb (k:ByteArray) : ∀ l:List bR,r9 k l=(match Xa k l with | some j=>((l.getD j default).val,true) | none=>(emp,false))
 | []=>rfl
 | p::l=>by
  unfold r9 Xa
  cases hk:keq p.key k with
  | true=>rfl
  | false =>
   simp only [Bool.false_eq_true,if_false]
   rw [Xb k l]
   cases Xa k l <;> rfl
theorem Z4 (k v:ByteArray) : ∀ l:List bR,bF k v l=(Xa k l).map fun j=>l.set j ⟨(l.getD j default).key,v⟩
 | []=>rfl
 | p::l=>by
  unfold bF Xa
  cases hk:keq p.key k with
  | true=>rfl
  | false =>
   simp only [Bool.false_eq_true,if_false]
   rw [Z4 k v l]
   cases Xa k l <;> rfl
theorem Xc (m:Nat) (hm:1<=m) (k:ByteArray) : ∀ (post pre:List bR),pre.length+post.length<=1048576->∀ n,post.length<n->∀ k0 k1,
  aZ m n (.l (rP (pre++post))) (.l [[.s k]]) (.i ((pre++post).length:Nat)) (.i pre.length) k0 k1=(match Xa k post with | some j=>k0 (.i ((pre.length+j:Nat):Int)) | none=>k1)
 | [],pre,hs,n,hn,k0,k1=>by
  obtain ⟨n,rfl⟩:=aV n
  simp only [aZ,T.aj,T.ah,aM,aX,bq]
  rw [lI]
  rfl
 | x::post,pre,hs,n,hn,k0,k1=>by
  obtain ⟨n,rfl⟩:=aV n
  obtain ⟨m,rfl⟩:=aV m
  simp only [List.length_cons] at hs hn
  have ih:=Xc (m+1) hm k post (pre++[x]) (by simp; omega) n (by omega) k0 k1
  rw [aG,List.append_assoc,List.singleton_append] at ih
  have r1:bJ (.l [[T.s k]])=[T.s k]:=rfl
  simp only [aZ,Aq,T.aj,T.ah,ixP,bN pre (by omega),r1,List.getD_cons_zero,T.aI,p0,T.kH,aM,aX,bq]
  rw [bK,bK]
  unfold Xa
  cases h:keq x.key k with
  | true=>rw [ay (show (x.key.toList==k.toList)=true from h)]; rfl
  | false =>
   rw [aC (show (x.key.toList==k.toList)=false from h)]
   refine Eq.trans ih ?_
   simp only [Bool.false_eq_true,if_false]
   cases Xa k post with
   | none=>rfl
   | some j=>simp only [Option.map_some]; congr 3; simp; omega
def pI (k:ByteArray) (l:List bR):Int:=match Xa k l with | some j=>(j:Int) | none=>-1
theorem Pw {m:Nat} (hm:1048600<=m) (l:List bR) (k:ByteArray) (hl:l.length<=1048576) (K:T->An):vN m (.l (rP l)) (.s k) K=K (.i (pI k l)):=by
 obtain ⟨m,rfl⟩:=aV m
 obtain ⟨m,rfl⟩:=aV m
 have r2:bJ (.l [[T.s k]])=[T.s k]:=rfl
 simp only [vN,eB,r2,T.ah,tH,wL]
 refine (Xc m (by omega) k l [] (by simp; omega) m (by omega) _ _).trans ?_
 unfold pI
 cases Xa k l <;> simp
theorem adx (l:List bR) {j:Nat} (h:j<l.length):(rP l).getD j []=(l.getD j default).r:=by simp [List.getD,h]
theorem aeR {m:Nat} (hm:1048610<=m) (l:List bR) (k:ByteArray) (hl:l.length<=1048576) (K:T->T->An):zN m (.l (rP l)) (.s k) K=K (.s (r9 k l).1) (.b (r9 k l).2):=by
 obtain ⟨m,rfl⟩:=aV m
 simp only [zN,T.ah,qE,aX,wL]
 rw [Pw (by omega) l k hl,Xb]
 unfold pI
 cases h:Xa k l with
 | none=>rfl
 | some j =>
  have hj:=YJ h
  simp only [T.aj]
  rw [lI,bK,show Int.toNat (j:Int)=j from rfl,adx l hj]
  rfl
theorem Es (m:Nat) (hm:1048620<=m) (mp:List bR) (hp:mp.length<=1048576) : ∀ (post pre:List fB),pre.length+post.length<=1048576->∀ n,post.length<n->∀ k0 k1,
  jX m n (.l (rP mp)) (.l (rO (pre++post))) (.i ((pre++post).length:Nat)) (.i pre.length) k0 k1=cond (kE mp post) k1 (k0 (.b false))
 | [],pre,hs,n,hn,k0,k1=>by
  obtain ⟨n,rfl⟩:=aV n
  simp only [jX,T.aj,T.ah,aM,aX,wL,bq]
  rw [lI]
  rfl
 | x::post,pre,hs,n,hn,k0,k1=>by
  obtain ⟨n,rfl⟩:=aV n
  simp only [List.length_cons] at hs hn
  have ih:=Es m hm mp hp post (pre++[x]) (by simp; omega) n (by omega) k0 k1
  rw [aG,List.append_assoc,List.singleton_append] at ih
  simp only [jX,T.aj,T.ah,Wv,bN pre (by omega),o0,o1,o2,T.kH,aM,aX,wL,bq]
  rw [bK,bK]
  have e:kE mp (x::post)=(WC mp x&&kE mp post):=rfl
  rw [e]
  unfold WC
  by_cases h3:x.kind=3
  ·rw [aC (by simp [h3]),aeR (by omega) mp x.key hp]
   simp only [T.aI,T.kH,h3,bne_self_eq_false,Bool.false_or]
   rw [show (⟨#[]⟩:ByteArray)=emp from rfl]
   cases h1:((r9 x.key mp).2 == !(x.val.toList==emp.toList)) with
   | false=>rw [aC (by rfl)]; rfl
   | true =>
    rw [ay (by rfl)]
    cases h2:((r9 x.key mp).1.toList==x.val.toList) with
    | false=>rw [ay (by rfl)]; rfl
    | true=>rw [aC (by rfl)]; exact ih
  ·rw [ay (by simp [h3]),ih]
   have:(x.kind != 3)=true:=by simp [h3]
   rw [this]; rfl
theorem RG {m:Nat} (hm:1048630<=m) (mp:List bR) (l:List fB) (hp:mp.length<=1048576) (hl:l.length<=1048576) (K:T->An):yG m (.l (rP mp)) (.l (rO l)) K=K (.b (kE mp l)):=by
 obtain ⟨m,rfl⟩:=aV m
 simp only [yG,T.ah,jY,wL]
 refine (Es m (by omega) mp hp l [] (by simp; omega) m (by omega) _ _).trans ?_
 cases kE mp l <;> rfl
theorem Jd (m:Nat) (k v:ByteArray) : ∀ (post pre:List bR),pre.length+post.length<=4611686018427387->∀ n,post.length<n->∀ k0,
  kR m n (.s k) (.s v) (.i pre.length) (.l (rP (pre++post))) k0=k0 (.s k) (.s v) (.i ((pre.length+Bf k post:Nat):Int)) (.l (rP (pre++post)))
 | [],pre,hs,n,hn,k0=>by
  obtain ⟨n,rfl⟩:=aV n
  simp only [kR,T.aj,T.ah,Bf,aM,aX,wL,bq]
  rw [aC (by simp)]
  rfl
 | x::post,pre,hs,n,hn,k0=>by
  obtain ⟨n,rfl⟩:=aV n
  simp only [List.length_cons] at hs hn
  have ih:=Jd m k v post (pre++[x]) (by simp; omega) n (by omega) k0
  rw [aG,List.append_assoc,List.singleton_append] at ih
  simp only [kR,T.aj,T.ah,ixP,bN pre (by omega),Bf,p0,T.kH,aM,aX,wL,bq]
  rw [ay (by simp <;> omega),bK,bK]
  cases hk:kle x.key k with
  | true =>
   rw [ay (show (Op.bytesLess x.key.toList k.toList||(x.key.toList==k.toList))=true from hk)]
   refine ih.trans ?_
   have e:(pre++[x]).length+Bf k post=pre.length+(Bf k post+1):=by simp; omega
   rw [if_pos rfl,e]
  | false =>
   rw [aC (show (Op.bytesLess x.key.toList k.toList||(x.key.toList==k.toList))=false from hk)]
   rfl
theorem aeS {m:Nat} (hm:1048610<=m) (l:List bR) (k v:ByteArray) (hl:l.length<=1048576) (K:T->An):zO m (.l (rP l)) (.s k) (.s v) K=K (.l (rP (Yz l k v))):=by
 obtain ⟨m,rfl⟩:=aV m
 simp only [zO,T.ah,aX,wL]
 rw [Pw (by omega) l k hl]
 unfold Yz
 rw [Z4]
 unfold pI
 cases h:Xa k l with
 | none =>
  simp only [T.aj,Option.map_none]
  rw [lI]
  refine (Jd m k v l [] (by simp; omega) m (by omega) _).trans ?_
  have hc:=ME k l
  obtain ⟨m,rfl⟩:=aV m
  simp only [fJ,T.ah,T.aj,List.nil_append,List.length_nil,Nat.zero_add,show Int.toNat (Bf k l:Int)=Bf k l from rfl]
  rw [ay (by simp [au]; omega)]
  simp [rP,List.map_take,List.map_drop,bR.r]
 | some j =>
  have hj:=YJ h
  simp only [T.aj,Option.map_some]
  rw [bK,bK,show Int.toNat (j:Int)=j from rfl,aN (by simpa using hj),adx l hj]
  congr 2
  simp [rP,List.map_set,bR.r]
theorem aeT {m:Nat} (hm:1<=m) (l:List bR) (k:ByteArray) (hl:l.length<=1048576) (K:T->An):zB m (.l (rP l)) (.s k) K=K (.l (rP (WH l k))):=by
 obtain ⟨m,rfl⟩:=aV m
 simp only [zB,T.ah]
 rw [aN (by rw [tH]; unfold au; omega)]
 congr 2
 unfold zA WH rP
 rw [List.filter_map]
 rfl
theorem Et (m:Nat) (hm:1048620<=m) : ∀ (post pre:List fB) (acc:List bR),pre.length+post.length<=1048576->acc.length+post.length<=1048576->∀ n,post.length<n->∀ k0,
  iF m n (.l (rO (pre++post))) (.i ((pre++post).length:Nat)) (.i pre.length) (.l (rP acc)) k0=k0 (.l (rP (qy acc post)))
 | [],pre,acc,hs,ha,n,hn,k0=>by
  obtain ⟨n,rfl⟩:=aV n
  simp only [iF,T.aj,T.ah,aM,aX,wL,bq]
  rw [lI]
  rfl
 | x::post,pre,acc,hs,ha,n,hn,k0=>by
  obtain ⟨n,rfl⟩:=aV n
  simp only [List.length_cons] at hs hn ha
  have h1:=Pb acc x
  have ih:=Et m hm post (pre++[x]) (app1 acc x) (by simp; omega) (by omega) n (by omega) k0
  rw [aG,List.append_assoc,List.singleton_append] at ih
  simp only [iF,T.aj,T.ah,Wv,bN pre (by omega),o0,o1,o2,aM,aX,wL,bq]
  rw [bK,bK,aeS (by omega) acc x.key x.val (by omega),aeT (by omega) acc x.key (by omega)]
  simp only [T.ah]
  show _=k0 (.l (rP (qy (app1 acc x) post)))
  rw [<-ih]
  unfold app1
  by_cases h1:x.kind=1
  ·rw [ay (by simp [h1]),if_pos h1]
  ·rw [aC (by simp [h1]),if_neg h1]
   by_cases h2:x.kind=2
   ·rw [ay (by simp [h2]),if_pos h2]
   ·rw [aC (by simp [h2]),if_neg h2]
theorem RH {m:Nat} (hm:1048630<=m) (mp:List bR) (l:List fB) (hs:mp.length+l.length<=1048576) (K:T->An):uH m (.l (rP mp)) (.l (rO l)) K=K (.l (rP (qy mp l))):=by
 obtain ⟨m,rfl⟩:=aV m
 simp only [uH,T.ah,jY,wL]
 obtain ⟨q,rfl⟩ : ∃ q,m=q+1:=⟨m-1,by omega⟩
 rw [show ∀ k,bH (q+1) (.l (rP mp)) k=k (.l (rP mp)) from fun k=>by
  simp only [bH,T.ah,wL]
  rw [aN (by rw [tH]; unfold au; omega)]]
 exact (Et (q+1) (by omega) l [] mp (by simp; omega) (by omega) (q+1) (by omega) _).trans rfl
end Go.Proofs.YtpchnmbcbcfhjaaGreat

namespace Go.Proofs.YtpchnmbcbcfhjaaGreat
open Go Go.E Go.Proofs
def pK (tx:Int) (l:List bg):Nat->Option Nat
 | 0=>none
 | i+1=>if (l.getD i default).tx=tx then some i else pK tx l i
theorem Ut (l:List bg) {j:Nat} (h:j<l.length):(rR l).getD j []=(l.getD j default).r:=by simp [List.getD,h]
theorem Px (m:Nat) (tx:Int) (l:List bg) (hl:l.length<=1048576) : ∀ (i n:Nat),i<=l.length->i<n->∀ k0 k1,
  lU m n (.l (rR l)) (.i tx) (.i ((i:Int)-1)) k0 k1=match pK tx l i with | some j=>k0 (.i (j:Int)) | none=>k1
 | 0,n,hi,hn,k0,k1=>by
  obtain ⟨n,rfl⟩:=aV n
  simp only [lU,T.aj,T.ah,pK,qE,aX]
  rw [lI]
 | i+1,n,hi,hn,k0,k1=>by
  obtain ⟨n,rfl⟩:=aV n
  have ih:=Px m tx l hl i n (by omega) (by omega) k0 k1
  have e:(((i+1:Nat):Int)-1)=(i:Int):=by omega
  have hw:IntKind.i64.wrap ((i:Int)-1)=(i:Int)-1:=by rw [IntKind.wrap_i64]; omega
  rw [e]
  simp only [lU,T.aj,T.ah,pK,qE,aX]
  rw [bK,bK,show Int.toNat (i:Int)=i from rfl,Ut l (by omega),hw,rd1,ih]
  by_cases h:(l.getD i default).tx=tx
  ·rw [ay (by simpa using h),if_pos h]
  ·rw [aC (by simpa using h),if_neg h]
def L8 (tx:Int) (l:List bg):Int:=match pK tx l l.length with | some j=>(j:Int) | none=>-1
theorem Bt {m:Nat} (hm:1048590<=m) (l:List bg) (tx:Int) (hl:l.length<=1048576) (K:T->An):nK m (.l (rR l)) (.i tx) K=K (.i (L8 tx l)):=by
 obtain ⟨m,rfl⟩:=aV m
 have hw:IntKind.i64.wrap ((l.length:Int)-1)=(l.length:Int)-1:=by rw [IntKind.wrap_i64]; omega
 simp only [nK,T.ah,dW,hw,wL]
 refine (Px m tx l hl l.length m (Nat.le_refl _) (by omega) _ _).trans ?_
 unfold L8
 cases pK tx l l.length <;> rfl
theorem uM {tx:Int} {l:List bg} : ∀ {i j:Nat},pK tx l i=some j->j<i/\(l.getD j default).tx=tx
 | 0,j,h=>by cases h
 | i+1,j,h=>by
  unfold pK at h
  split at h
  ·cases h; exact ⟨Nat.lt_succ_self _,by assumption⟩
  ·have:=uM h; exact ⟨by omega,this.2⟩
theorem Py {tx:Int} {l:List bg} : ∀ {i:Nat},pK tx l i=none->∀ j,j<i->(l.getD j default).tx≠tx
 | 0,h,j,hj=>absurd hj (Nat.not_lt_zero _)
 | i+1,h,j,hj=>by
  unfold pK at h
  split at h
  ·cases h
  ·rename_i hne
   by_cases e:j=i
   ·subst e; exact hne
   ·exact Py h j (by omega)
theorem xH {l:List bg} {j:Nat} (h:j<l.length):l.getD j default∈l:=by simp [List.getD,h]
theorem Pz {tx:Int} {l:List bg} : pK tx l l.length=none ↔ ∀ r∈l,r.tx≠tx:=by
 constructor
 ·intro h r hr
  obtain ⟨j,hj,rfl⟩:=List.getElem_of_mem hr
  have:=Py h j hj
  simpa [List.getD,hj] using this
 ·intro h
  cases h2:pK tx l l.length with
  | none=>rfl
  | some j =>
   obtain ⟨h3,h4⟩:=uM h2
   exact absurd h4 (h _ (xH h3))
theorem Uu {tx:Int} {l:List bg} (hd:l.Pairwise fun a b=>a.tx≠b.tx):pK tx l l.length=nW tx l:=by
 cases h2:pK tx l l.length with
 | none=>exact (Bq.2 (Pz.1 h2)).symm
 | some j =>
  obtain ⟨h3,h4⟩:=uM h2
  cases h5:nW tx l with
  | none=>exact absurd h4 (Bq.1 h5 _ (xH h3))
  | some i =>
   have h6:=tK h5
   have h7:=Bp h5
   congr 1
   rw [List.pairwise_iff_getElem] at hd
   rcases Nat.lt_trichotomy i j with h | h | h
   ·exact absurd (by simpa [List.getD,h3,h6] using h7.trans h4.symm) (hd i j h6 h3 h)
   ·exact h.symm
   ·exact absurd (by simpa [List.getD,h3,h6] using h4.trans h7.symm) (hd j i h3 h6 h)
theorem ady (a b:ByteArray):keq a b=keq b a:=by
 unfold keq
 rw [Bool.eq_iff_iff]
 simp only [beq_iff_eq]
 exact ⟨Eq.symm,Eq.symm⟩
theorem adz (m:Nat) (x2 x3 x4 x5 x6 x7 bW mh x0:T) (o:fB) : ∀ (post pre:List fB) (x1:Nat),pre.length+post.length<=1048576->∀ n,post.length<n->∀ k0 k1,
  iq m n x0 (.i (x1:Int)) x2 x3 x4 x5 x6 x7 (.l (rO (pre++post))) (.i ((pre++post).length:Nat)) (.i pre.length) bW (.s o.key) mh k0 k1=cond (I6 post o) (k0 (.b true)) (k1 x0 x2 x3 x4 x5 x6 x7)
 | [],pre,x1,hs,n,hn,k0,k1=>by
  obtain ⟨n,rfl⟩:=aV n
  simp only [iq,T.aj,T.ah,aM,aX,bq]
  rw [lI]
  rfl
 | x::post,pre,x1,hs,n,hn,k0,k1=>by
  obtain ⟨n,rfl⟩:=aV n
  simp only [List.length_cons] at hs hn
  have ih:=adz m x2 x3 x4 x5 x6 x7 bW mh x0 o post (pre++[x]) x1 (by simp; omega) n (by omega) k0 k1
  rw [aG,List.append_assoc,List.singleton_append] at ih
  have hx:(x1:Int).toNat=x1:=rfl
  simp only [iq,T.aj,T.ah,Wv,bN pre (by omega),o1,T.kH,hx,aM,aX,bq]
  rw [bK,bK]
  show _=cond (keq o.key x.key||I6 post o) _ _
  rw [ady]
  cases h:keq x.key o.key with
  | true=>rw [ay (show (x.key.toList==o.key.toList)=true from h)]; rfl
  | false=>rw [aC (show (x.key.toList==o.key.toList)=false from h),ih]; rfl
theorem adA (m:Nat) (x1 x2 x3:T) (ops:List fB) (h3:ops.length<=1048576) : ∀ (oq op:List fB),op.length+oq.length<=1048576->∀ n,oq.length+ops.length+1<n->∀ k0 k1,
  iw m n (.l (rO ops)) x1 x2 x3 (.l (rO (op++oq))) (.i ((op++oq).length:Nat)) (.i op.length) k0 k1=cond (oq.any (I6 ops)) (k0 (.b true)) (k1 (.l (rO ops)) x1 x2 x3)
 | [],op,hs,n,hn,k0,k1=>by
  obtain ⟨n,rfl⟩:=aV n
  simp only [iw,T.aj,T.ah,aM,aX,bq]
  rw [lI]
  rfl
 | o::oq,op,hs,n,hn,k0,k1=>by
  obtain ⟨n,rfl⟩:=aV n
  simp only [List.length_cons] at hn hs
  have ih:=adA m x1 x2 x3 ops h3 oq (op++[o]) (by simp; omega) n (by omega) k0 k1
  rw [aG,List.append_assoc,List.singleton_append] at ih
  simp only [iw,T.aj,T.ah,Wv,o0,o1,o2,jY,aM,aX,bq]
  rw [bK,bK]
  have l2:=adz m x1 x2 x3 (.l (rO (op++o::oq))) (.i ((op++o::oq).length:Nat)) (.i op.length) (.i o.kind) (.s o.val) (.l (rO ops)) o ops [] 0 (by simpa using h3) n (by omega) k0
  simp only [List.nil_append,List.length_nil,Int.natCast_zero] at l2
  refine (l2 _).trans ?_
  simp only [T.aj,bN op (by omega),List.any_cons]
  rw [ih]
  cases I6 ops o <;> rfl
theorem adB (m:Nat) (ops:List fB) (h3:ops.length<=1048576) : ∀ (hq hp:List bg),(∀ r∈hq,r.ops.length<=1048576)->hp.length+hq.length<=1048576->∀ n,hq.length+ops.length+1048580<n->∀ k0 k1,
  iy m n (.l (rO ops)) (.l (rR (hp++hq))) (.i ((hp++hq).length:Nat)) (.i hp.length) k0 k1=cond (gT hq ops) (k0 (.b true)) k1
 | [],hp,ho,hs,n,hn,k0,k1=>by
  obtain ⟨n,rfl⟩:=aV n
  simp only [iy,T.aj,T.ah,aM,aX,bq]
  rw [lI]
  rfl
 | r::hq,hp,ho,hs,n,hn,k0,k1=>by
  obtain ⟨n,rfl⟩:=aV n
  simp only [List.length_cons] at hn hs
  have hr:=ho r (by simp)
  have ih:=adB m ops h3 hq (hp++[r]) (fun q hq=>ho q (by simp [hq])) (by simp; omega) n (by omega) k0 k1
  rw [aG,List.append_assoc,List.singleton_append] at ih
  simp only [iy,T.aj,T.ah,UG,r2,jY,aM,aX,bq]
  rw [bK,bK]
  have l1:=adA m (.l (rR (hp++r::hq))) (.i ((hp++r::hq).length:Nat)) (.i hp.length) ops h3 r.ops [] (by simpa using hr) n (by omega) k0
  simp only [List.nil_append,List.length_nil,Int.natCast_zero] at l1
  refine (l1 _).trans ?_
  simp only [T.aj,bN hp (by omega)]
  show cond (Pe ops r) _ _=cond (Pe ops r||gT hq ops) _ _
  rw [ih]
  cases Pe ops r <;> rfl
theorem KZ {m:Nat} (hm:3200000<=m) (held:List bg) (ops:List fB) (h1:held.length<=1048576) (h2 : ∀ r∈held,r.ops.length<=1048576) (h3:ops.length<=1048576) (K:T->An) :
  pF m (.l (rR held)) (.l (rO ops)) K=K (.b (gT held ops)):=by
 obtain ⟨m,rfl⟩:=aV m
 simp only [pF,T.ah,dW,wL]
 refine (adB m ops h3 held [] h2 (by simpa using h1) m (by omega) _ _).trans ?_
 cases gT held ops <;> rfl
theorem abg {m:Nat} (hm:1048620<=m) (r:bg) (h:Gt r) (K:T->An):CP m (.i r.kind) (.i r.tx) (.l (rO r.ops)) K=K (.b (jB r)):=by
 obtain ⟨m,rfl⟩:=aV m
 have e0:(((rO r.ops).length:Int)==0)=(r.ops.length==0):=by rw [jY]; cases r.ops <;> simp <;> omega
 have adC : ∀ k,kQ m (.i r.tx) k=k (.b (decide (1<=r.tx/\r.tx<=1000000))):=fun k=>by
  obtain ⟨q,rfl⟩ : ∃ q,m=q+1:=⟨m-1,by omega⟩
  simp only [kQ]
  exact gD (by omega) _ _ _ _
 simp only [CP,T.ah,T.aj,adC,T.aI,e0,wL]
 unfold jB
 by_cases k1:r.kind=1
 ·rw [ay (by simp [k1]),if_pos k1,yI (by omega) r.ops h.ops]
  cases decide (1<=r.tx/\r.tx<=1000000) <;> rfl
 ·rw [aC (by simp [k1]),if_neg k1]
  by_cases k2:r.kind=2
  ·rw [ay (by simp [k2]),if_pos (.inl k2)]
   cases decide (1<=r.tx/\r.tx<=1000000) <;> rfl
  ·rw [aC (by simp [k2])]
   by_cases k3:r.kind=3
   ·rw [ay (by simp [k3]),if_pos (.inr k3)]
    cases decide (1<=r.tx/\r.tx<=1000000) <;> rfl
   ·rw [aC (by simp [k3]),if_neg (by simp [k2,k3])]
    cases decide (1<=r.tx/\r.tx<=1000000) <;> rfl
end Go.Proofs.YtpchnmbcbcfhjaaGreat

namespace Go.Proofs.YtpchnmbcbcfhjaaGreat
open Go Go.E Go.Proofs
theorem vQ {m:Nat} (hm:1<=m) (l:List fB) (h:l.length<=1048576) (K:T->An):aQ m (.l (rO l)) K=K (.l (rO l)):=by
 obtain ⟨m,rfl⟩:=aV m
 simp only [aQ,T.ah,wL]
 rw [aN (by rw [jY]; unfold au; omega)]
theorem Uv {m:Nat} (hm:1<=m) (l:List bg) (j:Nat) (hj:j<l.length) (K:T->An):aU m (.l (rR l)) (.i j) (.i ((j:Int)+1)) K=K (.l (rR (l.take j++l.drop (j+1)))):=by
 obtain ⟨m,rfl⟩:=aV m
 simp only [aU,T.ah,T.aj,dW]
 rw [bK,show Int.toNat (j:Int)=j from rfl,show Int.toNat ((j:Int)+1)=j+1 from rfl]
 simp [rR,List.map_take,List.map_drop]
theorem adD {pre:List bg} {s:St} (hI:RInv pre s) (tx:Int):decide (L8 tx pre>=0)=decide (tx∈s.seen):=by
 apply decide_eq_decide.2
 rw [hI.seen]
 unfold L8
 cases h:pK tx pre pre.length with
 | none =>
  have:=Pz.1 h
  constructor
  ·intro h; simp at h
  ·rintro ⟨r,h1,h2⟩; exact absurd h2 (this r h1)
 | some j =>
  obtain ⟨h3,h4⟩:=uM h
  exact ⟨fun _=>⟨_,xH h3,h4⟩,fun _=>by simp⟩
theorem aeU {m:Nat} (hm:3200010<=m) {pre:List bg} {s:St} (hI:RInv pre s) (hs:BSt s) (hp:pre.length<=1048576) {r:bg} (hr:Gt r) (hok:jB r=true) (J:Bool->List (List T)->List (List T)->An) (k0:T->T->T->An) (k1:T->T->T->T->An)
  (h0 : ∀ b p q,k0 (.b b) (.l p) (.l q)=J b p q) (h1 : ∀ b z p q,k1 (.b b) z (.l p) (.l q)=J b p q) :
  qO m (.l (rP s.map)) (.l (rR s.held)) (.i r.kind) (.i r.tx) (.l (rO r.ops)) (.l (rR pre)) k0 k1=J (jC s r).1 (rP (jC s r).2.map) (rR (jC s r).2.held):=by
 obtain ⟨m,rfl⟩:=aV m
 have hm1:=hs.map
 have hh1:=hs.held.1
 have hw : ∀ j:Nat,j<=400000->IntKind.i64.wrap ((j:Int)+1)=(j:Int)+1:=fun j hj=>by rw [IntKind.wrap_i64]; omega
 simp only [qO,T.ah,T.aj,aM,aX,wL,bq]
 rw [Bt (by omega) pre r.tx hp]
 simp only [T.aj,adD hI]
 unfold jC
 rw [if_neg (by rw [hok]; decide)]
 by_cases k1':r.kind=1
 ·rw [ay (by simp [k1']),if_pos k1',KZ (by omega) s.held r.ops (by omega) (fun q hq=>by have:=(hs.held.2 q hq).1; omega) (by have:=hr.1; omega),RG (by omega) s.map r.ops (by omega) (by have:=hr.1; omega),vQ (by omega) r.ops (by have:=hr.1; omega)]
  simp only [T.aI,T.ah]
  rw [aN (by rw [dW]; unfold au; omega)]
  have e:(rR s.held++[[T.i 1,T.i r.tx,T.l (rO r.ops)]])=rR (s.held++[r]):=by simp [rR,bg.r,k1']
  rw [e]
  cases decide (r.tx∈s.seen) with
  | true=>simp only [Bool.true_or,if_true]; rw [aC (by decide),h0]
  | false =>
   rw [ay (by decide)]
   cases gT s.held r.ops with
   | true=>simp only [Bool.or_true,Bool.true_or,if_true]; rw [aC (by decide),h0]
   | false =>
    rw [ay (by decide)]
    cases kE s.map r.ops with
    | false=>rw [ay (by decide),h0]; rfl
    | true=>rw [aC (by decide),h0]; rfl
 ·rw [aC (by simp [k1']),if_neg k1',Bt (by omega) s.held r.tx (by omega)]
  unfold L8
  rw [Uu hI.dist]
  cases hf:nW r.tx s.held with
  | none =>
   simp only [T.aj]
   rw [bK]
   by_cases k3:r.kind=3
   ·rw [ay (by simp [k3]),h0]; simp [k3]
   ·rw [aC (by simp [k3]),h0]; rw [show (r.kind==3)=false by simp [k3]]; rfl
  | some j =>
   have hj:=tK hf
   have hops:(s.held.getD j default).ops.length<=400000:=(hs.held.2 _ (xH hj)).1
   simp only [T.aj,hw j (by omega),dW]
   rw [lI,Uv (by omega) s.held j hj,show Int.toNat (j:Int)=j from rfl,Ut s.held hj]
   simp only [r2,T.ah]
   rw [RH (by omega) s.map (s.held.getD j default).ops (by omega)]
   simp only [T.ah,Uv (by omega:1<=m) s.held j hj]
   by_cases k2:r.kind=2
   ·rw [ay (by simp [k2]),bK,aN hj,h1,if_pos k2,tH,aeF]
   ·rw [aC (by simp [k2]),h0,if_neg k2,tH,aeF]
theorem Dn (m:Nat) (hm:3200010<=m) : ∀ (post pre:List bg) (k:Nat) (s:St),RInv pre s->GSt k s->k+post.length<=20000->(∀ r∈post,Gt r)->pre.length+post.length<=1048576->∀ n,post.length<n->∀ k0 k1,
  eZ m n (.l (rR (pre++post))) (.i 0) (.l (rR (pre++post))) (.i ((pre++post).length:Nat)) (.i pre.length) (.l (rP s.map)) (.l (rR s.held)) k0 k1=match dX s post with
   | none=>k0 (.b false) (.l []) (.l [])
   | some s'=>k1 (.i 0) (.l (rP s'.map)) (.l (rR s'.held))
 | [],pre,k,s,hI,hg,hk,hr,hs,n,hn,k0,k1=>by
  obtain ⟨n,rfl⟩:=aV n
  simp only [eZ,T.aj,T.ah,dX,aM,aX,wL,bq]
  rw [lI]
  rfl
 | x::post,pre,k,s,hI,hg,hk,hr,hs,n,hn,k0,k1=>by
  obtain ⟨n,rfl⟩:=aV n
  simp only [List.length_cons] at hs hn hk
  have hx:=hr x (by simp)
  simp only [eZ,T.aj,T.ah,UG,bN pre (by omega),r0,r1,r2,dW,aM,aX,wL,bq]
  rw [bK,bK,abg (by omega) x hx]
  simp only [T.aI]
  have htk:(rR (pre++x::post)).take (Int.toNat (pre.length:Int))=rR pre:=by
   rw [show Int.toNat (pre.length:Int)=pre.length from rfl]
   simp [rR]
  unfold dX
  cases hok:jB x with
  | false =>
   have:(jC s x).1=false:=by unfold jC; rw [if_pos hok]
   rw [this,aC (by decide)]; rfl
  | true =>
   rw [ay (by decide),bK,bK,htk]
   refine (aeU (by omega) hI (hg.b (by omega)) (by omega) hx hok (fun b p q=>cond (!b) (k0 (.b false) (.l []) (.l [])) (eZ m n (.l (rR (pre++x::post))) (T.i (((0:Int).toNat:Nat):Int)) (.l (rR (pre++x::post))) (.i ((pre++x::post).length:Nat)) (T.i ((pre.length:Int)+1)) (T.l p) (T.l q) k0 k1)) _ _ (fun b p q=>rfl) (fun b z p q=>rfl)).trans ?_
   cases h:(jC s x).1 with
   | false=>rfl
   | true =>
    have hI':=hI.step hok (EX h).2
    have ih:=Dn m hm post (pre++[x]) (k+1) (jC s x).2 hI' (ada hg hx.2) (by omega) (fun r h=>hr r (by simp [h])) (by simp; omega) n (by omega) k0 k1
    rw [aG,List.append_assoc,List.singleton_append] at ih
    exact ih
theorem aiJ:RInv [] st0:=⟨fun x=>by simp [st0],fun h hh=>(nomatch hh),fun r hr=>(nomatch hr),fun r hr=>(nomatch hr),List.Pairwise.nil⟩
theorem YK {m:Nat} (hm:3200020<=m) (l:List bg) (hl:l.length<=10000) (hr : ∀ r∈l,Gt r) (K:T->T->T->An) :
  qP m (.l (rR l)) K=K (.l (rP (mapOf (cO l)))) (.l (rR (CZ (cO l)))) (.b (cO l).isSome):=by
 obtain ⟨m,rfl⟩:=aV m
 simp only [qP,T.ah,dW,wL]
 refine (Dn m (by omega) l [] 0 st0 aiJ ⟨by simp [st0],by simp [st0],by simp [st0],by simp [st0]⟩ (by omega) hr (by simp; omega) m (by omega) _ _).trans ?_
 unfold cO
 cases dX st0 l <;> rfl
end Go.Proofs.YtpchnmbcbcfhjaaGreat

namespace Go.Proofs.YtpchnmbcbcfhjaaGreat
open Go Go.E Go.Proofs
def J4 {α:Type} (f:α->α->Bool):List α->List α->Bool
 | [],[]=>true
 | x::a,y::b=>f x y&&J4 f a b
 | _,_=>false
def yN (p q:bR):Bool:=keq p.key q.key&&(keq p.val q.val&&true)
def Je (o q:fB):Bool:=(o.kind==q.kind)&&(keq o.key q.key&&(keq o.val q.val&&true))
def Dp (r q:bg):Bool:=(r.kind==q.kind)&&((r.tx==q.tx)&&J4 Je r.ops q.ops)
theorem Z5 {α:Type} {f:α->α->Bool} : ∀ {a b:List α},J4 f a b=true->a.length=b.length
 | [],[],_=>rfl
 | x::a,y::b,h=>by
  unfold J4 at h
  simp only [Bool.and_eq_true] at h
  simp [Z5 h.2]
 | [],_::_,h=>by cases h
 | _::_,[],h=>by cases h
theorem Bu {α:Type} {f:α->α->Bool} : ∀ (a:List α),(∀ x∈a,f x x=true)->J4 f a a=true
 | [],_=>rfl
 | x::a,h=>by
  unfold J4
  rw [h x (by simp),Bu a fun y hy=>h y (by simp [hy])]
  rfl
theorem Xd (a:ByteArray):keq a a=true:=by unfold keq; simp
theorem J5 (o:fB):Je o o=true:=by unfold Je; simp [Xd]
theorem Xe (o:bR):yN o o=true:=by unfold yN; simp [Xd]
theorem YL (r:bg):Dp r r=true:=by unfold Dp; simp [Bu r.ops fun o _=>J5 o]
theorem akK (pre pre':List bR) (x:bR) (post:List bR) (h:pre.length=pre'.length):(rP (pre'++x::post)).getD (Int.toNat (pre.length:Int)) []=x.r:=by rw [h]; exact ixP _ _ _
theorem akL (pre pre':List fB) (x:fB) (post:List fB) (h:pre.length=pre'.length):(rO (pre'++x::post)).getD (Int.toNat (pre.length:Int)) []=x.r:=by rw [h]; exact Wv _ _ _
theorem akM (pre pre':List bg) (x:bg) (post:List bg) (h:pre.length=pre'.length):(rR (pre'++x::post)).getD (Int.toNat (pre.length:Int)) []=x.r:=by rw [h]; exact UG _ _ _
theorem YM {α β:Type} {a:List α} {b:List β} (h:a.length≠b.length):((a.length:Int) != (b.length:Int))=true:=by simp; omega
theorem YN {α β:Type} {a:List α} {b:List β} (h:a.length=b.length):((a.length:Int) != (b.length:Int))=false:=by simp [h]
theorem RJ (m:Nat) : ∀ (post post' pre pre':List bR),pre.length=pre'.length->post.length=post'.length->pre.length+post.length<=1048576->∀ n,post.length<n->∀ k0 k1,
  bG m n (.l (rP (pre++post))) (.l (rP (pre'++post'))) (.i ((pre++post).length:Nat)) (.i pre.length) k0 k1=cond (J4 yN post post') k1 (k0 (.b false))
 | [],[],pre,pre',h1,h2,hs,n,hn,k0,k1=>by
  obtain ⟨n,rfl⟩:=aV n
  simp only [bG,T.aj,T.ah,aM,aX,bq]
  rw [lI]
  rfl
 | x::post,y::post',pre,pre',h1,h2,hs,n,hn,k0,k1=>by
  obtain ⟨n,rfl⟩:=aV n
  simp only [List.length_cons] at hs hn h2
  have ih:=RJ m post post' (pre++[x]) (pre'++[y]) (by simp [h1]) (by omega) (by simp; omega) n (by omega) k0 k1
  rw [aG,List.append_assoc,List.singleton_append,List.append_assoc,List.singleton_append] at ih
  simp only [bG,T.aj,T.ah,ixP,akK pre pre' y post' h1,bN pre (by omega),p0,p1,T.kH,aM,aX,bq]
  rw [bK,bK,bK,ih]
  show cond (!(yN x y)) _ _=cond (yN x y&&J4 yN post post') _ _
  cases yN x y <;> rfl
 | [],_::_,_,_,_,h2,_,_,_,_,_=>by simp at h2
 | _::_,[],_,_,_,h2,_,_,_,_,_=>by simp at h2
theorem YO {α:Type} {f:α->α->Bool} {a b:List α} (h:a.length≠b.length):J4 f a b=false:=by
 cases h2:J4 f a b with
 | false=>rfl
 | true=>exact absurd (Z5 h2) h
theorem akN {m:Nat} (hm:1048590<=m) (a b:List bR) (ha:a.length<=1048576) (K:T->An):dP m (.l (rP a)) (.l (rP b)) K=K (.b (J4 yN a b)):=by
 obtain ⟨m,rfl⟩:=aV m
 simp only [dP,T.ah,tH,wL]
 by_cases h:a.length=b.length
 ·rw [aC (YN h)]
  refine (RJ m a b [] [] rfl h (by simpa using ha) m (by omega) _ _).trans ?_
  cases J4 yN a b <;> rfl
 ·rw [ay (YM h),YO h]
theorem RN (m:Nat) : ∀ (post post' pre pre':List fB),pre.length=pre'.length->post.length=post'.length->pre.length+post.length<=1048576->∀ n,post.length<n->∀ k0 k1,
  bP m n (.l (rO (pre++post))) (.l (rO (pre'++post'))) (.i ((pre++post).length:Nat)) (.i pre.length) k0 k1=cond (J4 Je post post') k1 (k0 (.b false))
 | [],[],pre,pre',h1,h2,hs,n,hn,k0,k1=>by
  obtain ⟨n,rfl⟩:=aV n
  simp only [bP,T.aj,T.ah,aM,aX,bq]
  rw [lI]
  rfl
 | x::post,y::post',pre,pre',h1,h2,hs,n,hn,k0,k1=>by
  obtain ⟨n,rfl⟩:=aV n
  simp only [List.length_cons] at hs hn h2
  have ih:=RN m post post' (pre++[x]) (pre'++[y]) (by simp [h1]) (by omega) (by simp; omega) n (by omega) k0 k1
  rw [aG,List.append_assoc,List.singleton_append,List.append_assoc,List.singleton_append] at ih
  simp only [bP,T.aj,T.ah,Wv,akL pre pre' y post' h1,bN pre (by omega),o0,o1,o2,T.kH,aM,aX,bq]
  rw [bK,bK,bK,ih]
  show cond (!(Je x y)) _ _=cond (Je x y&&J4 Je post post') _ _
  cases Je x y <;> rfl
 | [],_::_,_,_,_,h2,_,_,_,_,_=>by simp at h2
 | _::_,[],_,_,_,h2,_,_,_,_,_=>by simp at h2
theorem agW {m:Nat} (hm:1048590<=m) (a b:List fB) (ha:a.length<=1048576) (K:T->An):bX m (.l (rO a)) (.l (rO b)) K=K (.b (J4 Je a b)):=by
 obtain ⟨m,rfl⟩:=aV m
 simp only [bX,T.ah,jY,wL]
 by_cases h:a.length=b.length
 ·rw [aC (YN h)]
  refine (RN m a b [] [] rfl h (by simpa using ha) m (by omega) _ _).trans ?_
  cases J4 Je a b <;> rfl
 ·rw [ay (YM h),YO h]
theorem Xf {m:Nat} (hm:1048600<=m) (r q:bg) (h:r.ops.length<=1048576) (K:T->An):w9 m (.i r.kind) (.i r.tx) (.l (rO r.ops)) (.i q.kind) (.i q.tx) (.l (rO q.ops)) K=K (.b (Dp r q)):=by
 obtain ⟨m,rfl⟩:=aV m
 simp only [w9,T.ah,T.aj,wL]
 rw [agW (by omega) r.ops q.ops h]
 simp only [T.aI]
 unfold Dp
 cases h1:r.kind==q.kind with
 | false=>rfl
 | true =>
  cases h2:r.tx==q.tx with
  | false=>rfl
  | true=>rfl
theorem RO (m:Nat) (hm:1048600<=m) : ∀ (post post' pre pre':List bg),pre.length=pre'.length->post.length=post'.length->pre.length+post.length<=1048576->(∀ r∈post,r.ops.length<=1048576)->∀ n,post.length<n->∀ k0 k1,
  aJ m n (.l (rR (pre'++post'))) (.l (rR (pre++post))) (.i ((pre++post).length:Nat)) (.i pre.length) k0 k1=cond (J4 Dp post post') k1 (k0 (.b false))
 | [],[],pre,pre',h1,h2,hs,ho,n,hn,k0,k1=>by
  obtain ⟨n,rfl⟩:=aV n
  simp only [aJ,T.aj,T.ah,aM,aX,wL,bq]
  rw [lI]
  rfl
 | x::post,y::post',pre,pre',h1,h2,hs,ho,n,hn,k0,k1=>by
  obtain ⟨n,rfl⟩:=aV n
  simp only [List.length_cons] at hs hn h2
  have ih:=RO m hm post post' (pre++[x]) (pre'++[y]) (by simp [h1]) (by omega) (by simp; omega) (fun r hr=>ho r (by simp [hr])) n (by omega) k0 k1
  rw [aG,List.append_assoc,List.singleton_append,List.append_assoc,List.singleton_append] at ih
  simp only [aJ,T.aj,T.ah,UG,akM pre pre' y post' h1,bN pre (by omega),r0,r1,r2,aM,aX,wL,bq]
  rw [bK,bK,bK,Xf hm x y (ho x (by simp)),ih]
  simp only [T.aI]
  show cond (!(Dp x y)) _ _=cond (Dp x y&&J4 Dp post post') _ _
  cases Dp x y <;> rfl
 | [],_::_,_,_,_,h2,_,_,_,_,_,_=>by simp at h2
 | _::_,[],_,_,_,h2,_,_,_,_,_,_=>by simp at h2
theorem akO {m:Nat} (hm:1048610<=m) (a b:List bg) (ha:a.length<=1048576) (ho : ∀ r∈a,r.ops.length<=1048576) (K:T->An):bE m (.l (rR a)) (.l (rR b)) K=K (.b (J4 Dp a b)):=by
 obtain ⟨m,rfl⟩:=aV m
 simp only [bE,T.ah,dW,wL]
 by_cases h:a.length=b.length
 ·rw [aC (YN h)]
  refine (RO m (by omega) a b [] [] rfl h (by simpa using ha) ho m (by omega) _ _).trans ?_
  cases J4 Dp a b <;> rfl
 ·rw [ay (YM h),YO h]
end Go.Proofs.YtpchnmbcbcfhjaaGreat

namespace Go.Proofs.YtpchnmbcbcfhjaaGreat
open Go Go.E Go.Proofs
theorem adE : ∀ {l:List bg} {k:Nat} {s s':St},GSt k s->(∀ r∈l,∀ o∈r.ops,BOp o)->dX s l=some s'->GSt (k+l.length) s'
 | [],k,s,s',h,ho,e=>by unfold dX at e; cases e; exact h
 | r::l,k,s,s',h,ho,e=>by
  unfold dX at e
  split at e
  ·have:=adE (ada h (ho r (by simp))) (fun q hq=>ho q (by simp [hq])) e
   rw [List.length_cons]
   exact this.mono (by omega)
  ·cases e
def yO (s:aF):Bool:=decide (0<=s.id/\s.id<=7)&&(decide (0<=s.sure/\s.sure<=(s.log.length:Int))&&(decide (s.log.length+s.held.length<=300)&&((cO s.log).isSome&&(J4 yN (mapOf (cO s.log)) s.map&&J4 Dp (CZ (cO s.log)) s.held))))
structure YP (s:aF):Prop where
 log:s.log.length<=1048576
 held:s.held.length<=1048576
 map:s.map.length<=1048576
 recs : ∀ r∈s.log,Gt r
theorem YQ {l:List bg} (hl:l.length<=300) (hr : ∀ r∈l,Gt r):(mapOf (cO l)).length<=1048576/\(CZ (cO l)).length<=1048576 /\ ∀ r∈CZ (cO l),r.ops.length<=1048576:=by
 cases h:cO l with
 | none=>exact ⟨by simp [mapOf],by simp [CZ],fun r hr=>(nomatch hr)⟩
 | some s =>
  have:=adE (k:=0) (s:=st0) ⟨by simp [st0],by simp [st0],by simp [st0],by simp [st0]⟩ (fun r h=>(hr r h).2) h
  refine ⟨by show s.map.length<=_; have:=this.map; omega,by show s.held.length<=_; have:=this.Bg; omega,fun r hr=>?_⟩
  have:=(this.held r hr).1
  omega
theorem abh {m:Nat} (hm:3200100<=m) (s:aF) (h:YP s) (K:T->An):xg m (.i s.id) (.l (rR s.log)) (.i s.sure) (.l (rP s.map)) (.l (rR s.held)) K=K (.b (yO s)):=by
 obtain ⟨m,rfl⟩:=aV m
 have hl:=h.log
 have hh:=h.held
 have hw:IntKind.i64.wrap ((s.log.length:Int)+(s.held.length:Int))=(s.log.length:Int)+(s.held.length:Int):=by rw [IntKind.wrap_i64]; omega
 have hid : ∀ k,uG m (.i s.id) k=k (.b (decide (0<=s.id/\s.id<=7))):=fun k=>by
  obtain ⟨q,rfl⟩ : ∃ q,m=q+1:=⟨m-1,by omega⟩
  simp only [uG]
  exact gD (by omega) _ _ _ _
 simp only [xg,jn,T.ah,T.aj,hid,dW,hw,wL]
 rw [gD (by omega)]
 simp only [T.aI]
 unfold yO
 cases decide (0<=s.id/\s.id<=7) with
 | false=>rfl
 | true =>
  rw [ay (by decide)]
  cases decide (0<=s.sure/\s.sure<=(s.log.length:Int)) with
  | false=>rfl
  | true =>
   rw [ay (by decide)]
   by_cases h3:s.log.length+s.held.length<=300
   ·obtain ⟨b1,b2,b3⟩:=YQ (l:=s.log) (by omega) h.recs
    rw [lI,YK (by omega) s.log (by omega) h.recs,decide_eq_true h3]
    simp only [T.aI,T.ah,akN (show 1048590<=m by omega) _ s.map b1,akO (show 1048610<=m by omega) _ s.held b2 b3]
    cases (cO s.log).isSome with
    | false=>rfl
    | true=>cases J4 yN (mapOf (cO s.log)) s.map <;> rfl
   ·rw [bK,decide_eq_false h3]; rfl
def EZ (x:bB):Bool:=decide (0<=x.bQ/\x.bQ<=7)&&(decide (1<=x.tx/\x.tx<=1000000)&&(if x.kind=1 then gF x.ops && !x.yes else if x.kind=2\/x.kind=3 then x.ops.length==0 else if x.kind=4 then (x.ops.length==0) && !x.yes else false))
theorem adF {m:Nat} (hm:1048700<=m) (x:bB) (h:qx x.ops) (K:T->An):zP m (.i x.kind) (.i x.bQ) (.i x.tx) (.l (rO x.ops)) (.b x.yes) K=K (.b (EZ x)):=by
 obtain ⟨m,rfl⟩:=aV m
 have e0:(((rO x.ops).length:Int)==0)=(x.ops.length==0):=by rw [jY]; cases x.ops <;> simp <;> omega
 have hid : ∀ k,uG m (.i x.bQ) k=k (.b (decide (0<=x.bQ/\x.bQ<=7))):=fun k=>by
  obtain ⟨q,rfl⟩ : ∃ q,m=q+1:=⟨m-1,by omega⟩
  simp only [uG]
  exact gD (by omega) _ _ _ _
 have adC : ∀ k,kQ m (.i x.tx) k=k (.b (decide (1<=x.tx/\x.tx<=1000000))):=fun k=>by
  obtain ⟨q,rfl⟩ : ∃ q,m=q+1:=⟨m-1,by omega⟩
  simp only [kQ]
  exact gD (by omega) _ _ _ _
 simp only [zP,jn,T.ah,T.aj,hid,adC,T.aI,e0,wL]
 rw [yI (by omega) x.ops h]
 simp only [T.aI]
 unfold EZ
 cases decide (0<=x.bQ/\x.bQ<=7) with
 | false=>rfl
 | true =>
  rw [ay (by decide)]
  cases decide (1<=x.tx/\x.tx<=1000000) with
  | false=>rfl
  | true =>
   rw [aC (by decide),Bool.true_and,Bool.true_and]
   by_cases k1:x.kind=1
   ·rw [ay (by simp [k1]),if_pos k1]; cases gF x.ops <;> rfl
   ·rw [aC (by simp [k1]),if_neg k1]
    by_cases k2:x.kind=2
    ·rw [ay (by simp [k2]),if_pos (.inl k2)]; rfl
    ·rw [aC (by simp [k2])]
     by_cases k3:x.kind=3
     ·rw [if_pos (.inr k3),ay (by simp [k3])]
     ·rw [if_neg (by simp [k2,k3]),aC (by simp [k3])]
      by_cases k4:x.kind=4
      ·rw [ay (by simp [k4]),if_pos k4]; cases x.ops.length==0 <;> rfl
      ·rw [aC (by simp [k4]),if_neg k4]
end Go.Proofs.YtpchnmbcbcfhjaaGreat

namespace Go.Proofs.YtpchnmbcbcfhjaaGreat
open Go Go.E Go.Proofs
abbrev xw (w:aB):List T:=[.i w.c.n,.i w.c.life,.i w.c.next,.l (rJ w.c.jobs),.l (rC w.c.log),.i w.c.sure,.l (rS w.av),.l (rW w.net),.l (rW w.outs),.l (rB w.begun)]
structure CW (w:aB):Prop where
 jobs:afv w.c.jobs
 log:w.c.log.length<=1048576
 shl:w.av.length<=1048576
 sh : ∀ s∈w.av,YP s
 xq:w.net.length<=1048576
 net : ∀ x∈w.net,qx x.ops
 Bl:w.outs.length<=1048576
 outs : ∀ x∈w.outs,qx x.ops
 Bn:w.begun.length<=1048576
 yU : ∀ o∈w.begun,qx o.ops
theorem qB (r:List T):bJ (.l [r])=r:=rfl
theorem wr3 (w:aB):((xw w).drop 3).getD 0 dflt = .l (rJ w.c.jobs):=rfl
theorem wr4 (w:aB):((xw w).drop 4).getD 0 dflt = .l (rC w.c.log):=rfl
theorem wr5 (w:aB):((xw w).drop 5).getD 0 dflt = .i w.c.sure:=rfl
theorem wr6 (w:aB):((xw w).drop 6).getD 0 dflt = .l (rS w.av):=rfl
theorem wr9 (w:aB):((xw w).drop 9).getD 0 dflt = .l (rB w.begun):=rfl
theorem wt6 (w:aB):(xw w).take 6=J2 w.c.n w.c.life w.c.next (rJ w.c.jobs) (rC w.c.log) (.i w.c.sure):=rfl
theorem agX (w:aB):(xw w).take 10=xw w:=rfl
theorem wo0 (x:bB):x.r.getD 0 dflt = .i x.kind:=rfl
theorem wo1 (x:bB):x.r.getD 1 dflt = .i x.bQ:=rfl
theorem wo2 (x:bB):x.r.getD 2 dflt = .i x.tx:=rfl
theorem wo3 (x:bB):x.r.getD 3 dflt = .l (rO x.ops):=rfl
theorem wo4 (x:bB):x.r.getD 4 dflt = .b x.yes:=rfl
theorem ixB (pre:List dD) (x:dD) (post:List dD):(rB (pre++x::post)).getD (Int.toNat (pre.length:Int)) []=x.r:=by simp [List.getD]
theorem b0 (x:dD):x.r.getD 0 dflt = .i x.tx:=rfl
theorem b1' (x:dD):x.r.getD 1 dflt = .l (rO x.ops):=rfl
theorem bd1 (x:dD):(x.r.drop 1).getD 0 dflt = .l (rO x.ops):=rfl
theorem YR (l:List dD) {j:Nat} (h:j<l.length):(rB l).getD j []=(l.getD j default).r:=by simp [List.getD,h]
def K5 (k:Nat) (x:bB):Bool:=EZ x&&decide (x.bQ<(k:Int))
def Gy (k:Nat) (l:List bB):Bool:=l.all (K5 k)&&decide (l.length<=400)
theorem aiK (n:Nat):decide ((n:Int)<=400)=decide (n<=400):=decide_eq_decide.2 (by omega)
theorem aiL (a b:Int):decide (a>=b) = !decide (a<b):=by
 by_cases h:a<b
 ·rw [decide_eq_true h,decide_eq_false (by omega)]; rfl
 ·rw [decide_eq_false h,decide_eq_true (by omega)]; rfl
theorem K6 (m:Nat) (hm:1048700<=m) (w:aB) (x1:T) : ∀ (post pre:List bB),(∀ x∈post,qx x.ops)->pre.length+post.length<=1048576->∀ n,post.length<n->∀ k0 k1,
  eF m n (.l [xw w]) x1 (.l (rW (pre++post))) (.i ((pre++post).length:Nat)) (.i pre.length) k0 k1=cond (post.all (K5 w.av.length)) (k1 x1) (k0 (.b false))
 | [],pre,ho,hs,n,hn,k0,k1=>by
  obtain ⟨n,rfl⟩:=aV n
  simp only [eF,T.aj,T.ah,aM,aX,wL,bq]
  rw [lI]
  rfl
 | x::post,pre,ho,hs,n,hn,k0,k1=>by
  obtain ⟨n,rfl⟩:=aV n
  simp only [List.length_cons] at hs hn
  have ih:=K6 m hm w x1 post (pre++[x]) (fun y hy=>ho y (by simp [hy])) (by simp; omega) n (by omega) k0 k1
  rw [aG,List.append_assoc,List.singleton_append] at ih
  simp only [eF,T.aj,T.ah,ixW,bN pre (by omega),wo0,wo1,wo2,wo3,wo4,qB,wr6,qA,aM,aX,wL,bq]
  rw [bK,bK,adF hm x (ho x (by simp)),ih,aiL]
  simp only [T.aI,List.all_cons]
  unfold K5
  cases EZ x with
  | false=>rfl
  | true=>cases decide (x.bQ<(w.av.length:Int)) <;> rfl
theorem RP {m:Nat} (hm:1048710<=m) (w:aB) (l:List bB) (hl:l.length<=1048576) (ho : ∀ x∈l,qx x.ops) (K:T->An):lg m (.l [xw w]) (.l (rW l)) K=K (.b (Gy w.av.length l)):=by
 obtain ⟨m,rfl⟩:=aV m
 simp only [lg,T.ah,fE,qB,wL]
 refine (K6 m (by omega) w (.l (rW l)) l [] ho (by simpa using hl) m (by omega) _ _).trans ?_
 unfold Gy
 simp only [T.ah,fE,aiK]
 cases l.all (K5 w.av.length) <;> rfl
def yP (tx:Int):List dD->Option Nat
 | []=>none
 | o::l=>if o.tx=tx then some 0 else (yP tx l).map (· + 1)
theorem Xg {tx:Int} : ∀ {l:List dD} {j:Nat},yP tx l=some j->j<l.length
 | [],j,h=>by cases h
 | r::l,j,h=>by
  unfold yP at h
  split at h
  ·cases h; simp
  ·cases h2:yP tx l with
   | none=>rw [h2] at h; cases h
   | some i=>rw [h2] at h; cases h; have:=Xg h2; simp; omega
def yQ (tx:Int) (l:List dD):Int:=match yP tx l with | some j=>(j:Int) | none=>-1
theorem RQ (m:Nat) (hm:1<=m) (tx:Int) : ∀ (post pre:List dD),pre.length+post.length<=1048576->∀ n,post.length<n->∀ k0 k1,
  aW m n (.l (rB (pre++post))) (.l [[.i tx]]) (.i ((pre++post).length:Nat)) (.i pre.length) k0 k1=(match yP tx post with | some j=>k0 (.i ((pre.length+j:Nat):Int)) | none=>k1)
 | [],pre,hs,n,hn,k0,k1=>by
  obtain ⟨n,rfl⟩:=aV n
  simp only [aW,T.aj,T.ah,aM,aX,wL,bq]
  rw [lI]
  rfl
 | x::post,pre,hs,n,hn,k0,k1=>by
  obtain ⟨n,rfl⟩:=aV n
  obtain ⟨m,rfl⟩:=aV m
  simp only [List.length_cons] at hs hn
  have ih:=RQ (m+1) hm tx post (pre++[x]) (by simp; omega) n (by omega) k0 k1
  rw [aG,List.append_assoc,List.singleton_append] at ih
  have r1:bJ (.l [[T.i tx]])=[T.i tx]:=rfl
  simp only [aW,pG,T.aj,T.ah,ixB,bN pre (by omega),r1,List.getD_cons_zero,T.aI,b0,aM,aX,wL,bq]
  rw [bK,bK]
  unfold yP
  by_cases h:x.tx=tx
  ·rw [ay (by simp [h]),if_pos h]; rfl
  ·rw [aC (by simp [h]),if_neg h]
   refine Eq.trans ih ?_
   cases yP tx post with
   | none=>rfl
   | some j=>simp only [Option.map_some]; congr 3; simp; omega
theorem Bv {m:Nat} (hm:1048600<=m) (w:aB) (tx:Int) (hl:w.begun.length<=1048576) (K:T->An):fq m (.l [xw w]) (.i tx) K=K (.i (yQ tx w.begun)):=by
 obtain ⟨m,rfl⟩:=aV m
 obtain ⟨m,rfl⟩:=aV m
 simp only [fq,dV,qB,wr9,T.ah,yM,wL]
 refine (RQ m (by omega) tx w.begun [] (by simp; omega) m (by omega) _ _).trans ?_
 unfold yQ
 cases yP tx w.begun <;> simp
end Go.Proofs.YtpchnmbcbcfhjaaGreat

namespace Go.Proofs.YtpchnmbcbcfhjaaGreat
open Go Go.E Go.Proofs
def aeV (life next:Int) (full:List dD) (i:Nat) (o:dD):Bool:=gF o.ops&&(decide (1000<=o.tx/\o.tx<=life * 1000+next-1)&&(yQ o.tx full==(i:Int)))
def PD (life next:Int) (full:List dD):Nat->List dD->Bool
 | _,[]=>true
 | i,o::l=>aeV life next full i o&&PD life next full (i+1) l
def abj (full:List dD) (c:aY):Bool:=!decide (yQ c.tx full<0)
def abk (full:List dD) (j:dH):Bool:=!decide (yQ j.tx full<0)&&J4 Je (full.getD (yQ j.tx full).toNat default).ops j.ops
def Gz (w:aB):Bool:=PD w.c.life w.c.next w.begun 0 w.begun&&(w.c.log.all (abj w.begun)&&(w.c.jobs.all (abk w.begun)&&decide (w.begun.length<=1000)))
theorem PE {tx:Int} {l:List dD} (h : ¬ yQ tx l<0) : ∃ j:Nat,yQ tx l=j/\j<l.length:=by
 unfold yQ at h ⊢
 cases h2:yP tx l with
 | none=>rw [h2] at h; simp at h
 | some j=>exact ⟨j,rfl,Xg h2⟩
theorem PG {l:List dD} {j:Nat} (h:j<l.length):l.getD j default∈l:=by simp [List.getD,h]
section
variable (m:Nat) (w:aB) (h1:1<=w.c.life/\w.c.life<=900) (h2:0<=w.c.next/\w.c.next<=999) (hb:w.begun.length<=1048576) (Tf : ∀ o∈w.begun,qx o.ops)
include hb
theorem afG (hm:1048700<=m) (h1:1<=w.c.life/\w.c.life<=900) (h2:0<=w.c.next/\w.c.next<=999) : ∀ (post pre:List dD),(∀ o∈post,qx o.ops)->pre.length+post.length<=1048576->∀ n,post.length<n->∀ k0 k1,
  eO m n (.l [xw w]) (.l (rB (pre++post))) (.i ((pre++post).length:Nat)) (.i pre.length) k0 k1=cond (PD w.c.life w.c.next w.begun pre.length post) (k1 (.l [xw w])) (k0 (.b false))
 | [],pre,ho,hs,n,hn,k0,k1=>by
  obtain ⟨n,rfl⟩:=aV n
  simp only [eO,T.aj,T.ah,qB,aM,aX,wL,bq]
  rw [lI]
  rfl
 | x::post,pre,ho,hs,n,hn,k0,k1=>by
  obtain ⟨n,rfl⟩:=aV n
  simp only [List.length_cons] at hs hn
  have ih:=afG hm h1 h2 post (pre++[x]) (fun y hy=>ho y (by simp [hy])) (by simp; omega) n (by omega) k0 k1
  rw [aG,List.append_assoc,List.singleton_append,show (pre++[x]).length=pre.length+1 by simp] at ih
  simp only [eO,T.aj,T.ah,ixB,bN pre (by omega),b0,b1',qB,wt6,agX,aM,aX,wL,bq]
  rw [bK,bK,yI (by omega) x.ops (ho x (by simp)),Yy (by omega) _ _ _ _ _ _ h1 h2]
  simp only [T.aj,T.aI]
  rw [wrap_i64 (by omega) (by omega),gD (by omega)]
  simp only [T.aI]
  rw [Bv (by omega) w x.tx hb,ih]
  simp only [T.aj]
  show _=cond (aeV _ _ _ _ _&&_) _ _
  unfold aeV
  cases gF x.ops with
  | false=>rfl
  | true =>
   rw [ay (by decide)]
   cases decide (1000<=x.tx/\x.tx<=w.c.life * 1000+w.c.next-1) with
   | false=>rfl
   | true =>
    rw [ay (by decide)]
    by_cases h:yQ x.tx w.begun=(pre.length:Int)
    ·rw [aC (by simp [h])]; simp [h]
    ·rw [ay (by simp [h]),show (yQ x.tx w.begun==(pre.length:Int))=false by simp [h]]; rfl
theorem afH (hm:1048700<=m) : ∀ (post pre:List aY),pre.length+post.length<=1048576->∀ n,post.length<n->∀ k0 k1,
  eH m n (.l [xw w]) (.l (rC (pre++post))) (.i ((pre++post).length:Nat)) (.i pre.length) k0 k1=cond (post.all (abj w.begun)) (k1 (.l [xw w])) (k0 (.b false))
 | [],pre,hs,n,hn,k0,k1=>by
  obtain ⟨n,rfl⟩:=aV n
  simp only [eH,T.aj,T.ah,qB,aM,aX,bq]
  rw [lI]
  rfl
 | x::post,pre,hs,n,hn,k0,k1=>by
  obtain ⟨n,rfl⟩:=aV n
  simp only [List.length_cons] at hs hn
  have ih:=afH hm post (pre++[x]) (by simp; omega) n (by omega) k0 k1
  rw [aG,List.append_assoc,List.singleton_append] at ih
  simp only [eH,T.aj,T.ah,ixC,bN pre (by omega),c0,qB,agX,aM,aX,bq]
  rw [bK,bK,Bv (by omega) w x.tx hb,ih]
  simp only [T.aj,List.all_cons,abj]
  cases decide (yQ x.tx w.begun<0) <;> rfl
theorem afI (hm:1048700<=m) (Tf : ∀ o∈w.begun,qx o.ops) : ∀ (post pre:List dH),pre.length+post.length<=1048576->∀ n,post.length<n->∀ k0 k1,
  eG m n (.l [xw w]) (.l (rJ (pre++post))) (.i ((pre++post).length:Nat)) (.i pre.length) k0 k1=cond (post.all (abk w.begun)) (k1 (.l [xw w])) (k0 (.b false))
 | [],pre,hs,n,hn,k0,k1=>by
  obtain ⟨n,rfl⟩:=aV n
  simp only [eG,T.aj,T.ah,qB,aM,aX,wL,bq]
  rw [lI]
  rfl
 | x::post,pre,hs,n,hn,k0,k1=>by
  obtain ⟨n,rfl⟩:=aV n
  simp only [List.length_cons] at hs hn
  have ih:=afI hm Tf post (pre++[x]) (by simp; omega) n (by omega) k0 k1
  rw [aG,List.append_assoc,List.singleton_append] at ih
  simp only [eG,T.aj,T.ah,ixJ,bN pre (by omega),j0,j1,qB,agX,wr9,yM,aM,aX,wL,bq]
  rw [bK,bK,Bv (by omega) w x.tx hb,ih]
  simp only [T.aj,List.all_cons,abk]
  by_cases h:yQ x.tx w.begun<0
  ·rw [decide_eq_true h]; rfl
  ·obtain ⟨j,hj,hjl⟩:=PE h
   rw [decide_eq_false h,hj,ay (by decide),bK,show Int.toNat (j:Int)=j from rfl,YR w.begun hjl,bd1]
   simp only [T.ah]
   rw [agW (by omega) _ x.ops (Tf _ (PG hjl)).1]
   simp only [T.aI,Bool.not_false,Bool.true_and]
   cases J4 Je (w.begun.getD j default).ops x.ops <;> rfl
theorem abl (hm:1048710<=m) (h1:1<=w.c.life/\w.c.life<=900) (h2:0<=w.c.next/\w.c.next<=999) (Tf : ∀ o∈w.begun,qx o.ops) (hj:w.c.jobs.length<=1048576) (hl:w.c.log.length<=1048576) (K:T->An) :
  nL m (.l [xw w]) K=K (.b (Gz w)):=by
 obtain ⟨m,rfl⟩:=aV m
 simp only [nL,qB,wr9,T.ah,yM]
 refine (afG m w hb (by omega) h1 h2 w.begun [] Tf (by simpa using hb) m (by omega) _ _).trans ?_
 unfold Gz
 simp only [List.length_nil]
 cases PD w.c.life w.c.next w.begun 0 w.begun with
 | false=>rfl
 | true =>
  simp only [cond_true,qB,wr4,wr3,wr9,T.ah,kC,Uj,yM,Bool.true_and]
  refine (afH m w hb (by omega) w.c.log [] (by simpa using hl) m (by omega) _ _).trans ?_
  cases w.c.log.all (abj w.begun) with
  | false=>rfl
  | true =>
   simp only [cond_true,qB,wr4,wr3,wr9,T.ah,kC,Uj,yM,Bool.true_and]
   refine (afI m w hb (by omega) Tf w.c.jobs [] (by simpa using hj) m (by omega) _ _).trans ?_
   cases w.c.jobs.all (abk w.begun) with
   | false=>rfl
   | true=>simp only [cond_true,qB,wr9,T.ah,yM,Bool.true_and]; congr 2; exact decide_eq_decide.2 (by omega)
end
section
variable (m:Nat) (N life next sure:Int) (jobs:List dH) (log:List aY) (l8 l9 l10:List (List T)) (yU:List dD) (hb:yU.length<=1048576)
include hb
end
end Go.Proofs.YtpchnmbcbcfhjaaGreat

namespace Go.Proofs.YtpchnmbcbcfhjaaGreat
open Go Go.E Go.Proofs
def vR:Nat->List aF->Bool
 | _,[]=>true
 | i,s::l=>(s.id==(i:Int))&&(yO s&&vR (i+1) l)
def Bw (w:aB):Bool:=vO w.c.n w.c.life w.c.next w.c.jobs w.c.log w.c.sure&&(((w.av.length:Int)==w.c.n)&&(vR 0 w.av&&(Gy w.av.length w.net&&(Gy w.av.length w.outs&&Gz w))))
theorem QC {N life next sure:Int} {jobs:List dH} {log:List aY} (h:vO N life next jobs log sure=true):(1<=life/\life<=900)/\(0<=next/\next<=999):=by
 unfold vO at h
 simp only [Bool.and_eq_true,decide_eq_true_eq] at h
 exact ⟨h.2.1,h.2.2.1⟩
theorem agY (pre:List aF) (x:aF) (post:List aF):(rS (pre++x::post)).getD (Int.toNat (pre.length:Int)) []=x.r:=by simp [List.getD]
theorem s0' (x:aF):x.r.getD 0 dflt = .i x.id:=rfl
theorem s1' (x:aF):x.r.getD 1 dflt = .l (rR x.log):=rfl
theorem s2' (x:aF):x.r.getD 2 dflt = .i x.sure:=rfl
theorem s3' (x:aF):x.r.getD 3 dflt = .l (rP x.map):=rfl
theorem s4' (x:aF):x.r.getD 4 dflt = .l (rR x.held):=rfl
theorem RU (m:Nat) (hm:3200100<=m) (x4 x5 x6 x7 x8 x9 x10 bW gH mh:T) : ∀ (post pre:List aF),(∀ s∈post,YP s)->pre.length+post.length<=1048576->∀ n,post.length<n->∀ k0 k1,
  jM m n (.i 0) (.l (rS (pre++post))) (.i ((pre++post).length:Nat)) (.i pre.length) x4 x5 x6 x7 x8 x9 x10 bW gH mh k0 k1=cond (vR pre.length post) (k1 (.i 0) x4 x5 x6 x7 x8 x9 x10 bW gH mh) (k0 (.b false))
 | [],pre,ho,hs,n,hn,k0,k1=>by
  obtain ⟨n,rfl⟩:=aV n
  simp only [jM,T.aj,T.ah,aM,aX,wL,bq]
  rw [lI]
  rfl
 | x::post,pre,ho,hs,n,hn,k0,k1=>by
  obtain ⟨n,rfl⟩:=aV n
  simp only [List.length_cons] at hs hn
  have ih:=RU m hm x4 x5 x6 x7 x8 x9 x10 bW gH mh post (pre++[x]) (fun y hy=>ho y (by simp [hy])) (by simp; omega) n (by omega) k0 k1
  rw [aG,List.append_assoc,List.singleton_append,show (pre++[x]).length=pre.length+1 by simp] at ih
  have hz:((((0:Int).toNat:Nat)):Int)=0:=rfl
  simp only [jM,T.aj,T.ah,agY,bN pre (by omega),s0',s1',s2',s3',s4',hz,aM,aX,wL,bq]
  rw [bK,bK,abh (by omega) x (ho x (by simp)),ih]
  simp only [T.aI]
  show _=cond ((x.id==(pre.length:Int))&&(yO x&&vR (pre.length+1) post)) _ _
  by_cases h:x.id=(pre.length:Int)
  ·rw [ay (by simp [h]),show (x.id==(pre.length:Int))=true by simp [h]]
   cases yO x <;> rfl
  ·rw [aC (by simp [h]),show (x.id==(pre.length:Int))=false by simp [h]]; rfl
theorem RV {m:Nat} (hm:3200200<=m) (w:aB) (h:CW w) (K:T->An) :
  sZ m (.i w.c.n) (.i w.c.life) (.i w.c.next) (.l (rJ w.c.jobs)) (.l (rC w.c.log)) (.i w.c.sure) (.l (rS w.av)) (.l (rW w.net)) (.l (rW w.outs)) (.l (rB w.begun)) K=K (.b (Bw w)):=by
 obtain ⟨m,rfl⟩:=aV m
 simp only [sZ,jn,T.ah,T.aj,qA,wL]
 rw [aaX (by omega) w.c.n w.c.life w.c.next w.c.sure w.c.jobs w.c.log h.jobs h.log]
 unfold Bw
 cases hc:vO w.c.n w.c.life w.c.next w.c.jobs w.c.log w.c.sure with
 | false=>rfl
 | true =>
  obtain ⟨h1,h2⟩:=QC hc
  simp only [T.aI]
  rw [ay (by decide)]
  by_cases hn:(w.av.length:Int)=w.c.n
  ·rw [aC (by simp [hn]),show ((w.av.length:Int)==w.c.n)=true by simp [hn]]
   refine (RU m (by omega) _ _ _ _ _ _ _ _ _ _ w.av [] h.sh (by simpa using h.shl) m (by have:=h.shl; omega) _ _).trans ?_
   simp only [List.length_nil]
   cases vR 0 w.av with
   | false=>rfl
   | true =>
    simp only [cond_true,T.ah,Bool.true_and]
    rw [show (T.l [[.i w.c.n,.i w.c.life,.i w.c.next,.l (rJ w.c.jobs),.l (rC w.c.log),.i w.c.sure,.l (rS w.av),.l (rW w.net),.l (rW w.outs),.l (rB w.begun)]])=T.l [xw w] from rfl,RP (by omega) w w.net h.xq h.net,RP (by omega) w w.outs h.Bl h.outs,abl m w h.Bn (by omega) h1 h2 h.yU h.jobs.1 h.log]
    simp only [T.aI]
    cases Gy w.av.length w.net with
    | false=>rfl
    | true=>cases Gy w.av.length w.outs <;> rfl
  ·rw [ay (by simp [hn]),show ((w.av.length:Int)==w.c.n)=false by simp [hn]]; rfl
end Go.Proofs.YtpchnmbcbcfhjaaGreat

namespace Go.Proofs.YtpchnmbcbcfhjaaGreat
open Go Go.E Go.Proofs
theorem hz0:((((0:Int).toNat:Nat)):Int)=0:=rfl
def Uw (first kind tx:Int):Nat->List bg->Bool
 | _,[]=>false
 | i,r::l=>decide ((i:Int)<first)&&(((r.kind==kind)&&(r.tx==tx))||Uw first kind tx (i+1) l)
def afJ (l:List bg) (first kind tx:Int):Bool:=Uw first kind tx 0 l
def Z6 (sh:List aF) (tx:Int):Bool:=sh.any fun s=>afJ s.log s.log.length 3 tx
def agZ (sh:List aF) (r:bg):Bool:=!(r.kind==2) || !Z6 sh r.tx
def yR (sh:List aF):Bool:=sh.all fun s=>s.log.all (agZ sh)
theorem PI (first kind tx:Int) : ∀ (l:List bg) (i:Nat),((i+l.length:Nat):Int)<=first->Uw first kind tx i l=l.any fun r=>(r.kind==kind)&&(r.tx==tx)
 | [],i,h=>rfl
 | r::l,i,h=>by
  simp only [List.length_cons] at h
  unfold Uw
  rw [decide_eq_true (by omega),PI first kind tx l (i+1) (by omega)]
  rfl
theorem Xh (l:List bg) (kind tx:Int):afJ l l.length kind tx=l.any fun r=>(r.kind==kind)&&(r.tx==tx):=PI _ _ _ l 0 (by simp)
def nsP (sh:List aF):List (Int×Int):=sh.flatMap fun s=>s.log.map fun r=>(r.kind,r.tx)
theorem abm (sh:List aF):uy (rS sh)=nsP sh:=by
 unfold uy nsP
 rw [List.flatMap_map]
 congr 1
 funext s
 show Gd s.r=_
 show (rR s.log).map Vz=_
 rw [List.map_map]
 rfl
theorem ag0 (sh:List aF):Yp (nsP sh)=yR sh:=by
 rw [Bool.eq_iff_iff]
 unfold Yp yR agZ Z6 Rk nsP
 simp only [List.all_eq_true,List.mem_map,List.mem_filter,List.mem_flatMap,Bool.or_eq_true,Bool.not_eq_true',List.any_eq_false,Xh,Bool.and_eq_true,beq_iff_eq,beq_eq_false_iff_ne]
 constructor
 ·intro h s hs r hr
  by_cases hk:r.kind=2
  ·right
   intro s' hs' h2
   rw [List.any_eq_true] at h2
   obtain ⟨r',hr',h3⟩:=h2
   simp only [Bool.and_eq_true,beq_iff_eq] at h3
   have:=h r.tx ⟨(r.kind,r.tx),⟨⟨s,hs,r,hr,rfl⟩,hk⟩,rfl⟩
   rw [<-Bool.not_eq_true] at this
   exact this (by rw [List.contains_iff_mem]; exact List.mem_map.2 ⟨(r'.kind,r'.tx),by simp only [List.mem_filter,List.mem_flatMap,List.mem_map,beq_iff_eq]; exact ⟨⟨s',hs',r',hr',rfl⟩,h3.1⟩,h3.2⟩)
  ·exact .inl hk
 ·rintro h x ⟨⟨k,t⟩,⟨⟨s,hs,r,hr,e⟩,hk⟩,rfl⟩
  cases e
  rcases h s hs r hr with h1 | h1
  ·exact absurd hk h1
  ·rw [<-Bool.not_eq_true,List.contains_iff_mem]
   intro hx
   obtain ⟨⟨k',t'⟩,h2,h3⟩:=List.mem_map.1 hx
   simp only [List.mem_filter,List.mem_flatMap,List.mem_map,beq_iff_eq] at h2
   obtain ⟨⟨s',hs',r',hr',e'⟩,hk'⟩:=h2
   cases e'
   exact h1 s' hs' (by rw [List.any_eq_true]; exact ⟨r',hr',by simp only [Bool.and_eq_true,beq_iff_eq]; exact ⟨hk',h3⟩⟩)
theorem Xi {m:Nat} (hm:1<=m) (x0 x1 x2 x3 x4 x5 x7 x8 x9:T) (sh:List aF) (hl:(nsP sh).length<=au) (K:T->An):wT m x0 x1 x2 x3 x4 x5 (.l (rS sh)) x7 x8 x9 K=K (.b (yR sh)):=by
 obtain ⟨m,rfl⟩:=aV m
 simp only [wT,T.ah,abm,ag0]
 rw [aN hl]
end Go.Proofs.YtpchnmbcbcfhjaaGreat

namespace Go.Proofs.YtpchnmbcbcfhjaaGreat
open Go Go.E Go.Proofs
def YS (sure tx:Int):Nat->List aY->Bool
 | _,[]=>false
 | i,c::l=>((c.tx==tx)&&(c.yes&&decide ((i:Int)<sure)))||YS sure tx (i+1) l
theorem Z7 (m:Nat) (w:aB) (tx:Int) : ∀ (post pre:List aY),pre.length+post.length<=1048576->∀ n,post.length<n->∀ k0 k1,
  cu m n (.l [xw w]) (.i tx) (.l (rC (pre++post))) (.i ((pre++post).length:Nat)) (.i pre.length) k0 k1=cond (YS w.c.sure tx pre.length post) (k0 (.b true)) k1
 | [],pre,hs,n,hn,k0,k1=>by
  obtain ⟨n,rfl⟩:=aV n
  simp only [cu,T.aj,T.ah,aM,aX,bq]
  rw [lI]
  rfl
 | x::post,pre,hs,n,hn,k0,k1=>by
  obtain ⟨n,rfl⟩:=aV n
  simp only [List.length_cons] at hs hn
  have ih:=Z7 m w tx post (pre++[x]) (by simp; omega) n (by omega) k0 k1
  rw [aG,List.append_assoc,List.singleton_append,show (pre++[x]).length=pre.length+1 by simp] at ih
  simp only [cu,T.aj,T.ah,ixC,bN pre (by omega),c0,c1,T.aI,qB,wr5,aM,aX,bq]
  rw [bK,bK,ih]
  show _=cond (((x.tx==tx)&&(x.yes&&decide ((pre.length:Int)<w.c.sure)))||YS w.c.sure tx (pre.length+1) post) _ _
  cases (x.tx==tx) <;> cases x.yes <;> cases decide ((pre.length:Int)<w.c.sure) <;> rfl
def Jf (w:aB) (tx:Int):Bool:=YS w.c.sure tx 0 w.c.log
theorem YT {m:Nat} (hm:1048600<=m) (w:aB) (tx:Int) (hl:w.c.log.length<=1048576) (K:T->An):mK m (.l [xw w]) (.i tx) K=K (.b (Jf w tx)):=by
 obtain ⟨m,rfl⟩:=aV m
 simp only [mK,qB,wr4,T.ah,kC]
 refine (Z7 m w tx w.c.log [] (by simpa using hl) m (by omega) _ _).trans ?_
 unfold Jf
 simp only [List.length_nil]
 cases YS w.c.sure tx 0 w.c.log <;> rfl
def bk1 (w:aB) (r:bg):Bool:=!(r.kind==2)||Jf w r.tx
def E5 (w:aB):Bool:=w.av.all fun s=>s.log.all (bk1 w)
section
variable (m:Nat) (hm:1048700<=m) (w:aB) (hw:CW w)
include hm hw
theorem adG (x1 x2 x3:T) : ∀ (post pre:List bg),pre.length+post.length<=1048576->∀ n,post.length<n->∀ k0 k1,
  kS m n (.i 0) x1 x2 x3 (.l (rR (pre++post))) (.i ((pre++post).length:Nat)) (.i pre.length) (.i w.c.n) (.i w.c.life) (.i w.c.next) (.l (rJ w.c.jobs)) (.l (rC w.c.log)) (.i w.c.sure) (.l (rS w.av)) (.l (rW w.net)) (.l (rW w.outs)) (.l (rB w.begun)) k0 k1 =
   cond (post.all (bk1 w)) (k1 (.i 0) x1 x2 x3 (.i w.c.n) (.i w.c.life) (.i w.c.next) (.l (rJ w.c.jobs)) (.l (rC w.c.log)) (.i w.c.sure) (.l (rS w.av)) (.l (rW w.net)) (.l (rW w.outs)) (.l (rB w.begun))) (k0 (.b false))
 | [],pre,hs,n,hn,k0,k1=>by
  obtain ⟨n,rfl⟩:=aV n
  simp only [kS,T.aj,T.ah,aM,aX,wL,bq]
  rw [lI]
  rfl
 | x::post,pre,hs,n,hn,k0,k1=>by
  obtain ⟨n,rfl⟩:=aV n
  simp only [List.length_cons] at hs hn
  have ih:=adG x1 x2 x3 post (pre++[x]) (by simp; omega) n (by omega) k0 k1
  rw [aG,List.append_assoc,List.singleton_append] at ih
  simp only [kS,T.aj,T.ah,UG,bN pre (by omega),r0,r1,hz0,aM,aX,wL,bq]
  rw [bK,bK,show (T.l [[.i w.c.n,.i w.c.life,.i w.c.next,.l (rJ w.c.jobs),.l (rC w.c.log),.i w.c.sure,.l (rS w.av),.l (rW w.net),.l (rW w.outs),.l (rB w.begun)]])=T.l [xw w] from rfl,YT (by omega) w x.tx hw.log,ih]
  simp only [T.aI,List.all_cons,bk1]
  cases (x.kind==2) <;> cases Jf w x.tx <;> rfl
theorem adH : ∀ (post pre:List aF),(∀ s∈post,s.log.length<=1048576)->pre.length+post.length<=1048576->∀ n,post.length+1048576+1<n->∀ k0 k1,
  kT m n (.i 0) (.l (rS (pre++post))) (.i ((pre++post).length:Nat)) (.i pre.length) (.i w.c.n) (.i w.c.life) (.i w.c.next) (.l (rJ w.c.jobs)) (.l (rC w.c.log)) (.i w.c.sure) (.l (rS w.av)) (.l (rW w.net)) (.l (rW w.outs)) (.l (rB w.begun)) k0 k1 =
   cond (post.all fun s=>s.log.all (bk1 w)) k1 (k0 (.b false))
 | [],pre,ho,hs,n,hn,k0,k1=>by
  obtain ⟨n,rfl⟩:=aV n
  simp only [kT,T.aj,T.ah,aM,aX,bq]
  rw [lI]
  rfl
 | x::post,pre,ho,hs,n,hn,k0,k1=>by
  obtain ⟨n,rfl⟩:=aV n
  simp only [List.length_cons] at hs hn
  have hx:=ho x (by simp)
  have ih:=adH post (pre++[x]) (fun s h=>ho s (by simp [h])) (by simp; omega) n (by omega) k0 k1
  rw [aG,List.append_assoc,List.singleton_append] at ih
  simp only [kT,T.aj,T.ah,agY,s1',hz0,dW,aM,aX,bq]
  rw [bK,bK]
  have l1:=adG m hm w hw (.l (rS (pre++x::post))) (.i ((pre++x::post).length:Nat)) (.i pre.length) x.log [] (by simpa using hx) n (by omega) k0
  simp only [List.nil_append,List.length_nil,Int.natCast_zero] at l1
  refine (l1 _).trans ?_
  simp only [T.aj,hz0,bN pre (by omega),List.all_cons]
  rw [ih]
  cases x.log.all (bk1 w) <;> rfl
end
theorem YU {m:Nat} (hm:2200000<=m) (w:aB) (hw:CW w) (K:T->An) :
  zQ m (.i w.c.n) (.i w.c.life) (.i w.c.next) (.l (rJ w.c.jobs)) (.l (rC w.c.log)) (.i w.c.sure) (.l (rS w.av)) (.l (rW w.net)) (.l (rW w.outs)) (.l (rB w.begun)) K=K (.b (E5 w)):=by
 obtain ⟨m,rfl⟩:=aV m
 simp only [zQ,T.ah,qA,wL]
 refine (adH m (by omega) w hw w.av [] (fun s h=>(hw.sh s h).log) (by simpa using hw.shl) m (by have:=hw.shl; omega) _ _).trans ?_
 unfold E5
 cases w.av.all fun s=>s.log.all (bk1 w) <;> rfl
section
variable (m:Nat) (hm:1048700<=m) (w:aB) (hw:CW w)
include hm hw
end
end Go.Proofs.YtpchnmbcbcfhjaaGreat

namespace Go.Proofs.YtpchnmbcbcfhjaaGreat
open Go Go.E Go.Proofs
def wh1 (w:aB) (id:Int) (r:bg):Bool:=(r.kind != 1)||(!decide (yQ r.tx w.begun<0)&&J4 Je (ng (w.begun.getD (yQ r.tx w.begun).toNat default).ops id w.c.n) r.ops)
def J6 (w:aB):Bool:=w.av.all fun s=>s.log.all (wh1 w s.id)
section
variable (m:Nat) (hm:1048700<=m) (w:aB) (hw:CW w)
include hm hw
theorem aiM (x2 x3 x4 Dm x20 x21 GH:T) (id:Int) : ∀ (post pre:List bg),pre.length+post.length<=1048576->∀ n,post.length<n->∀ k0 k1,
  lV m n (.i 0) (.i 0) x2 x3 x4 (.l (rR (pre++post))) (.i ((pre++post).length:Nat)) (.i pre.length) (.i w.c.n) (.i w.c.life) (.i w.c.next) (.l (rJ w.c.jobs)) (.l (rC w.c.log)) (.i w.c.sure) (.l (rS w.av)) (.l (rW w.net)) (.l (rW w.outs)) (.l (rB w.begun)) (.i id) Dm x20 x21 GH k0 k1 =
   cond (post.all (wh1 w id)) (k1 (.i 0) x2 x3 x4 (.i w.c.n) (.i w.c.life) (.i w.c.next) (.l (rJ w.c.jobs)) (.l (rC w.c.log)) (.i w.c.sure) (.l (rS w.av)) (.l (rW w.net)) (.l (rW w.outs)) (.l (rB w.begun))) (k0 (.b false))
 | [],pre,hs,n,hn,k0,k1=>by
  obtain ⟨n,rfl⟩:=aV n
  simp only [lV,T.aj,T.ah,qE,aM,aX,wL,bq]
  rw [lI]
  rfl
 | x::post,pre,hs,n,hn,k0,k1=>by
  obtain ⟨n,rfl⟩:=aV n
  simp only [List.length_cons] at hs hn
  have ih:=aiM x2 x3 x4 Dm x20 x21 GH id post (pre++[x]) (by simp; omega) n (by omega) k0 k1
  rw [aG,List.append_assoc,List.singleton_append] at ih
  have hbl:=hw.Bn
  simp only [lV,T.aj,T.ah,UG,bN pre (by omega),r0,r1,r2,hz0,yM,qE,aM,aX,wL,bq]
  rw [bK,bK,show (T.l [[.i w.c.n,.i w.c.life,.i w.c.next,.l (rJ w.c.jobs),.l (rC w.c.log),.i w.c.sure,.l (rS w.av),.l (rW w.net),.l (rW w.outs),.l (rB w.begun)]])=T.l [xw w] from rfl,Bv (by omega) w x.tx hbl,ih]
  simp only [T.aj,List.all_cons]
  unfold wh1
  by_cases hk:x.kind=1
  ·rw [aC (by simp [hk]),show (x.kind != 1)=false by simp [hk]]
   by_cases h:yQ x.tx w.begun<0
   ·rw [decide_eq_true h]; rfl
   ·obtain ⟨j,hj,hjl⟩:=PE h
    have Jk:=hw.yU _ (PG hjl)
    rw [decide_eq_false h,hj,ay (by decide),bK,show Int.toNat (j:Int)=j from rfl,YR w.begun hjl,bd1]
    simp only [T.ah]
    rw [Yx (by omega) _ id w.c.n Jk]
    simp only [T.ah]
    rw [agW (by omega) _ x.ops (by have:=C8 (w.begun.getD j default).ops id w.c.n; have:=Jk.1; omega)]
    simp only [T.aI,Bool.not_false,Bool.true_and,Bool.false_or]
    cases J4 Je (ng (w.begun.getD j default).ops id w.c.n) x.ops <;> rfl
  ·rw [ay (by simp [hk]),show (x.kind != 1)=true by simp [hk]]; rfl
theorem aiN : ∀ (post pre:List aF),(∀ s∈post,s.log.length<=1048576)->pre.length+post.length<=1048576->∀ n,post.length+1048576+1<n->∀ k0 k1,
  lW m n (.i 0) (.l (rS (pre++post))) (.i ((pre++post).length:Nat)) (.i pre.length) (.i w.c.n) (.i w.c.life) (.i w.c.next) (.l (rJ w.c.jobs)) (.l (rC w.c.log)) (.i w.c.sure) (.l (rS w.av)) (.l (rW w.net)) (.l (rW w.outs)) (.l (rB w.begun)) k0 k1 =
   cond (post.all fun s=>s.log.all (wh1 w s.id)) k1 (k0 (.b false))
 | [],pre,ho,hs,n,hn,k0,k1=>by
  obtain ⟨n,rfl⟩:=aV n
  simp only [lW,T.aj,T.ah,aM,aX,bq]
  rw [lI]
  rfl
 | x::post,pre,ho,hs,n,hn,k0,k1=>by
  obtain ⟨n,rfl⟩:=aV n
  simp only [List.length_cons] at hs hn
  have hx:=ho x (by simp)
  have ih:=aiN post (pre++[x]) (fun s h=>ho s (by simp [h])) (by simp; omega) n (by omega) k0 k1
  rw [aG,List.append_assoc,List.singleton_append] at ih
  simp only [lW,T.aj,T.ah,agY,s0',s1',s2',s3',s4',hz0,dW,aM,aX,bq]
  rw [bK,bK]
  have l1:=aiM m hm w hw (.l (rS (pre++x::post))) (.i ((pre++x::post).length:Nat)) (.i pre.length) (.l (rR x.log)) (.i x.sure) (.l (rP x.map)) (.l (rR x.held)) x.id x.log [] (by simpa using hx) n (by omega) k0
  simp only [List.nil_append,List.length_nil,Int.natCast_zero] at l1
  refine (l1 _).trans ?_
  simp only [T.aj,hz0,bN pre (by omega),List.all_cons]
  rw [ih]
  cases x.log.all (wh1 w x.id) <;> rfl
end
theorem abn {m:Nat} (hm:2200000<=m) (w:aB) (hw:CW w) (K:T->An) :
  CS m (.i w.c.n) (.i w.c.life) (.i w.c.next) (.l (rJ w.c.jobs)) (.l (rC w.c.log)) (.i w.c.sure) (.l (rS w.av)) (.l (rW w.net)) (.l (rW w.outs)) (.l (rB w.begun)) K=K (.b (J6 w)):=by
 obtain ⟨m,rfl⟩:=aV m
 simp only [CS,T.ah,qA,wL]
 refine (aiN m (by omega) w hw w.av [] (fun s h=>(hw.sh s h).log) (by simpa using hw.shl) m (by have:=hw.shl; omega) _ _).trans ?_
 unfold J6
 cases w.av.all fun s=>s.log.all (wh1 w s.id) <;> rfl
section
variable (m:Nat) (hm:1048700<=m) (w:aB) (hw:CW w)
include hm hw
end
end Go.Proofs.YtpchnmbcbcfhjaaGreat

namespace Go.Proofs.YtpchnmbcbcfhjaaGreat
open Go Go.E Go.Proofs
def Xj (tx:Int) (r:bg):Bool:=(r.tx==tx)&&((r.kind==1)||(r.kind==2))
def Dq (s:aF):Nat:=(zW 0 (zV s.sure (s.log.length:Int))).toNat
def Xk (s:aF) (tx:Int):Bool:=(s.log.take (Dq s)).any (Xj tx)
theorem adI (s:aF):Dq s<=s.log.length:=by
 unfold Dq zW zV
 split <;> split <;> omega
theorem afK (s:aF):zW 0 (zV s.sure (s.log.length:Int))=(Dq s:Int):=by
 unfold Dq zW zV
 split <;> split <;> omega
theorem PK (m:Nat) (tx:Int) : ∀ (post pre:List bg),pre.length+post.length<=1048576->∀ n,post.length<n->∀ k0 k1,
  cZ m n (.i tx) (.l (rR (pre++post))) (.i ((pre++post).length:Nat)) (.i pre.length) k0 k1=cond (post.any (Xj tx)) (k0 (.b true)) k1
 | [],pre,hs,n,hn,k0,k1=>by
  obtain ⟨n,rfl⟩:=aV n
  simp only [cZ,T.aj,T.ah,aM,aX,bq]
  rw [lI]
  rfl
 | x::post,pre,hs,n,hn,k0,k1=>by
  obtain ⟨n,rfl⟩:=aV n
  simp only [List.length_cons] at hs hn
  have ih:=PK m tx post (pre++[x]) (by simp; omega) n (by omega) k0 k1
  rw [aG,List.append_assoc,List.singleton_append] at ih
  simp only [cZ,T.aj,T.ah,UG,bN pre (by omega),r0,r1,aM,aX,bq]
  rw [bK,bK,ih]
  simp only [List.any_cons,Xj]
  cases (x.tx==tx) <;> cases (x.kind==1) <;> cases (x.kind==2) <;> rfl
theorem adJ {m:Nat} (hm:1048600<=m) (s:aF) (tx:Int) (hl:s.log.length<=1048576) (K:T->An):lu m (.l [s.r]) (.i tx) K=K (.b (Xk s tx)):=by
 obtain ⟨m,rfl⟩:=aV m
 have e1:(s.r.drop 1).getD 0 dflt = .l (rR s.log):=rfl
 have e2:(s.r.drop 2).getD 0 dflt = .i s.sure:=rfl
 have hle:=adI s
 have e3:(rR s.log).take (Int.toNat (Dq s:Int))=rR (s.log.take (Dq s)):=by
  rw [show Int.toNat (Dq s:Int)=Dq s from rfl]; simp [rR]
 simp only [lu,qB,e1,e2,T.ah,T.aj,dW,afK,e3]
 rw [bK,bK]
 refine (PK m tx (s.log.take (Dq s)) [] (by rw [List.length_take]; simp; omega) m (by rw [List.length_take]; omega) _ _).trans ?_
 unfold Xk
 cases (s.log.take (Dq s)).any (Xj tx) <;> rfl
def pr1 (w:aB) (tx s:Int):Bool:=decide (s<(w.av.length:Int))&&Xk (w.av.getD s.toNat default) tx
def pr (w:aB) (c:aY):Bool:=!c.yes||(!decide (yQ c.tx w.begun<0)&&(bI (w.begun.getD (yQ c.tx w.begun).toNat default).ops w.c.n).all (pr1 w c.tx))
def xI (w:aB):Bool:=w.c.log.all (pr w)
theorem RY {ops:List fB} {n s:Int} (h:s∈bI ops n):0<=s:=by
 unfold bI at h
 rw [Bd] at h
 rcases h with h | h
 ·cases h
 ·obtain ⟨o,-,rfl⟩:=List.mem_map.1 h; omega
theorem ag2 (l:List aF) {j:Nat} (h:j<l.length):(rS l).getD j []=(l.getD j default).r:=by simp [List.getD,h]
theorem adK {l:List aF} {j:Nat} (h:j<l.length):l.getD j default∈l:=by simp [List.getD,h]
section
variable (m:Nat) (hm:1048800<=m) (w:aB) (hw:CW w)
include hm hw
theorem aiP (x2 x3 x4 Dm:T) (tx:Int) : ∀ (post pre:List Int),(∀ s∈post,0<=s)->pre.length+post.length<=1048576->∀ n,post.length<n->∀ k0 k1,
  je m n (.i 0) (.i 0) x2 x3 x4 (.l (ir (pre++post))) (.i ((pre++post).length:Nat)) (.i pre.length) (.i w.c.n) (.i w.c.life) (.i w.c.next) (.l (rJ w.c.jobs)) (.l (rC w.c.log)) (.i w.c.sure) (.l (rS w.av)) (.l (rW w.net)) (.l (rW w.outs)) (.l (rB w.begun)) (.i tx) Dm k0 k1 =
   cond (post.all (pr1 w tx)) (k1 (.i 0) x2 x3 x4 (.i w.c.n) (.i w.c.life) (.i w.c.next) (.l (rJ w.c.jobs)) (.l (rC w.c.log)) (.i w.c.sure) (.l (rS w.av)) (.l (rW w.net)) (.l (rW w.outs)) (.l (rB w.begun))) (k0 (.b false))
 | [],pre,hp,hs,n,hn,k0,k1=>by
  obtain ⟨n,rfl⟩:=aV n
  simp only [je,T.aj,T.ah,aM,aX,bq]
  rw [lI]
  rfl
 | x::post,pre,hp,hs,n,hn,k0,k1=>by
  obtain ⟨n,rfl⟩:=aV n
  simp only [List.length_cons] at hs hn
  have hx:=hp x (by simp)
  have ih:=aiP x2 x3 x4 Dm tx post (pre++[x]) (fun s h=>hp s (by simp [h])) (by simp; omega) n (by omega) k0 k1
  rw [aG,List.append_assoc,List.singleton_append] at ih
  simp only [je,T.aj,T.ah,ixI,bN pre (by omega),hz0,qA,aM,aX,bq]
  rw [bK,aN (by simp [ir]; omega),ih]
  simp only [List.all_cons,pr1]
  by_cases h:x<(w.av.length:Int)
  ·have hxl:x.toNat<w.av.length:=by omega
   rw [ay (by simp; omega),bK,ag2 w.av hxl,show (w.av.getD x.toNat default).r.take 5=(w.av.getD x.toNat default).r from rfl,adJ (by omega) _ tx (hw.sh _ (adK hxl)).log,decide_eq_true h]
   simp only [T.aI,Bool.true_and]
   cases Xk (w.av.getD x.toNat default) tx <;> rfl
  ·rw [aC (by simp; omega),decide_eq_false h]; rfl
theorem aiQ : ∀ (post pre:List aY),pre.length+post.length<=1048576->∀ n,post.length+1048576+1<n->∀ k0 k1,
  jf m n (.i 0) (.l (rC (pre++post))) (.i ((pre++post).length:Nat)) (.i pre.length) (.i w.c.n) (.i w.c.life) (.i w.c.next) (.l (rJ w.c.jobs)) (.l (rC w.c.log)) (.i w.c.sure) (.l (rS w.av)) (.l (rW w.net)) (.l (rW w.outs)) (.l (rB w.begun)) k0 k1 =
   cond (post.all (pr w)) k1 (k0 (.b false))
 | [],pre,hs,n,hn,k0,k1=>by
  obtain ⟨n,rfl⟩:=aV n
  simp only [jf,T.aj,T.ah,qE,aM,aX,wL,bq]
  rw [lI]
  rfl
 | x::post,pre,hs,n,hn,k0,k1=>by
  obtain ⟨n,rfl⟩:=aV n
  simp only [List.length_cons] at hs hn
  have ih:=aiQ post (pre++[x]) (by simp; omega) n (by omega) k0 k1
  rw [aG,List.append_assoc,List.singleton_append] at ih
  have hbl:=hw.Bn
  simp only [jf,T.aj,T.ah,ixC,bN pre (by omega),c0,c1,T.aI,hz0,yM,qE,aM,aX,wL,bq]
  rw [bK,bK,show (T.l [[.i w.c.n,.i w.c.life,.i w.c.next,.l (rJ w.c.jobs),.l (rC w.c.log),.i w.c.sure,.l (rS w.av),.l (rW w.net),.l (rW w.outs),.l (rB w.begun)]])=T.l [xw w] from rfl,Bv (by omega) w x.tx hbl,ih]
  simp only [T.aj,List.all_cons]
  unfold pr
  cases hy:x.yes with
  | false=>rfl
  | true =>
   rw [aC (by decide)]
   by_cases h:yQ x.tx w.begun<0
   ·rw [decide_eq_true h]; rfl
   ·obtain ⟨j,hj,hjl⟩:=PE h
    have Jk:=hw.yU _ (PG hjl)
    rw [decide_eq_false h,hj,cond_false,bK,show Int.toNat (j:Int)=j from rfl,YR w.begun hjl,bd1]
    simp only [T.ah]
    rw [Gn (by omega) _ w.c.n Jk]
    simp only [T.ah,Bool.not_true,Bool.false_or,Bool.not_false,Bool.true_and]
    have hsl:=mo (w.begun.getD j default).ops w.c.n
    have hol:=Jk.1
    have l1:=aiP m hm w hw (.l (rC (pre++x::post))) (.i ((pre++x::post).length:Nat)) (.i pre.length) (.b true) x.tx (bI (w.begun.getD j default).ops w.c.n) [] (fun s hs=>RY hs) (by rw [List.length_nil,Nat.zero_add]; omega) n (by omega) k0
    simp only [List.nil_append,List.length_nil,Int.natCast_zero] at l1
    rw [show ((ir (bI (w.begun.getD j default).ops w.c.n)).length:Int)=((bI (w.begun.getD j default).ops w.c.n).length:Int) by simp [ir]]
    refine (l1 _).trans ?_
    simp only [T.aj,hz0,bN pre (by omega)]
    rw [ih]
    cases (bI (w.begun.getD j default).ops w.c.n).all (pr1 w x.tx) <;> rfl
end
theorem Ux {m:Nat} (hm:2200000<=m) (w:aB) (hw:CW w) (K:T->An) :
  uZ m (.i w.c.n) (.i w.c.life) (.i w.c.next) (.l (rJ w.c.jobs)) (.l (rC w.c.log)) (.i w.c.sure) (.l (rS w.av)) (.l (rW w.net)) (.l (rW w.outs)) (.l (rB w.begun)) K=K (.b (xI w)):=by
 obtain ⟨m,rfl⟩:=aV m
 simp only [uZ,T.ah,kC,wL]
 refine (aiQ m (by omega) w hw w.c.log [] (by simpa using hw.log) m (by have:=hw.log; omega) _ _).trans ?_
 unfold xI
 cases w.c.log.all (pr w) <;> rfl
section
variable (m:Nat) (hm:1048800<=m) (w:aB) (hw:CW w)
include hm hw
end
def Z8 (w:aB):Int:=if Bw w=false then 1 else if yR w.av=false then 2 else if E5 w=false then 3 else if J6 w=false then 4 else if xI w=false then 5 else 0
theorem ix5 {m:Nat} (hm:20<=m) (a b c d e:Bool) (K:T->An):lM m (.l [[.b a],[.b b],[.b c],[.b d],[.b e]]) (.b false) K=K (.i (if a=false then 0 else if b=false then 1 else if c=false then 2 else if d=false then 3 else if e=false then 4 else -1)):=by
 obtain ⟨m,rfl⟩ : ∃ q,m=q+8:=⟨m-8,by omega⟩
 cases a <;> cases b <;> cases c <;> cases d <;> cases e <;> rfl
theorem adL {m:Nat} (hm:4000000<=m) (w:aB) (hw:CW w) (hl:(nsP w.av).length<=au) (K:T->An) :
  EO m (.i w.c.n) (.i w.c.life) (.i w.c.next) (.l (rJ w.c.jobs)) (.l (rC w.c.log)) (.i w.c.sure) (.l (rS w.av)) (.l (rW w.net)) (.l (rW w.outs)) (.l (rB w.begun)) K=K (.i (Z8 w)):=by
 obtain ⟨m,rfl⟩:=aV m
 simp only [EO,T.ah,wL]
 rw [RV (by omega) w hw,Xi (by omega) _ _ _ _ _ _ _ _ _ w.av hl,YU (by omega) w hw,abn (by omega) w hw,Ux (by omega) w hw,ix5 (by omega)]
 simp only [T.aj]
 congr 2
 unfold Z8
 cases Bw w <;> cases yR w.av <;> cases E5 w <;> cases J6 w <;> cases xI w <;> rfl
end Go.Proofs.YtpchnmbcbcfhjaaGreat

namespace Go.Proofs.YtpchnmbcbcfhjaaGreat
open Go Go.E Go.Proofs
theorem MI {x:aY} : ∀ {pre post:List aY},(∀ y∈pre,y.tx≠x.tx)->ow x.tx (pre++x::post)=some pre.length
 | [],post,h=>by simp [ow]
 | y::pre,post,h=>by
  simp only [List.cons_append,ow]
  rw [if_neg (h y (by simp)),MI fun z hz=>h z (by simp [hz])]
  rfl
theorem PL {x:dD} : ∀ {pre post:List dD},(∀ y∈pre,y.tx≠x.tx)->yP x.tx (pre++x::post)=some pre.length
 | [],post,h=>by simp [yP]
 | y::pre,post,h=>by
  simp only [List.cons_append,yP]
  rw [if_neg (h y (by simp)),PL fun z hz=>h z (by simp [hz])]
  rfl
theorem E8 {w:aB} (h:bV w) {o:dD} (ho:o∈w.begun) : ∃ j:Nat,yQ o.tx w.begun=j/\j<w.begun.length/\w.begun.getD j default=o:=by
 obtain ⟨pre,post,e⟩:=List.append_of_mem ho
 have hd:=h.Uq
 rw [e,List.pairwise_append] at hd
 have:yP o.tx w.begun=some pre.length:=by
  rw [e]
  exact PL fun y hy=>by have:=hd.2.2 y hy o (by simp); omega
 refine ⟨pre.length,?_,by rw [e]; simp,by rw [e]; simp [List.getD]⟩
 unfold yQ
 rw [this]
theorem Xl {w:aB} (h:bV w) : ∀ (post pre:List aY),w.c.log=pre++post->KT w.c.life w.c.next w.c.log pre.length post=true
 | [],pre,e=>rfl
 | x::post,pre,e=>by
  have ih:=Xl h post (pre++[x]) (by rw [e]; simp)
  rw [show (pre++[x]).length=pre.length+1 by simp] at ih
  have hx:x∈w.c.log:=by rw [e]; simp
  obtain ⟨⟨o,ho,htx⟩,-⟩:=h.log x hx
  have hb:=h.yU o ho
  have hd:=h.QB
  rw [e,List.pairwise_append] at hd
  have hc:chI x.tx w.c.log=(pre.length:Int):=by
   unfold chI
   rw [show ow x.tx w.c.log=some pre.length by rw [e]; exact MI fun y hy=>hd.2.2 y hy x (by simp)]
  unfold KT
  rw [ih,hc,decide_eq_true (show 1000<=x.tx/\x.tx<=w.c.life * 1000+w.c.next-1 by omega)]
  simp
theorem Xm {sh:List Int} : ∀ {l:List Int} {p:Option Int},(∀ y∈l,y∈sh)->l.Pairwise (· < ·)->(∀ q,p=some q->∀ y∈l,q<y)->O3 sh p l=true
 | [],_,_,_,_=>rfl
 | y::l,p,h1,h2,h3=>by
  rw [List.pairwise_cons] at h2
  unfold O3
  rw [decide_eq_true (h1 y (by simp)),Xm (fun z hz=>h1 z (by simp [hz])) h2.2 (fun q e z hz=>by cases e; exact h2.1 z hz)]
  cases p with
  | none=>rfl
  | some q=>simp only [decide_eq_true (h3 q rfl y (by simp))]; rfl
theorem YV {log:List aY} (hd:log.Pairwise fun a b=>a.tx≠b.tx) {j:dH} (h:JSt log j):ET log j=true:=by
 have at_ : ∀ c∈log,c.tx=j.tx->ow j.tx log=some 0 \/ ∃ k,ow j.tx log=some k/\log.getD k default=c:=fun c hc e=>by
  obtain ⟨pre,post,e2⟩:=List.append_of_mem hc
  rw [e2,List.pairwise_append] at hd
  right
  refine ⟨pre.length,?_,by rw [e2]; simp [List.getD]⟩
  rw [e2,<-e]
  exact MI fun y hy=>hd.2.2 y hy c (by simp)
 have at' : ∀ c∈log,c.tx=j.tx->∃ k,ow j.tx log=some k/\log.getD k default=c:=fun c hc e=>by
  obtain ⟨pre,post,e2⟩:=List.append_of_mem hc
  rw [e2,List.pairwise_append] at hd
  refine ⟨pre.length,?_,by rw [e2]; simp [List.getD]⟩
  rw [e2,<-e]
  exact MI fun y hy=>hd.2.2 y hy c (by simp)
 unfold ET
 rcases h with ⟨h1,h2⟩ | ⟨h1,h2⟩ | ⟨h1,h2⟩
 ·have:ow j.tx log=none:=by
   clear at_ at' hd
   induction log with
   | nil=>rfl
   | cons c l ih=>unfold ow; rw [if_neg (h2 c (by simp)),ih fun d hd=>h2 d (by simp [hd])]; rfl
  rw [this]; simp [h1]
 ·obtain ⟨k,e1,e2⟩:=at' _ h2 rfl
  rw [e1]; simp only [e2,h1]; rfl
 ·obtain ⟨k,e1,e2⟩:=at' _ h2 rfl
  rw [e1]; simp only [e2,h1]; rfl
theorem RZ {w:aB} (h:bV w) : ∀ {l:List dH} {p:Option dH},(∀ j∈l,j∈w.c.jobs)->(l.Pairwise fun a b=>a.tx<b.tx)->(∀ q,p=some q->∀ j∈l,q.tx<j.tx)->Gr w.c.n w.c.life w.c.next w.c.log p l=true
 | [],_,_,_,_=>rfl
 | j::l,p,h1,h2,h3=>by
  rw [List.pairwise_cons] at h2
  have hj:=h.jobs j (h1 j (by simp))
  obtain ⟨hok,-,-,hlt⟩:=h.yU _ hj.yU
  simp only at hok hlt
  unfold Gr
  rw [RZ h (fun z hz=>h1 z (by simp [hz])) h2.2 (fun q e z hz=>by cases e; exact h2.1 z hz)]
  have hp:Uk p j=true:=by
   cases p with
   | none=>rfl
   | some q=>exact decide_eq_true (h3 q rfl j (by simp))
  have hjp:aaV w.c.n w.c.life w.c.next w.c.log j=true:=by
   unfold aaV agL
   have:=hj.tx
   rw [decide_eq_true (show w.c.life * 1000<=j.tx/\j.tx<=w.c.life * 1000+w.c.next-1 by omega),hok,Xm (fun y hy=>(hj.yes.2 y hy).1) hj.yes.1 (fun q e=>by cases e),YV h.QB hj.st]
   rfl
  rw [hp,hjp]; rfl
theorem bV.aiR {w:aB} (h:bV w):vO w.c.n w.c.life w.c.next w.c.jobs w.c.log w.c.sure=true:=by
 have e0:KT w.c.life w.c.next w.c.log 0 w.c.log=true:=Xl h w.c.log [] rfl
 unfold vO
 rw [decide_eq_true h.n,decide_eq_true h.life,decide_eq_true h.next,decide_eq_true h.wu,decide_eq_true h.sure,e0,RZ h (fun j hj=>hj) h.WY (fun q e=>by cases e)]
 rfl
theorem K7 {w:aB} (h:bV w) : ∀ (post pre:List aF),w.av=pre++post->vR pre.length post=true
 | [],pre,e=>rfl
 | s::post,pre,e=>by
  have ih:=K7 h post (pre++[s]) (by rw [e]; simp)
  rw [show (pre++[s]).length=pre.length+1 by simp] at ih
  have hs:w.av[pre.length]? = some s:=by rw [e]; simp
  obtain ⟨hid,hsi,-⟩:=h.sh _ _ hs
  obtain ⟨seen,e2,-,h3,-⟩:=hsi.inv
  have hl:pre.length<w.av.length:=by rw [e]; simp
  have hn:=h.n
  have aiS:=h.shl
  unfold vR
  have hok:yO s=true:=by
   unfold yO
   rw [decide_eq_true (show 0<=s.id/\s.id<=7 by rw [hid]; omega),decide_eq_true hsi.sure,decide_eq_true h3,e2]
   simp only [mapOf,CZ,Option.isSome_some,Bool.true_and]
   rw [Bu s.map fun x _=>Xe x,Bu s.held fun x _=>YL x]
   rfl
  rw [hok,ih,hid]
  simp
theorem Xn : ∀ {a b c:List UInt8},Op.bytesLess a b=true->Op.bytesLess b c=true->Op.bytesLess a c=true
 | a,b,[],_,h2=>by simp [Op.bytesLess] at h2
 | [],b,c::z,_,_=>rfl
 | a::x,[],c::z,h1,_=>by simp [Op.bytesLess] at h1
 | a::x,b::y,c::z,h1,h2=>by
  simp only [Op.bytesLess,Bool.or_eq_true,Bool.and_eq_true,decide_eq_true_eq,beq_iff_eq] at h1 h2 ⊢
  rcases h1 with h1 | ⟨rfl,h1⟩ <;> rcases h2 with h2 | ⟨rfl,h2⟩
  ·exact .inl (UInt8.lt_trans h1 h2)
  ·exact .inl h1
  ·exact .inl h2
  ·exact .inr ⟨rfl,Xn h1 h2⟩
theorem YW : ∀ {l:List fB} {p q:fB},blt p.key q.key=true->uf (some q) l=true->uf (some p) l=true
 | [],_,_,_,_=>rfl
 | x::l,p,q,h,h2=>by
  unfold uf at h2 ⊢
  simp only [Bool.and_eq_true] at h2 ⊢
  exact ⟨⟨h2.1.1,Xn h h2.1.2⟩,h2.2⟩
theorem YX {l:List fB} {p:fB} (h:uf (some p) l=true):uf none l=true:=by
 cases l with
 | nil=>rfl
 | cons x l =>
  unfold uf at h ⊢
  simp only [Bool.and_eq_true] at h ⊢
  exact ⟨⟨h.1.1,trivial⟩,h.2⟩
theorem Dc (f:fB->Bool) : ∀ {l:List fB} {p:Option fB},uf p l=true->uf p (l.filter f)=true
 | [],_,_=>rfl
 | x::l,p,h=>by
  have h':=h
  unfold uf at h
  simp only [Bool.and_eq_true] at h
  cases hf:f x with
  | true =>
   rw [List.filter_cons_of_pos hf]
   unfold uf
   simp only [Bool.and_eq_true]
   exact ⟨h.1,Dc f h.2⟩
  | false =>
   rw [List.filter_cons_of_neg (by rw [hf]; decide)]
   refine Dc f ?_
   cases p with
   | none=>exact YX h.2
   | some q=>exact YW h.1.2 h.2
theorem abo {ops:List fB} {n s:Int} (h:gF ops=true) (hs:s∈bI ops n):gF (ng ops s n)=true:=by
 unfold gF at h ⊢
 simp only [Bool.and_eq_true,decide_eq_true_eq] at h ⊢
 have hl:=C8 ops s n
 refine ⟨Dc _ h.1,?_,by omega⟩
 unfold bI at hs
 rw [Bd] at hs
 rcases hs with hs | hs
 ·cases hs
 ·obtain ⟨o,ho,e⟩:=List.mem_map.1 hs
  have:o∈ng ops s n:=List.mem_filter.2 ⟨ho,by simpa using e⟩
  exact List.length_pos_of_mem this
theorem bV.word {w:aB} (h:bV w) {x:bB} (hx:NW w x):K5 w.av.length x=true:=by
 obtain ⟨hsh,o,ho,htx,hk⟩:=hx
 have hn:=h.n
 have hlf:=h.life
 have hnx:=h.next
 obtain ⟨hok,-,h1,h2⟩:=h.yU o ho
 have aiS:=h.shl
 unfold K5 EZ
 rw [decide_eq_true (show 0<=x.bQ/\x.bQ<=7 by omega),decide_eq_true (show 1<=x.tx/\x.tx<=1000000 by omega),decide_eq_true (show x.bQ<(w.av.length:Int) by omega)]
 simp only [Bool.true_and,Bool.and_true]
 rcases hk with ⟨k1,k2,k3,k4⟩ | ⟨k0,⟨k1,-⟩ | ⟨k1,-,-⟩ | ⟨k1,k2⟩⟩
 ·rw [if_pos k1,k2,k4,abo hok k3]; rfl
 ·simp [k1,k0]
 ·simp [k1,k0]
 ·simp [k1,k0,k2]
theorem bV.aiT {w:aB} (h:bV w) {x:bB} (hx:OW w x):K5 w.av.length x=true:=by
 obtain ⟨hsh,⟨o,ho,htx⟩,k0,k1,-⟩:=hx
 have hn:=h.n
 have hlf:=h.life
 have hnx:=h.next
 obtain ⟨hok,-,h1,h2⟩:=h.yU o ho
 have aiS:=h.shl
 unfold K5 EZ
 rw [decide_eq_true (show 0<=x.bQ/\x.bQ<=7 by omega),decide_eq_true (show 1<=x.tx/\x.tx<=1000000 by omega),decide_eq_true (show x.bQ<(w.av.length:Int) by omega)]
 simp [k1,k0]
theorem Xo {w:aB} (h:bV w) : ∀ (post pre:List dD),w.begun=pre++post->PD w.c.life w.c.next w.begun pre.length post=true
 | [],pre,e=>rfl
 | o::post,pre,e=>by
  have ih:=Xo h post (pre++[o]) (by rw [e]; simp)
  rw [show (pre++[o]).length=pre.length+1 by simp] at ih
  obtain ⟨hok,-,h1,h2⟩:=h.yU o (by rw [e]; simp)
  have hd:=h.Uq
  rw [e,List.pairwise_append] at hd
  have hi:yQ o.tx w.begun=(pre.length:Int):=by
   unfold yQ
   rw [show yP o.tx w.begun=some pre.length by rw [e]; exact PL fun y hy=>by have:=hd.2.2 y hy o (by simp); omega]
  unfold PD aeV
  rw [ih,hok,hi,decide_eq_true (show 1000<=o.tx/\o.tx<=w.c.life * 1000+w.c.next-1 by omega)]
  simp
theorem bV.Gz {w:aB} (h:bV w):Gz w=true:=by
 unfold Go.Proofs.YtpchnmbcbcfhjaaGreat.Gz
 have e0:PD w.c.life w.c.next w.begun 0 w.begun=true:=Xo h w.begun [] rfl
 rw [e0,decide_eq_true h.Bn]
 have h1:w.c.log.all (abj w.begun)=true:=List.all_eq_true.2 fun c hc=>by
  obtain ⟨⟨o,ho,htx⟩,-⟩:=h.log c hc
  obtain ⟨j,e,-,-⟩:=E8 h ho
  unfold abj
  rw [<-htx,e,decide_eq_false (by omega)]; rfl
 have h2:w.c.jobs.all (abk w.begun)=true:=List.all_eq_true.2 fun x hx=>by
  obtain ⟨j,e,-,e2⟩:=E8 h (h.jobs x hx).yU
  simp only at e
  unfold abk
  rw [e,decide_eq_false (by omega),show Int.toNat (j:Int)=j from rfl,e2,Bu x.ops fun o _=>J5 o]; rfl
 rw [h1,h2]; rfl
theorem bV.world {w:aB} (h:bV w):Bw w=true:=by
 have e0:vR 0 w.av=true:=K7 h w.av [] rfl
 unfold Bw Gy
 rw [h.aiR,e0,h.Gz,decide_eq_true h.xq,decide_eq_true h.Bl,List.all_eq_true.2 fun x hx=>h.word (h.net x hx),List.all_eq_true.2 fun x hx=>h.aiT (h.outs x hx)]
 simp [h.shl]
theorem bV.mem {w:aB} (h:bV w) {s:aF} (hs:s∈w.av) : ∃ k,ShI w k s/\w.av[k]? = some s:=by
 obtain ⟨k,hk,rfl⟩:=List.getElem_of_mem hs
 have e:w.av[k]? = some w.av[k]:=List.getElem?_eq_getElem hk
 exact ⟨k,h.sh _ _ e,e⟩
theorem bV.aeW {w:aB} (h:bV w):yR w.av=true:=by
 unfold yR
 refine List.all_eq_true.2 fun s hs=>List.all_eq_true.2 fun r hr=>?_
 unfold agZ
 by_cases hk:r.kind=2
 ·have hg:Z6 w.av r.tx=false:=by
   unfold Z6
   rw [List.any_eq_false]
   intro s' hs' h2
   rw [Xh,List.any_eq_true] at h2
   obtain ⟨r',hr',h3⟩:=h2
   simp only [Bool.and_eq_true,beq_iff_eq] at h3
   obtain ⟨k,hS,-⟩:=h.mem hs
   obtain ⟨k',hS',-⟩:=h.mem hs'
   have c1:=List.mem_of_mem_take ((hS.2.2 r hr).2.1 hk)
   have c2:=(hS'.2.2 r' hr').2.2 h3.1
   rw [h3.2] at c2
   have hd:=h.QB
   rcases c2 with c2 | ⟨-,c2⟩
   ·have c2:=List.mem_of_mem_take c2
    have:(⟨r.tx,true⟩:aY)=⟨r.tx,false⟩:=by
     clear hS hS'
     generalize w.c.log=l at c1 c2 hd
     induction l with
     | nil=>cases c1
     | cons c l ih =>
      rw [List.pairwise_cons] at hd
      rcases List.mem_cons.1 c1 with e1 | c1 <;> rcases List.mem_cons.1 c2 with e2 | c2
      ·exact e1.trans e2.symm
      ·exact absurd (show c.tx=r.tx by rw [<-e1]) (hd.1 _ c2)
      ·exact absurd (show c.tx=r.tx by rw [<-e2]) (hd.1 _ c1)
      ·exact ih c1 c2 hd.2
    cases this
   ·exact c2 _ c1 rfl
  rw [hg]; simp
 ·simp [hk]
theorem Xp {sure tx:Int} : ∀ {l:List aY} {i:Nat},(⟨tx,true⟩:aY)∈l.take (sure-i).toNat->YS sure tx i l=true
 | [],i,h=>by simp at h
 | c::l,i,h=>by
  by_cases hi:(i:Int)<sure
  ·obtain ⟨q,hq⟩ : ∃ q,(sure-i).toNat=q+1:=⟨(sure-i).toNat-1,by omega⟩
   rw [hq,List.take_succ_cons] at h
   unfold YS
   rcases List.mem_cons.1 h with e | h
   ·rw [<-e,decide_eq_true hi]; simp
   ·rw [Xp (i:=i+1) (by rw [show (sure-((i+1:Nat):Int)).toNat=q by omega]; exact h),Bool.or_true]
  ·rw [show (sure-(i:Int)).toNat=0 by omega] at h; simp at h
theorem bV.backed {w:aB} (h:bV w):E5 w=true:=by
 unfold E5
 refine List.all_eq_true.2 fun s hs=>List.all_eq_true.2 fun r hr=>?_
 unfold bk1
 by_cases hk:r.kind=2
 ·obtain ⟨k,hS,-⟩:=h.mem hs
  have:=(hS.2.2 r hr).2.1 hk
  unfold Jf
  rw [Xp (by rw [Int.natCast_zero,Int.sub_zero]; exact this),Bool.or_true]
 ·simp [hk]
theorem bV.whole {w:aB} (h:bV w):J6 w=true:=by
 unfold J6
 refine List.all_eq_true.2 fun s hs=>List.all_eq_true.2 fun r hr=>?_
 unfold wh1
 by_cases hk:r.kind=1
 ·obtain ⟨k,hS,-⟩:=h.mem hs
  obtain ⟨o,ho,htx,hops⟩:=(hS.2.2 r hr).1
  obtain ⟨j,e,-,e2⟩:=E8 h ho
  rw [<-htx,e,decide_eq_false (by omega),show Int.toNat (j:Int)=j from rfl,e2,hops hk,hS.1,Bu _ fun o _=>J5 o]
  simp
 ·simp [hk]
theorem bV.promised {w:aB} (h:bV w):xI w=true:=by
 unfold xI
 refine List.all_eq_true.2 fun c hc=>?_
 unfold pr
 cases hy:c.yes with
 | false=>rfl
 | true =>
  obtain ⟨⟨o,ho,htx⟩,h2⟩:=h.log c hc
  obtain ⟨j,e,-,e2⟩:=E8 h ho
  rw [<-htx,e,decide_eq_false (by omega),show Int.toNat (j:Int)=j from rfl,e2]
  simp only [Bool.not_true,Bool.false_or,Bool.not_false,Bool.true_and]
  refine List.all_eq_true.2 fun s hs=>?_
  obtain ⟨sh,e3,r,hr,h4,h5⟩:=h2 hy o ho htx s hs
  have hlt:=(List.getElem?_eq_some_iff.1 e3).1
  have hnn:=RY hs
  unfold pr1
  rw [decide_eq_true (by omega),show w.av.getD s.toNat default=sh by rw [List.getD,e3]; rfl]
  have hsi:=(h.sh _ _ e3).2.1.sure
  unfold Xk
  rw [Bool.true_and,List.any_eq_true]
  refine ⟨r,?_,?_⟩
  ·have:Dq sh=sh.sure.toNat:=by
    have:=afK sh
    unfold zW zV at this
    split at this <;> split at this <;> omega
   rw [this]; exact hr
  ·unfold Xj
   rw [h4,htx]
   rcases h5 with h5 | h5 <;> simp [h5]
theorem bV.safe {w:aB} (h:bV w):Z8 w=0:=by
 unfold Z8
 rw [h.world,h.aeW,h.backed,h.whole,h.promised]
 rfl
end Go.Proofs.YtpchnmbcbcfhjaaGreat

namespace Go.Proofs.YtpchnmbcbcfhjaaGreat
open Go Go.E Go.Proofs
theorem bV.cw {w:aB} (h:bV w):CW w:=by
 have hb:=uK.of h
 have hbl:=h.Bn
 have hjl:=h.Bh
 have hll:=h.wu
 have hnl:=h.xq
 have hol:=h.Bl
 have hsl:=hb.shl
 refine ⟨⟨by omega,fun j hj=>⟨(hb.c.jobs j hj).1,by have:=(hb.c.jobs j hj).2.2; unfold afu; omega⟩⟩,by omega,by omega,fun s hs=>?_,by omega,fun x hx=>(hb.net x hx).1,by omega,fun x hx=>(hb.out x hx).1,by omega,fun o ho=>?_⟩
 ·obtain ⟨k,hS,-⟩:=h.mem hs
  obtain ⟨seen,-,hi,h1,h2⟩:=hS.2.1.inv
  exact ⟨by omega,by omega,by omega,fun r hr=>(ZY (hi.ok r hr) (hS.2.1.ops r hr)).b⟩
 ·obtain ⟨h1,h2,-⟩:=h.yU o ho
  exact ⟨by have:=(xG h1).2; omega,fun p hp=>(h2 p hp).b⟩
theorem aeX {sh:List aF} {b:Nat} (h : ∀ s∈sh,s.log.length<=b):(nsP sh).length<=sh.length * b:=by
 induction sh with
 | nil=>simp [nsP]
 | cons s sh ih =>
  have:=ih fun x hx=>h x (by simp [hx])
  have h1:=h s (by simp)
  have e:nsP (s::sh)=(s.log.map fun r=>(r.kind,r.tx))++nsP sh:=by simp [nsP]
  rw [e,List.length_append,List.length_map,List.length_cons,Nat.add_mul,Nat.one_mul]
  omega
theorem bV.nsl {w:aB} (h:bV w):(nsP w.av).length<=au:=by
 have h1 : ∀ s∈w.av,s.log.length<=300:=fun s hs=>by
  obtain ⟨k,hS,-⟩:=h.mem hs
  obtain ⟨seen,-,-,h1,-⟩:=hS.2.1.inv
  omega
 have h2:=aeX h1
 have hn:=h.n
 have hl:=h.shl
 have:w.av.length * 300<=8 * 300:=Nat.mul_le_mul_right _ (by omega)
 unfold au
 omega
end Go.Proofs.YtpchnmbcbcfhjaaGreat

