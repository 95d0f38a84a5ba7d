/- A part of the proof: texts TK1, TK2, TK3, TK4, TK5, TK6, TK7, TK8, TK9, TKA, TKB, TKC, TKD, TKE: see the last part's opening words. -/
import Derived.Test.YtjjonejgbdbnjaaGreatA
set_option linter.unusedVariables false
set_option linter.unusedSimpArgs false
set_option linter.unnecessarySimpa false
namespace Go.Proofs.YtjjonejgbdbnjaaGreat
open Go Go.E Go.Proofs
def pIx (k:ByteArray):List bN->Option Nat
 | []=>none
 | p::l=>if keq p.key k then some 0 else (pIx k l).map (· + 1)
theorem ad4 {k:ByteArray} : ∀ {l:List bN} {j:Nat},pIx k l=some j->j<l.length
 | [],j,h=>by cases h
 | p::l,j,h=>by
  unfold pIx at h
  split at h
  ·cases h; simp
  ·cases h2:pIx k l with
   | none=>rw [h2] at h; cases h
   | some i=>rw [h2] at h; cases h; have:=ad4 h2; simp; omega
theorem acF (k:ByteArray) : ∀ l:List bN,uf k l=(match pIx k l with | some j=>((l.getD j default).val,true) | none=>(emp,false))
 | []=>rfl
 | p::l=>by
  unfold uf pIx
  cases hk:keq p.key k with
  | true=>rfl
  | false =>
   simp only [Bool.false_eq_true,if_false]
   rw [acF k l]
   cases pIx k l <;> rfl
theorem afc (k v:ByteArray) : ∀ l:List bN,bq k v l=(pIx k l).map fun j=>l.set j ⟨(l.getD j default).key,v⟩
 | []=>rfl
 | p::l=>by
  unfold bq pIx
  cases hk:keq p.key k with
  | true=>rfl
  | false =>
   simp only [Bool.false_eq_true,if_false]
   rw [afc k v l]
   cases pIx k l <;> rfl
theorem acG (m:Nat) (hm:1<=m) (k:ByteArray) : ∀ (post pre:List bN),pre.length+post.length<=1048576->∀ n,post.length<n->∀ k0 k1,
  aZ m n (.l (rP (pre++post))) (.l [[.s k]]) (.i ((pre++post).length:Nat)) (.i pre.length) k0 k1=(match pIx k post with | some j=>k0 (.i ((pre.length+j:Nat):Int)) | none=>k1)
 | [],pre,hs,n,hn,k0,k1=>by
  obtain ⟨n,rfl⟩ : ∃ m',n=m'+1:=⟨n-1,by omega⟩
  simp only [aZ,T.ak,T.ah]
  rw [aJ (by simp)]
  rfl
 | x::post,pre,hs,n,hn,k0,k1=>by
  obtain ⟨n,rfl⟩ : ∃ m',n=m'+1:=⟨n-1,by omega⟩
  obtain ⟨m,rfl⟩ : ∃ m',m=m'+1:=⟨m-1,by omega⟩
  simp only [List.length_cons] at hs hn
  have ih:=acG (m+1) hm k post (pre++[x]) (by simp; omega) n (by omega) k0 k1
  rw [aH,List.append_assoc,List.singleton_append] at ih
  have r1:cO (.l [[T.s k]])=[T.s k]:=rfl
  simp only [aZ,Dy,T.ak,T.ah,ixP,bD pre (by omega),r1,List.getD_cons_zero,T.aI,p0,T.jP]
  rw [aj (by simp; omega),aj (by simp; omega)]
  unfold pIx
  cases h:keq x.key k with
  | true=>rw [aA (show (x.key.toList==k.toList)=true from h)]; rfl
  | false =>
   rw [aC (show (x.key.toList==k.toList)=false from h)]
   refine Eq.trans ih ?_
   simp only [Bool.false_eq_true,if_false]
   cases pIx k post with
   | none=>rfl
   | some j=>simp only [Option.map_some]; congr 3; simp; omega
def pI (k:ByteArray) (l:List bN):Int:=match pIx k l with | some j=>(j:Int) | none=>-1
theorem V9 {m:Nat} (hm:1048600<=m) (l:List bN) (k:ByteArray) (hl:l.length<=1048576) (K:T->An):xw m (.l (rP l)) (.s k) K=K (.i (pI k l)):=by
 obtain ⟨m,rfl⟩ : ∃ m',m=m'+1:=⟨m-1,by omega⟩
 obtain ⟨m,rfl⟩ : ∃ m',m=m'+1:=⟨m-1,by omega⟩
 have r2:cO (.l [[T.s k]])=[T.s k]:=rfl
 simp only [xw,dW,r2,T.ah,vZ]
 refine (acG m (by omega) k l [] (by simp; omega) m (by omega) _ _).trans ?_
 unfold pI
 cases pIx k l <;> simp
theorem aiu (l:List bN) {j:Nat} (h:j<l.length):(rP l).getD j []=(l.getD j default).r:=by simp [List.getD,h]
theorem ajR {m:Nat} (hm:1048610<=m) (l:List bN) (k:ByteArray) (hl:l.length<=1048576) (K:T->T->An):Ci m (.l (rP l)) (.s k) K=K (.s (uf k l).1) (.b (uf k l).2):=by
 obtain ⟨m,rfl⟩ : ∃ m',m=m'+1:=⟨m-1,by omega⟩
 simp only [Ci,T.ah]
 rw [V9 (by omega) l k hl,acF]
 unfold pI
 cases h:pIx k l with
 | none=>rfl
 | some j =>
  have hj:=ad4 h
  simp only [T.ak]
  rw [aJ (by omega),aj (by simp; omega),show Int.toNat (j:Int)=j from rfl,aiu l hj]
  rfl
theorem JW (m:Nat) (hm:1048620<=m) (mp:List bN) (hp:mp.length<=1048576) : ∀ (post pre:List eY),pre.length+post.length<=1048576->∀ n,post.length<n->∀ k0 k1,
  kR m n (.l (rP mp)) (.l (rO (pre++post))) (.i ((pre++post).length:Nat)) (.i pre.length) k0 k1=cond (oQ mp post) k1 (k0 (.b false))
 | [],pre,hs,n,hn,k0,k1=>by
  obtain ⟨n,rfl⟩ : ∃ m',n=m'+1:=⟨n-1,by omega⟩
  simp only [kR,T.ak,T.ah]
  rw [aJ (by simp)]
  rfl
 | x::post,pre,hs,n,hn,k0,k1=>by
  obtain ⟨n,rfl⟩ : ∃ m',n=m'+1:=⟨n-1,by omega⟩
  simp only [List.length_cons] at hs hn
  have ih:=JW m hm mp hp post (pre++[x]) (by simp; omega) n (by omega) k0 k1
  rw [aH,List.append_assoc,List.singleton_append] at ih
  simp only [kR,T.ak,T.ah,ixO,bD pre (by omega),o0,o1,o2,T.jP]
  rw [aj (by simp <;> omega),aj (by simp <;> omega)]
  have e:oQ mp (x::post)=(aci mp x&&oQ mp post):=rfl
  rw [e]
  unfold aci
  by_cases h3:x.kind=3
  ·rw [aC (by simp [h3]),ajR (by omega) mp x.key hp]
   simp only [T.aI,T.jP,h3,bne_self_eq_false,Bool.false_or]
   rw [show (⟨#[]⟩:ByteArray)=emp from rfl]
   cases h1:((uf x.key mp).2 == !(x.val.toList==emp.toList)) with
   | false=>rw [aC (by rfl)]; rfl
   | true =>
    rw [aA (by rfl)]
    cases h2:((uf x.key mp).1.toList==x.val.toList) with
    | false=>rw [aA (by rfl)]; rfl
    | true=>rw [aC (by rfl)]; exact ih
  ·rw [aA (by simp [h3]),ih]
   have:(x.kind != 3)=true:=by simp [h3]
   rw [this]; rfl
theorem agh {m:Nat} (hm:1048630<=m) (mp:List bN) (l:List eY) (hp:mp.length<=1048576) (hl:l.length<=1048576) (K:T->An):Gi m (.l (rP mp)) (.l (rO l)) K=K (.b (oQ mp l)):=by
 obtain ⟨m,rfl⟩ : ∃ m',m=m'+1:=⟨m-1,by omega⟩
 simp only [Gi,T.ah,jJ]
 refine (JW m (by omega) mp hp l [] (by simp; omega) m (by omega) _ _).trans ?_
 cases oQ mp l <;> rfl
theorem OV (m:Nat) (k v:ByteArray) : ∀ (post pre:List bN),pre.length+post.length<=4611686018427387->∀ n,post.length<n->∀ k0,
  lU m n (.s k) (.s v) (.i pre.length) (.l (rP (pre++post))) k0=k0 (.s k) (.s v) (.i ((pre.length+EB k post:Nat):Int)) (.l (rP (pre++post)))
 | [],pre,hs,n,hn,k0=>by
  obtain ⟨n,rfl⟩ : ∃ m',n=m'+1:=⟨n-1,by omega⟩
  simp only [lU,T.ak,T.ah,EB]
  rw [aC (by simp)]
  rfl
 | x::post,pre,hs,n,hn,k0=>by
  obtain ⟨n,rfl⟩ : ∃ m',n=m'+1:=⟨n-1,by omega⟩
  simp only [List.length_cons] at hs hn
  have ih:=OV m k v post (pre++[x]) (by simp; omega) n (by omega) k0
  rw [aH,List.append_assoc,List.singleton_append] at ih
  simp only [lU,T.ak,T.ah,ixP,bD pre (by omega),EB,p0,T.jP]
  rw [aA (by simp <;> omega),aj (by simp <;> omega),aj (by simp <;> omega)]
  cases hk:kle x.key k with
  | true =>
   rw [aA (show (Op.bytesLess x.key.toList k.toList||(x.key.toList==k.toList))=true from hk)]
   refine ih.trans ?_
   have e:(pre++[x]).length+EB k post=pre.length+(EB k post+1):=by simp; omega
   rw [if_pos rfl,e]
  | false =>
   rw [aC (show (Op.bytesLess x.key.toList k.toList||(x.key.toList==k.toList))=false from hk)]
   rfl
theorem ajS {m:Nat} (hm:1048610<=m) (l:List bN) (k v:ByteArray) (hl:l.length<=1048576) (K:T->An):Cj m (.l (rP l)) (.s k) (.s v) K=K (.l (rP (adS l k v))):=by
 obtain ⟨m,rfl⟩ : ∃ m',m=m'+1:=⟨m-1,by omega⟩
 simp only [Cj,T.ah]
 rw [V9 (by omega) l k hl]
 unfold adS
 rw [afc]
 unfold pI
 cases h:pIx k l with
 | none =>
  simp only [T.ak,Option.map_none]
  rw [aJ (by omega)]
  refine (OV m k v l [] (by simp; omega) m (by omega) _).trans ?_
  have hc:=Sq k l
  obtain ⟨m,rfl⟩ : ∃ m',m=m'+1:=⟨m-1,by omega⟩
  simp only [fH,T.ah,T.ak,List.nil_append,List.length_nil,Nat.zero_add,show Int.toNat (EB k l:Int)=EB k l from rfl]
  rw [aA (by simp [aD]; omega)]
  simp [rP,List.map_take,List.map_drop,bN.r]
 | some j =>
  have hj:=ad4 h
  simp only [T.ak,Option.map_some]
  rw [aj (by omega),aj (by simp; omega),show Int.toNat (j:Int)=j from rfl,aj (by simpa using hj),aiu l hj]
  congr 2
  simp [rP,List.map_set,bN.r]
theorem ajT {m:Nat} (hm:1<=m) (l:List bN) (k:ByteArray) (hl:l.length<=1048576) (K:T->An):BP m (.l (rP l)) (.s k) K=K (.l (rP (aco l k))):=by
 obtain ⟨m,rfl⟩ : ∃ m',m=m'+1:=⟨m-1,by omega⟩
 simp only [BP,T.ah]
 rw [aj (by rw [vZ]; unfold aD; omega)]
 congr 2
 unfold BN aco rP
 rw [List.filter_map]
 rfl
theorem JX (m:Nat) (hm:1048620<=m) : ∀ (post pre:List eY) (acc:List bN),pre.length+post.length<=1048576->acc.length+post.length<=1048576->∀ n,post.length<n->∀ k0,
  iF m n (.l (rO (pre++post))) (.i ((pre++post).length:Nat)) (.i pre.length) (.l (rP acc)) k0=k0 (.l (rP (sZ acc post)))
 | [],pre,acc,hs,ha,n,hn,k0=>by
  obtain ⟨n,rfl⟩ : ∃ m',n=m'+1:=⟨n-1,by omega⟩
  simp only [iF,T.ak,T.ah]
  rw [aJ (by simp)]
  rfl
 | x::post,pre,acc,hs,ha,n,hn,k0=>by
  obtain ⟨n,rfl⟩ : ∃ m',n=m'+1:=⟨n-1,by omega⟩
  simp only [List.length_cons] at hs hn ha
  have h1:=VK acc x
  have ih:=JX m hm post (pre++[x]) (app1 acc x) (by simp; omega) (by omega) n (by omega) k0
  rw [aH,List.append_assoc,List.singleton_append] at ih
  simp only [iF,T.ak,T.ah,ixO,bD pre (by omega),o0,o1,o2]
  rw [aj (by simp <;> omega),aj (by simp <;> omega),ajS (by omega) acc x.key x.val (by omega),ajT (by omega) acc x.key (by omega)]
  simp only [T.ah]
  show _=k0 (.l (rP (sZ (app1 acc x) post)))
  rw [<-ih]
  unfold app1
  by_cases h1:x.kind=1
  ·rw [aA (by simp [h1]),if_pos h1]
  ·rw [aC (by simp [h1]),if_neg h1]
   by_cases h2:x.kind=2
   ·rw [aA (by simp [h2]),if_pos h2]
   ·rw [aC (by simp [h2]),if_neg h2]
theorem agi {m:Nat} (hm:1048630<=m) (mp:List bN) (l:List eY) (hs:mp.length+l.length<=1048576) (K:T->An):Gl m (.l (rP mp)) (.l (rO l)) K=K (.l (rP (sZ mp l))):=by
 obtain ⟨m,rfl⟩ : ∃ m',m=m'+1:=⟨m-1,by omega⟩
 simp only [Gl,T.ah,jJ]
 obtain ⟨q,rfl⟩ : ∃ q,m=q+1:=⟨m-1,by omega⟩
 rw [show ∀ k,dJ (q+1) (.l (rP mp)) k=k (.l (rP mp)) from fun k=>by
  simp only [dJ,T.ah]
  rw [aj (by rw [vZ]; unfold aD; omega)]]
 exact (JX (q+1) (by omega) l [] mp (by simp; omega) (by omega) (q+1) (by omega) _).trans rfl
end Go.Proofs.YtjjonejgbdbnjaaGreat

namespace Go.Proofs.YtjjonejgbdbnjaaGreat
open Go Go.E Go.Proofs
def Bd (tx:Int) (l:List bE):Nat->Option Nat
 | 0=>none
 | i+1=>if (l.getD i default).tx=tx then some i else Bd tx l i
theorem aiv (l:List bE) {j:Nat} (h:j<l.length):(rR l).getD j []=(l.getD j default).r:=by simp [List.getD,h]
theorem Wd (m:Nat) (tx:Int) (l:List bE) (hl:l.length<=1048576) : ∀ (i n:Nat),i<=l.length->i<n->∀ k0 k1,
  ni m n (.l (rR l)) (.i tx) (.i ((i:Int)-1)) k0 k1=match Bd tx l i with | some j=>k0 (.i (j:Int)) | none=>k1
 | 0,n,hi,hn,k0,k1=>by
  obtain ⟨n,rfl⟩ : ∃ m',n=m'+1:=⟨n-1,by omega⟩
  simp only [ni,T.ak,T.ah,Bd]
  rw [aJ (by omega)]
 | i+1,n,hi,hn,k0,k1=>by
  obtain ⟨n,rfl⟩ : ∃ m',n=m'+1:=⟨n-1,by omega⟩
  have ih:=Wd m tx l hl i n (by omega) (by omega) k0 k1
  have e:(((i+1:Nat):Int)-1)=(i:Int):=by omega
  have hw:IntKind.i64.wrap ((i:Int)-1)=(i:Int)-1:=by rw [IntKind.wrap_i64]; omega
  rw [e]
  simp only [ni,T.ak,T.ah,Bd]
  rw [aj (by omega),aj (by simp; omega),show Int.toNat (i:Int)=i from rfl,aiv l (by omega),hw,rd1,ih]
  by_cases h:(l.getD i default).tx=tx
  ·rw [aA (by simpa using h),if_pos h]
  ·rw [aC (by simpa using h),if_neg h]
def aiw (tx:Int) (l:List bE):Int:=match Bd tx l l.length with | some j=>(j:Int) | none=>-1
theorem YA {m:Nat} (hm:1048590<=m) (l:List bE) (tx:Int) (hl:l.length<=1048576) (K:T->An):AJ m (.l (rR l)) (.i tx) K=K (.i (aiw tx l)):=by
 obtain ⟨m,rfl⟩ : ∃ m',m=m'+1:=⟨m-1,by omega⟩
 have hw:IntKind.i64.wrap ((l.length:Int)-1)=(l.length:Int)-1:=by rw [IntKind.wrap_i64]; omega
 simp only [AJ,T.ah,fP,hw]
 refine (Wd m tx l hl l.length m (Nat.le_refl _) (by omega) _ _).trans ?_
 unfold aiw
 cases Bd tx l l.length <;> rfl
theorem GH {tx:Int} {l:List bE} : ∀ {i j:Nat},Bd tx l i=some j->j<i/\(l.getD j default).tx=tx
 | 0,j,h=>by cases h
 | i+1,j,h=>by
  unfold Bd at h
  split at h
  ·cases h; exact ⟨Nat.lt_succ_self _,by assumption⟩
  ·have:=GH h; exact ⟨by omega,this.2⟩
theorem Wh {tx:Int} {l:List bE} : ∀ {i:Nat},Bd tx l i=none->∀ j,j<i->(l.getD j default).tx≠tx
 | 0,h,j,hj=>absurd hj (Nat.not_lt_zero _)
 | i+1,h,j,hj=>by
  unfold Bd at h
  split at h
  ·cases h
  ·rename_i hne
   by_cases e:j=i
   ·subst e; exact hne
   ·exact Wh h j (by omega)
theorem Kq {l:List bE} {j:Nat} (h:j<l.length):l.getD j default∈l:=by simp [List.getD,h]
theorem acH {tx:Int} {l:List bE} : Bd tx l l.length=none ↔ ∀ r∈l,r.tx≠tx:=by
 constructor
 ·intro h r hr
  obtain ⟨j,hj,rfl⟩:=List.getElem_of_mem hr
  have:=Wh h j hj
  simpa [List.getD,hj] using this
 ·intro h
  cases h2:Bd tx l l.length with
  | none=>rfl
  | some j =>
   obtain ⟨h3,h4⟩:=GH h2
   exact absurd h4 (h _ (Kq h3))
theorem ajU {tx:Int} {l:List bE} (hd:l.Pairwise fun a b=>a.tx≠b.tx):Bd tx l l.length=sw tx l:=by
 cases h2:Bd tx l l.length with
 | none=>exact (EF.2 (acH.1 h2)).symm
 | some j =>
  obtain ⟨h3,h4⟩:=GH h2
  cases h5:sw tx l with
  | none=>exact absurd h4 (EF.1 h5 _ (Kq h3))
  | some i =>
   have h6:=zo h5
   have h7:=Kn h5
   congr 1
   rw [List.pairwise_iff_getElem] at hd
   rcases Nat.lt_trichotomy i j with h | h | h
   ·exact absurd (by simpa [List.getD,h3,h6] using h7.trans h4.symm) (hd i j h6 h3 h)
   ·exact h.symm
   ·exact absurd (by simpa [List.getD,h3,h6] using h4.trans h7.symm) (hd j i h3 h6 h)
theorem Wi (a b:ByteArray):keq a b=keq b a:=by
 unfold keq
 rw [Bool.eq_iff_iff]
 simp only [beq_iff_eq]
 exact ⟨Eq.symm,Eq.symm⟩
theorem pz' (x:Nat):(T.i (((T.i (x:Int)).int.toNat:Nat):Int))=T.i (x:Int):=rfl
theorem aix (m:Nat) (x2 x3 x4 x5 x6 x7 bH kX x0:T) (o:eY) : ∀ (post pre:List eY) (x1:Nat),pre.length+post.length<=1048576->∀ n,post.length<n->∀ k0 k1,
  gX m n x0 (.i (x1:Int)) x2 x3 x4 x5 x6 x7 (.l (rO (pre++post))) (.i ((pre++post).length:Nat)) (.i pre.length) bH (.s o.key) kX k0 k1=cond (OI post o) (k0 (.b true)) (k1 x0 x2 x3 x4 x5 x6 x7)
 | [],pre,x1,hs,n,hn,k0,k1=>by
  obtain ⟨n,rfl⟩ : ∃ m',n=m'+1:=⟨n-1,by omega⟩
  simp only [gX,T.ak,T.ah]
  rw [aJ (by simp)]
  rfl
 | x::post,pre,x1,hs,n,hn,k0,k1=>by
  obtain ⟨n,rfl⟩ : ∃ m',n=m'+1:=⟨n-1,by omega⟩
  simp only [List.length_cons] at hs hn
  have ih:=aix m x2 x3 x4 x5 x6 x7 bH kX x0 o post (pre++[x]) x1 (by simp; omega) n (by omega) k0 k1
  rw [aH,List.append_assoc,List.singleton_append] at ih
  have hx:(x1:Int).toNat=x1:=rfl
  simp only [gX,T.ak,T.ah,ixO,bD pre (by omega),o1,T.jP,hx]
  rw [aj (by simp <;> omega),aj (by simp <;> omega)]
  show _=cond (keq o.key x.key||OI post o) _ _
  rw [Wi]
  cases h:keq x.key o.key with
  | true=>rw [aA (show (x.key.toList==o.key.toList)=true from h)]; rfl
  | false=>rw [aC (show (x.key.toList==o.key.toList)=false from h),ih]; rfl
theorem aiy (m:Nat) (x1 x2 x3:T) (ops:List eY) (h3:ops.length<=1048576) : ∀ (oq op:List eY),op.length+oq.length<=1048576->∀ n,oq.length+ops.length+1<n->∀ k0 k1,
  gY m n (.l (rO ops)) x1 x2 x3 (.l (rO (op++oq))) (.i ((op++oq).length:Nat)) (.i op.length) k0 k1=cond (oq.any (OI ops)) (k0 (.b true)) (k1 (.l (rO ops)) x1 x2 x3)
 | [],op,hs,n,hn,k0,k1=>by
  obtain ⟨n,rfl⟩ : ∃ m',n=m'+1:=⟨n-1,by omega⟩
  simp only [gY,T.ak,T.ah]
  rw [aJ (by simp)]
  rfl
 | o::oq,op,hs,n,hn,k0,k1=>by
  obtain ⟨n,rfl⟩ : ∃ m',n=m'+1:=⟨n-1,by omega⟩
  simp only [List.length_cons] at hn hs
  have ih:=aiy m x1 x2 x3 ops h3 oq (op++[o]) (by simp; omega) n (by omega) k0 k1
  rw [aH,List.append_assoc,List.singleton_append] at ih
  simp only [gY,T.ak,T.ah,ixO,o0,o1,o2,jJ]
  rw [aj (by simp <;> omega),aj (by simp <;> omega)]
  have l2:=aix m x1 x2 x3 (.l (rO (op++o::oq))) (.i ((op++o::oq).length:Nat)) (.i op.length) (.i o.kind) (.s o.val) (.l (rO ops)) o ops [] 0 (by simpa using h3) n (by omega) k0
  simp only [List.nil_append,List.length_nil,Int.natCast_zero] at l2
  refine (l2 _).trans ?_
  simp only [T.ak,bD op (by omega),List.any_cons]
  rw [ih]
  cases OI ops o <;> rfl
theorem aiz (m:Nat) (ops:List eY) (h3:ops.length<=1048576) : ∀ (hq hp:List bE),(∀ r∈hq,r.ops.length<=1048576)->hp.length+hq.length<=1048576->∀ n,hq.length+ops.length+1048580<n->∀ k0 k1,
  gZ m n (.l (rO ops)) (.l (rR (hp++hq))) (.i ((hp++hq).length:Nat)) (.i hp.length) k0 k1=cond (mI hq ops) (k0 (.b true)) k1
 | [],hp,ho,hs,n,hn,k0,k1=>by
  obtain ⟨n,rfl⟩ : ∃ m',n=m'+1:=⟨n-1,by omega⟩
  simp only [gZ,T.ak,T.ah]
  rw [aJ (by simp)]
  rfl
 | r::hq,hp,ho,hs,n,hn,k0,k1=>by
  obtain ⟨n,rfl⟩ : ∃ m',n=m'+1:=⟨n-1,by omega⟩
  simp only [List.length_cons] at hn hs
  have hr:=ho r (by simp)
  have ih:=aiz m ops h3 hq (hp++[r]) (fun q hq=>ho q (by simp [hq])) (by simp; omega) n (by omega) k0 k1
  rw [aH,List.append_assoc,List.singleton_append] at ih
  simp only [gZ,T.ak,T.ah,XA,r2,jJ]
  rw [aj (by simp <;> omega),aj (by simp <;> omega)]
  have l1:=aiy m (.l (rR (hp++r::hq))) (.i ((hp++r::hq).length:Nat)) (.i hp.length) ops h3 r.ops [] (by simpa using hr) n (by omega) k0
  simp only [List.nil_append,List.length_nil,Int.natCast_zero] at l1
  refine (l1 _).trans ?_
  simp only [T.ak,bD hp (by omega)]
  show cond (VO ops r) _ _=cond (VO ops r||mI hq ops) _ _
  rw [ih]
  cases VO ops r <;> rfl
theorem acI {m:Nat} (hm:3200000<=m) (held:List bE) (ops:List eY) (h1:held.length<=1048576) (h2 : ∀ r∈held,r.ops.length<=1048576) (h3:ops.length<=1048576) (K:T->An) :
  uP m (.l (rR held)) (.l (rO ops)) K=K (.b (mI held ops)):=by
 obtain ⟨m,rfl⟩ : ∃ m',m=m'+1:=⟨m-1,by omega⟩
 simp only [uP,T.ah,fP]
 refine (aiz m ops h3 held [] h2 (by simpa using h1) m (by omega) _ _).trans ?_
 cases mI held ops <;> rfl
theorem agj {m:Nat} (hm:1048620<=m) (r:bE) (h:Mt r) (K:T->An):Gd m (.i r.kind) (.i r.tx) (.l (rO r.ops)) K=K (.b (mY r)):=by
 obtain ⟨m,rfl⟩ : ∃ m',m=m'+1:=⟨m-1,by omega⟩
 have e0:(((rO r.ops).length:Int)==0)=(r.ops.length==0):=by rw [jJ]; cases r.ops <;> simp <;> omega
 have aiA : ∀ k,qV m (.i r.tx) k=k (.b (decide (1<=r.tx/\r.tx<=1000000))):=fun k=>by
  obtain ⟨q,rfl⟩ : ∃ q,m=q+1:=⟨m-1,by omega⟩
  simp only [qV]
  exact gU (by omega) _ _ _ _
 simp only [Gd,T.ah,T.ak,aiA,T.aI,e0]
 unfold mY
 by_cases k1:r.kind=1
 ·rw [aA (by simp [k1]),if_pos k1,Gw (by omega) r.ops h.ops]
  cases decide (1<=r.tx/\r.tx<=1000000) <;> rfl
 ·rw [aC (by simp [k1]),if_neg k1]
  by_cases k2:r.kind=2
  ·rw [aA (by simp [k2]),if_pos (.inl k2)]
   cases decide (1<=r.tx/\r.tx<=1000000) <;> rfl
  ·rw [aC (by simp [k2])]
   by_cases k3:r.kind=3
   ·rw [aA (by simp [k3]),if_pos (.inr k3)]
    cases decide (1<=r.tx/\r.tx<=1000000) <;> rfl
   ·rw [aC (by simp [k3]),if_neg (by simp [k2,k3])]
    cases decide (1<=r.tx/\r.tx<=1000000) <;> rfl
end Go.Proofs.YtjjonejgbdbnjaaGreat

namespace Go.Proofs.YtjjonejgbdbnjaaGreat
open Go Go.E Go.Proofs
theorem aiB {m:Nat} (hm:1<=m) (l:List eY) (h:l.length<=1048576) (K:T->An):eD m (.l (rO l)) K=K (.l (rO l)):=by
 obtain ⟨m,rfl⟩ : ∃ m',m=m'+1:=⟨m-1,by omega⟩
 simp only [eD,T.ah]
 rw [aj (by rw [jJ]; unfold aD; omega)]
theorem aiC {m:Nat} (hm:1<=m) (l:List bE) (j:Nat) (hj:j<l.length) (K:T->An):bW m (.l (rR l)) (.i j) (.i ((j:Int)+1)) K=K (.l (rR (l.take j++l.drop (j+1)))):=by
 obtain ⟨m,rfl⟩ : ∃ m',m=m'+1:=⟨m-1,by omega⟩
 simp only [bW,T.ah,T.ak,fP]
 rw [aj (by omega),show Int.toNat (j:Int)=j from rfl,show Int.toNat ((j:Int)+1)=j+1 from rfl]
 simp [rR,List.map_take,List.map_drop]
theorem aiD {pre:List bE} {s:St} (hI:RInv pre s) (tx:Int):decide (aiw tx pre>=0)=decide (tx∈s.seen):=by
 apply decide_eq_decide.2
 rw [hI.seen]
 unfold aiw
 cases h:Bd tx pre pre.length with
 | none =>
  have:=acH.1 h
  constructor
  ·intro h; simp at h
  ·rintro ⟨r,h1,h2⟩; exact absurd h2 (this r h1)
 | some j =>
  obtain ⟨h3,h4⟩:=GH h
  exact ⟨fun _=>⟨_,Kq h3,h4⟩,fun _=>by simp⟩
theorem ajV {m:Nat} (hm:3200010<=m) {pre:List bE} {s:St} (hI:RInv pre s) (hs:BSt s) (hp:pre.length<=1048576) {r:bE} (hr:Mt r) (hok:mY r=true) (J:Bool->List (List T)->List (List T)->An) (k0:T->T->T->An) (k1:T->T->T->T->An)
  (h0 : ∀ b p q,k0 (.b b) (.l p) (.l q)=J b p q) (h1 : ∀ b z p q,k1 (.b b) z (.l p) (.l q)=J b p q) :
  sJ m (.l (rP s.map)) (.l (rR s.held)) (.i r.kind) (.i r.tx) (.l (rO r.ops)) (.l (rR pre)) k0 k1=J (kZ s r).1 (rP (kZ s r).2.map) (rR (kZ s r).2.held):=by
 obtain ⟨m,rfl⟩ : ∃ m',m=m'+1:=⟨m-1,by omega⟩
 have hm1:=hs.map
 have hh1:=hs.held.1
 have hw : ∀ j:Nat,j<=400000->IntKind.i64.wrap ((j:Int)+1)=(j:Int)+1:=fun j hj=>by rw [IntKind.wrap_i64]; omega
 simp only [sJ,T.ah,T.ak]
 rw [YA (by omega) pre r.tx hp]
 simp only [T.ak,aiD hI]
 unfold kZ
 rw [if_neg (by rw [hok]; decide)]
 by_cases k1':r.kind=1
 ·rw [aA (by simp [k1']),if_pos k1',acI (by omega) s.held r.ops (by omega) (fun q hq=>by have:=(hs.held.2 q hq).1; omega) (by have:=hr.1; omega),agh (by omega) s.map r.ops (by omega) (by have:=hr.1; omega),aiB (by omega) r.ops (by have:=hr.1; omega)]
  simp only [T.aI,T.ah]
  rw [aj (by rw [fP]; unfold aD; omega)]
  have e:(rR s.held++[[T.i 1,T.i r.tx,T.l (rO r.ops)]])=rR (s.held++[r]):=by simp [rR,bE.r,k1']
  rw [e]
  cases decide (r.tx∈s.seen) with
  | true=>simp only [Bool.true_or,if_true]; rw [aC (by decide),h0]
  | false =>
   rw [aA (by decide)]
   cases mI s.held r.ops with
   | true=>simp only [Bool.or_true,Bool.true_or,if_true]; rw [aC (by decide),h0]
   | false =>
    rw [aA (by decide)]
    cases oQ s.map r.ops with
    | false=>rw [aA (by decide),h0]; rfl
    | true=>rw [aC (by decide),h0]; rfl
 ·rw [aC (by simp [k1']),if_neg k1',YA (by omega) s.held r.tx (by omega)]
  unfold aiw
  rw [ajU hI.dist]
  cases hf:sw r.tx s.held with
  | none =>
   simp only [T.ak]
   rw [aj (by omega)]
   by_cases k3:r.kind=3
   ·rw [aA (by simp [k3]),h0]; simp [k3]
   ·rw [aC (by simp [k3]),h0]; rw [show (r.kind==3)=false by simp [k3]]; rfl
  | some j =>
   have hj:=zo hf
   have hops:(s.held.getD j default).ops.length<=400000:=(hs.held.2 _ (Kq hj)).1
   simp only [T.ak,hw j (by omega),fP]
   rw [aJ (by omega),aiC (by omega) s.held j hj,show Int.toNat (j:Int)=j from rfl,aiv s.held hj]
   simp only [r2,T.ah]
   rw [agi (by omega) s.map (s.held.getD j default).ops (by omega)]
   simp only [T.ah,aiC (by omega:1<=m) s.held j hj]
   by_cases k2:r.kind=2
   ·rw [aA (by simp [k2]),aj (by omega),aj hj,h1,if_pos k2,vZ,ajF]
   ·rw [aC (by simp [k2]),h0,if_neg k2,vZ,ajF]
theorem HY (m:Nat) (hm:3200010<=m) : ∀ (post pre:List bE) (k:Nat) (s:St),RInv pre s->GSt k s->k+post.length<=20000->(∀ r∈post,Mt r)->pre.length+post.length<=1048576->∀ n,post.length<n->∀ k0 k1,
  eP m n (.l (rR (pre++post))) (.i 0) (.l (rR (pre++post))) (.i ((pre++post).length:Nat)) (.i pre.length) (.l (rP s.map)) (.l (rR s.held)) k0 k1=match fE s post with
   | none=>k0 (.b false) (.l []) (.l [])
   | some s'=>k1 (.i 0) (.l (rP s'.map)) (.l (rR s'.held))
 | [],pre,k,s,hI,hg,hk,hr,hs,n,hn,k0,k1=>by
  obtain ⟨n,rfl⟩ : ∃ m',n=m'+1:=⟨n-1,by omega⟩
  simp only [eP,T.ak,T.ah,fE]
  rw [aJ (by simp)]
  rfl
 | x::post,pre,k,s,hI,hg,hk,hr,hs,n,hn,k0,k1=>by
  obtain ⟨n,rfl⟩ : ∃ m',n=m'+1:=⟨n-1,by omega⟩
  simp only [List.length_cons] at hs hn hk
  have hx:=hr x (by simp)
  simp only [eP,T.ak,T.ah,XA,bD pre (by omega),r0,r1,r2,fP]
  rw [aj (by simp <;> omega),aj (by simp <;> omega),agj (by omega) x hx]
  simp only [T.aI]
  have htk:(rR (pre++x::post)).take (Int.toNat (pre.length:Int))=rR pre:=by
   rw [show Int.toNat (pre.length:Int)=pre.length from rfl]
   simp [rR]
  unfold fE
  cases hok:mY x with
  | false =>
   have:(kZ s x).1=false:=by unfold kZ; rw [if_pos hok]
   rw [this,aC (by decide)]; rfl
  | true =>
   rw [aA (by decide),aj (by simp <;> omega),aj (by omega),htk]
   refine (ajV (by omega) hI (hg.b (by omega)) (by omega) hx hok (fun b p q=>cond (!b) (k0 (.b false) (.l []) (.l [])) (eP m n (.l (rR (pre++x::post))) (T.i (((0:Int).toNat:Nat):Int)) (.l (rR (pre++x::post))) (.i ((pre++x::post).length:Nat)) (T.i ((pre.length:Int)+1)) (T.l p) (T.l q) k0 k1)) _ _ (fun b p q=>rfl) (fun b z p q=>rfl)).trans ?_
   cases h:(kZ s x).1 with
   | false=>rfl
   | true =>
    have hI':=hI.step hok (PZ h).2
    have ih:=HY m hm post (pre++[x]) (k+1) (kZ s x).2 hI' (ah3 hg hx.2) (by omega) (fun r h=>hr r (by simp [h])) (by simp; omega) n (by omega) k0 k1
    rw [aH,List.append_assoc,List.singleton_append] at ih
    exact ih
theorem anR:RInv [] st0:=⟨fun x=>by simp [st0],fun h hh=>(nomatch hh),fun r hr=>(nomatch hr),fun r hr=>(nomatch hr),List.Pairwise.nil⟩
theorem ad5 {m:Nat} (hm:3200020<=m) (l:List bE) (hl:l.length<=10000) (hr : ∀ r∈l,Mt r) (K:T->T->T->An) :
  sK m (.l (rR l)) K=K (.l (rP (mapOf (bV l)))) (.l (rR (yD (bV l)))) (.b (bV l).isSome):=by
 obtain ⟨m,rfl⟩ : ∃ m',m=m'+1:=⟨m-1,by omega⟩
 simp only [sK,T.ah,fP]
 refine (HY m (by omega) l [] 0 st0 anR ⟨by simp [st0],by simp [st0],by simp [st0],by simp [st0]⟩ (by omega) hr (by simp; omega) m (by omega) _ _).trans ?_
 unfold bV
 cases fE st0 l <;> rfl
end Go.Proofs.YtjjonejgbdbnjaaGreat

namespace Go.Proofs.YtjjonejgbdbnjaaGreat
open Go Go.E Go.Proofs
def Bf {α:Type} (f:α->α->Bool):List α->List α->Bool
 | [],[]=>true
 | x::a,y::b=>f x y&&Bf f a b
 | _,_=>false
def oV (p q:bN):Bool:=keq p.key q.key&&(keq p.val q.val&&true)
def wo (o q:eY):Bool:=(o.kind==q.kind)&&(keq o.key q.key&&(keq o.val q.val&&true))
def uW (r q:bE):Bool:=(r.kind==q.kind)&&((r.tx==q.tx)&&Bf wo r.ops q.ops)
theorem aaE {α:Type} {f:α->α->Bool} : ∀ {a b:List α},Bf f a b=true->a.length=b.length
 | [],[],_=>rfl
 | x::a,y::b,h=>by
  unfold Bf at h
  simp only [Bool.and_eq_true] at h
  simp [aaE h.2]
 | [],_::_,h=>by cases h
 | _::_,[],h=>by cases h
theorem EG {α:Type} {f:α->α->Bool} : ∀ (a:List α),(∀ x∈a,f x x=true)->Bf f a a=true
 | [],_=>rfl
 | x::a,h=>by
  unfold Bf
  rw [h x (by simp),EG a fun y hy=>h y (by simp [hy])]
  rfl
theorem acJ (a:ByteArray):keq a a=true:=by unfold keq; simp
theorem P5 (o:eY):wo o o=true:=by unfold wo; simp [acJ]
theorem acK (o:bN):oV o o=true:=by unfold oV; simp [acJ]
theorem ad6 (r:bE):uW r r=true:=by unfold uW; simp [EG r.ops fun o _=>P5 o]
theorem anS (pre pre':List bN) (x:bN) (post:List bN) (h:pre.length=pre'.length):(rP (pre'++x::post)).getD (Int.toNat (pre.length:Int)) []=x.r:=by rw [h]; exact ixP _ _ _
theorem anT (pre pre':List eY) (x:eY) (post:List eY) (h:pre.length=pre'.length):(rO (pre'++x::post)).getD (Int.toNat (pre.length:Int)) []=x.r:=by rw [h]; exact ixO _ _ _
theorem anU (pre pre':List bE) (x:bE) (post:List bE) (h:pre.length=pre'.length):(rR (pre'++x::post)).getD (Int.toNat (pre.length:Int)) []=x.r:=by rw [h]; exact XA _ _ _
theorem MC {α β:Type} {a:List α} {b:List β} (h:a.length≠b.length):((a.length:Int) != (b.length:Int))=true:=by simp; omega
theorem P6 {α β:Type} {a:List α} {b:List β} (h:a.length=b.length):((a.length:Int) != (b.length:Int))=false:=by simp [h]
theorem YB (m:Nat) : ∀ (post post' pre pre':List bN),pre.length=pre'.length->post.length=post'.length->pre.length+post.length<=1048576->∀ n,post.length<n->∀ k0 k1,
  bF m n (.l (rP (pre++post))) (.l (rP (pre'++post'))) (.i ((pre++post).length:Nat)) (.i pre.length) k0 k1=cond (Bf oV post post') k1 (k0 (.b false))
 | [],[],pre,pre',h1,h2,hs,n,hn,k0,k1=>by
  obtain ⟨n,rfl⟩ : ∃ m',n=m'+1:=⟨n-1,by omega⟩
  simp only [bF,T.ak,T.ah]
  rw [aJ (by simp)]
  rfl
 | x::post,y::post',pre,pre',h1,h2,hs,n,hn,k0,k1=>by
  obtain ⟨n,rfl⟩ : ∃ m',n=m'+1:=⟨n-1,by omega⟩
  simp only [List.length_cons] at hs hn h2
  have ih:=YB m post post' (pre++[x]) (pre'++[y]) (by simp [h1]) (by omega) (by simp; omega) n (by omega) k0 k1
  rw [aH,List.append_assoc,List.singleton_append,List.append_assoc,List.singleton_append] at ih
  simp only [bF,T.ak,T.ah,ixP,anS pre pre' y post' h1,bD pre (by omega),p0,p1,T.jP]
  rw [aj (by simp <;> omega),aj (by simp <;> omega),aj (by simp <;> omega),ih]
  show cond (!(oV x y)) _ _=cond (oV x y&&Bf oV post post') _ _
  cases oV x y <;> rfl
 | [],_::_,_,_,_,h2,_,_,_,_,_=>by simp at h2
 | _::_,[],_,_,_,h2,_,_,_,_,_=>by simp at h2
theorem ME {α:Type} {f:α->α->Bool} {a b:List α} (h:a.length≠b.length):Bf f a b=false:=by
 cases h2:Bf f a b with
 | false=>rfl
 | true=>exact absurd (aaE h2) h
theorem aqh {m:Nat} (hm:1048590<=m) (a b:List bN) (ha:a.length<=1048576) (K:T->An):dK m (.l (rP a)) (.l (rP b)) K=K (.b (Bf oV a b)):=by
 obtain ⟨m,rfl⟩ : ∃ m',m=m'+1:=⟨m-1,by omega⟩
 simp only [dK,T.ah,vZ]
 by_cases h:a.length=b.length
 ·rw [aC (P6 h)]
  refine (YB m a b [] [] rfl h (by simpa using ha) m (by omega) _ _).trans ?_
  cases Bf oV a b <;> rfl
 ·rw [aA (MC h),ME h]
theorem YC (m:Nat) : ∀ (post post' pre pre':List eY),pre.length=pre'.length->post.length=post'.length->pre.length+post.length<=1048576->∀ n,post.length<n->∀ k0 k1,
  bL m n (.l (rO (pre++post))) (.l (rO (pre'++post'))) (.i ((pre++post).length:Nat)) (.i pre.length) k0 k1=cond (Bf wo post post') k1 (k0 (.b false))
 | [],[],pre,pre',h1,h2,hs,n,hn,k0,k1=>by
  obtain ⟨n,rfl⟩ : ∃ m',n=m'+1:=⟨n-1,by omega⟩
  simp only [bL,T.ak,T.ah]
  rw [aJ (by simp)]
  rfl
 | x::post,y::post',pre,pre',h1,h2,hs,n,hn,k0,k1=>by
  obtain ⟨n,rfl⟩ : ∃ m',n=m'+1:=⟨n-1,by omega⟩
  simp only [List.length_cons] at hs hn h2
  have ih:=YC m post post' (pre++[x]) (pre'++[y]) (by simp [h1]) (by omega) (by simp; omega) n (by omega) k0 k1
  rw [aH,List.append_assoc,List.singleton_append,List.append_assoc,List.singleton_append] at ih
  simp only [bL,T.ak,T.ah,ixO,anT pre pre' y post' h1,bD pre (by omega),o0,o1,o2,T.jP]
  rw [aj (by simp <;> omega),aj (by simp <;> omega),aj (by simp <;> omega),ih]
  show cond (!(wo x y)) _ _=cond (wo x y&&Bf wo post post') _ _
  cases wo x y <;> rfl
 | [],_::_,_,_,_,h2,_,_,_,_,_=>by simp at h2
 | _::_,[],_,_,_,h2,_,_,_,_,_=>by simp at h2
theorem al3 {m:Nat} (hm:1048590<=m) (a b:List eY) (ha:a.length<=1048576) (K:T->An):bR m (.l (rO a)) (.l (rO b)) K=K (.b (Bf wo a b)):=by
 obtain ⟨m,rfl⟩ : ∃ m',m=m'+1:=⟨m-1,by omega⟩
 simp only [bR,T.ah,jJ]
 by_cases h:a.length=b.length
 ·rw [aC (P6 h)]
  refine (YC m a b [] [] rfl h (by simpa using ha) m (by omega) _ _).trans ?_
  cases Bf wo a b <;> rfl
 ·rw [aA (MC h),ME h]
theorem acL {m:Nat} (hm:1048600<=m) (r q:bE) (h:r.ops.length<=1048576) (K:T->An):za m (.i r.kind) (.i r.tx) (.l (rO r.ops)) (.i q.kind) (.i q.tx) (.l (rO q.ops)) K=K (.b (uW r q)):=by
 obtain ⟨m,rfl⟩ : ∃ m',m=m'+1:=⟨m-1,by omega⟩
 simp only [za,T.ah,T.ak]
 rw [al3 (by omega) r.ops q.ops h]
 simp only [T.aI]
 unfold uW
 cases h1:r.kind==q.kind with
 | false=>rfl
 | true =>
  cases h2:r.tx==q.tx with
  | false=>rfl
  | true=>rfl
theorem YD (m:Nat) (hm:1048600<=m) : ∀ (post post' pre pre':List bE),pre.length=pre'.length->post.length=post'.length->pre.length+post.length<=1048576->(∀ r∈post,r.ops.length<=1048576)->∀ n,post.length<n->∀ k0 k1,
  aN m n (.l (rR (pre'++post'))) (.l (rR (pre++post))) (.i ((pre++post).length:Nat)) (.i pre.length) k0 k1=cond (Bf uW post post') k1 (k0 (.b false))
 | [],[],pre,pre',h1,h2,hs,ho,n,hn,k0,k1=>by
  obtain ⟨n,rfl⟩ : ∃ m',n=m'+1:=⟨n-1,by omega⟩
  simp only [aN,T.ak,T.ah]
  rw [aJ (by simp)]
  rfl
 | x::post,y::post',pre,pre',h1,h2,hs,ho,n,hn,k0,k1=>by
  obtain ⟨n,rfl⟩ : ∃ m',n=m'+1:=⟨n-1,by omega⟩
  simp only [List.length_cons] at hs hn h2
  have ih:=YD m hm post post' (pre++[x]) (pre'++[y]) (by simp [h1]) (by omega) (by simp; omega) (fun r hr=>ho r (by simp [hr])) n (by omega) k0 k1
  rw [aH,List.append_assoc,List.singleton_append,List.append_assoc,List.singleton_append] at ih
  simp only [aN,T.ak,T.ah,XA,anU pre pre' y post' h1,bD pre (by omega),r0,r1,r2]
  rw [aj (by simp <;> omega),aj (by simp <;> omega),aj (by simp <;> omega),acL hm x y (ho x (by simp)),ih]
  simp only [T.aI]
  show cond (!(uW x y)) _ _=cond (uW x y&&Bf uW post post') _ _
  cases uW x y <;> rfl
 | [],_::_,_,_,_,h2,_,_,_,_,_,_=>by simp at h2
 | _::_,[],_,_,_,h2,_,_,_,_,_,_=>by simp at h2
theorem aqi {m:Nat} (hm:1048610<=m) (a b:List bE) (ha:a.length<=1048576) (ho : ∀ r∈a,r.ops.length<=1048576) (K:T->An):bB m (.l (rR a)) (.l (rR b)) K=K (.b (Bf uW a b)):=by
 obtain ⟨m,rfl⟩ : ∃ m',m=m'+1:=⟨m-1,by omega⟩
 simp only [bB,T.ah,fP]
 by_cases h:a.length=b.length
 ·rw [aC (P6 h)]
  refine (YD m (by omega) a b [] [] rfl h (by simpa using ha) ho m (by omega) _ _).trans ?_
  cases Bf uW a b <;> rfl
 ·rw [aA (MC h),ME h]
theorem YE (m:Nat) : ∀ (post post' pre pre':List bN),pre.length=pre'.length->post.length=post'.length->pre.length+post.length<=1048576->∀ n,post.length<n->∀ k0 k1,
  fO m n (.l (rP (pre++post))) (.l (rP (pre'++post'))) (.i pre.length) k0 k1=cond (Bf oV post post') k1 (k0 (.b false))
 | [],[],pre,pre',h1,h2,hs,n,hn,k0,k1=>by
  obtain ⟨n,rfl⟩ : ∃ m',n=m'+1:=⟨n-1,by omega⟩
  simp only [fO,T.ak,T.ah]
  rw [aJ (by simp)]
  rfl
 | x::post,y::post',pre,pre',h1,h2,hs,n,hn,k0,k1=>by
  obtain ⟨n,rfl⟩ : ∃ m',n=m'+1:=⟨n-1,by omega⟩
  simp only [List.length_cons] at hs hn h2
  have ih:=YE m post post' (pre++[x]) (pre'++[y]) (by simp [h1]) (by omega) (by simp; omega) n (by omega) k0 k1
  rw [aH,List.append_assoc,List.singleton_append,List.append_assoc,List.singleton_append] at ih
  simp only [fO,T.ak,T.ah,ixP,anS pre pre' y post' h1,bD pre (by omega),p0,p1,T.jP]
  rw [aj (by simp <;> omega),aj (by simp <;> omega),aj (by simp <;> omega),ih]
  show cond (!(oV x y)) _ _=cond (oV x y&&Bf oV post post') _ _
  cases oV x y <;> rfl
 | [],_::_,_,_,_,h2,_,_,_,_,_=>by simp at h2
 | _::_,[],_,_,_,h2,_,_,_,_,_=>by simp at h2
theorem aqj {m:Nat} (hm:1048590<=m) (a b:List bN) (ha:a.length<=1048576) (K:T->An):qY m (.l (rP a)) (.l (rP b)) K=K (.b (Bf oV a b)):=by
 obtain ⟨m,rfl⟩ : ∃ m',m=m'+1:=⟨m-1,by omega⟩
 simp only [qY,T.ah,vZ]
 by_cases h:a.length=b.length
 ·rw [aC (P6 h)]
  refine (YE m a b [] [] rfl h (by simpa using ha) m (by omega) _ _).trans ?_
  cases Bf oV a b <;> rfl
 ·rw [aA (MC h),ME h]
theorem YF (m:Nat) : ∀ (post post' pre pre':List eY),pre.length=pre'.length->post.length=post'.length->pre.length+post.length<=1048576->∀ n,post.length<n->∀ k0 k1,
  ig m n (.l (rO (pre++post))) (.l (rO (pre'++post'))) (.i pre.length) k0 k1=cond (Bf wo post post') k1 (k0 (.b false))
 | [],[],pre,pre',h1,h2,hs,n,hn,k0,k1=>by
  obtain ⟨n,rfl⟩ : ∃ m',n=m'+1:=⟨n-1,by omega⟩
  simp only [ig,T.ak,T.ah]
  rw [aJ (by simp)]
  rfl
 | x::post,y::post',pre,pre',h1,h2,hs,n,hn,k0,k1=>by
  obtain ⟨n,rfl⟩ : ∃ m',n=m'+1:=⟨n-1,by omega⟩
  simp only [List.length_cons] at hs hn h2
  have ih:=YF m post post' (pre++[x]) (pre'++[y]) (by simp [h1]) (by omega) (by simp; omega) n (by omega) k0 k1
  rw [aH,List.append_assoc,List.singleton_append,List.append_assoc,List.singleton_append] at ih
  simp only [ig,T.ak,T.ah,ixO,anT pre pre' y post' h1,bD pre (by omega),o0,o1,o2,T.jP]
  rw [aj (by simp <;> omega),aj (by simp <;> omega),aj (by simp <;> omega),ih]
  show cond (!(wo x y)) _ _=cond (wo x y&&Bf wo post post') _ _
  cases wo x y <;> rfl
 | [],_::_,_,_,_,h2,_,_,_,_,_=>by simp at h2
 | _::_,[],_,_,_,h2,_,_,_,_,_=>by simp at h2
theorem al4 {m:Nat} (hm:1048590<=m) (a b:List eY) (ha:a.length<=1048576) (K:T->An):mE m (.l (rO a)) (.l (rO b)) K=K (.b (Bf wo a b)):=by
 obtain ⟨m,rfl⟩ : ∃ m',m=m'+1:=⟨m-1,by omega⟩
 simp only [mE,T.ah,jJ]
 by_cases h:a.length=b.length
 ·rw [aC (P6 h)]
  refine (YF m a b [] [] rfl h (by simpa using ha) m (by omega) _ _).trans ?_
  cases Bf wo a b <;> rfl
 ·rw [aA (MC h),ME h]
theorem YG (m:Nat) (hm:1048600<=m) : ∀ (post post' pre pre':List bE),pre.length=pre'.length->post.length=post'.length->pre.length+post.length<=1048576->(∀ r∈post,r.ops.length<=1048576)->∀ n,post.length<n->∀ k0 k1,
  gB m n (.l (rR (pre++post))) (.l (rR (pre'++post'))) (.i pre.length) k0 k1=cond (Bf uW post post') k1 (k0 (.b false))
 | [],[],pre,pre',h1,h2,hs,ho,n,hn,k0,k1=>by
  obtain ⟨n,rfl⟩ : ∃ m',n=m'+1:=⟨n-1,by omega⟩
  simp only [gB,T.ak,T.ah]
  rw [aJ (by simp)]
  rfl
 | x::post,y::post',pre,pre',h1,h2,hs,ho,n,hn,k0,k1=>by
  obtain ⟨n,rfl⟩ : ∃ m',n=m'+1:=⟨n-1,by omega⟩
  simp only [List.length_cons] at hs hn h2
  have ih:=YG m hm post post' (pre++[x]) (pre'++[y]) (by simp [h1]) (by omega) (by simp; omega) (fun r hr=>ho r (by simp [hr])) n (by omega) k0 k1
  rw [aH,List.append_assoc,List.singleton_append,List.append_assoc,List.singleton_append] at ih
  have d1:decide ((0:Int)<=(pre.length:Int)/\(pre.length:Int)<((rR (pre++x::post)).length:Int))=true:=decide_eq_true (by simp; omega)
  have d2:decide ((0:Int)<=(pre.length:Int)/\(pre.length:Int)<((rR (pre'++y::post')).length:Int))=true:=decide_eq_true (by simp; omega)
  simp only [gB,T.ak,T.ah,XA,anU pre pre' y post' h1,bD pre (by omega),r0,rd1,rd2,d1,d2,cond_true]
  rw [aj (by simp <;> omega),al4 (by omega) x.ops y.ops (ho x (by simp)),ih]
  simp only [T.aI]
  show _=cond (uW x y&&Bf uW post post') _ _
  unfold uW
  by_cases e1:x.kind=y.kind
  ·rw [aA (by simp [e1])]
   by_cases e2:x.tx=y.tx
   ·rw [aA (by simp [e2])]
    simp only [e1,e2,beq_self_eq_true,Bool.true_and]
    cases Bf wo x.ops y.ops <;> rfl
   ·rw [aC (by simp [e2])]; rw [show (x.tx==y.tx)=false by simp [e2],Bool.false_and,Bool.and_false,Bool.false_and]; rfl
  ·rw [aC (by simp [e1])]; rw [show (x.kind==y.kind)=false by simp [e1],Bool.false_and,Bool.false_and]; rfl
 | [],_::_,_,_,_,h2,_,_,_,_,_,_=>by simp at h2
 | _::_,[],_,_,_,h2,_,_,_,_,_,_=>by simp at h2
theorem aqk {m:Nat} (hm:1048610<=m) (a b:List bE) (ha:a.length<=1048576) (ho : ∀ r∈a,r.ops.length<=1048576) (K:T->An):sM m (.l (rR a)) (.l (rR b)) K=K (.b (Bf uW a b)):=by
 obtain ⟨m,rfl⟩ : ∃ m',m=m'+1:=⟨m-1,by omega⟩
 simp only [sM,T.ah,fP]
 by_cases h:a.length=b.length
 ·rw [aC (P6 h)]
  refine (YG m (by omega) a b [] [] rfl h (by simpa using ha) ho m (by omega) _ _).trans ?_
  cases Bf uW a b <;> rfl
 ·rw [aA (MC h),ME h]
end Go.Proofs.YtjjonejgbdbnjaaGreat

namespace Go.Proofs.YtjjonejgbdbnjaaGreat
open Go Go.E Go.Proofs
theorem aiE : ∀ {l:List bE} {k:Nat} {s s':St},GSt k s->(∀ r∈l,∀ o∈r.ops,BOp o)->fE s l=some s'->GSt (k+l.length) s'
 | [],k,s,s',h,ho,e=>by unfold fE at e; cases e; exact h
 | r::l,k,s,s',h,ho,e=>by
  unfold fE at e
  split at e
  ·have:=aiE (ah3 h (ho r (by simp))) (fun q hq=>ho q (by simp [hq])) e
   rw [List.length_cons]
   exact this.mono (by omega)
  ·cases e
def qE (s:aK):Bool:=decide (0<=s.id/\s.id<=7)&&(decide (0<=s.sure/\s.sure<=(s.log.length:Int))&&(decide (s.log.length+s.held.length<=300)&&((bV s.log).isSome&&(Bf oV (mapOf (bV s.log)) s.map&&Bf uW (yD (bV s.log)) s.held))))
structure Wj (s:aK):Prop where
 log:s.log.length<=1048576
 held:s.held.length<=1048576
 map:s.map.length<=1048576
 recs : ∀ r∈s.log,Mt r
theorem Wl {l:List bE} (hl:l.length<=300) (hr : ∀ r∈l,Mt r):(mapOf (bV l)).length<=1048576/\(yD (bV l)).length<=1048576 /\ ∀ r∈yD (bV l),r.ops.length<=1048576:=by
 cases h:bV l with
 | none=>exact ⟨by simp [mapOf],by simp [yD],fun r hr=>(nomatch hr)⟩
 | some s =>
  have:=aiE (k:=0) (s:=st0) ⟨by simp [st0],by simp [st0],by simp [st0],by simp [st0]⟩ (fun r h=>(hr r h).2) h
  refine ⟨by show s.map.length<=_; have:=this.map; omega,by show s.held.length<=_; have:=this.OL; omega,fun r hr=>?_⟩
  have:=(this.held r hr).1
  omega
theorem agk {m:Nat} (hm:3200100<=m) (s:aK) (h:Wj s) (K:T->An):ze m (.i s.id) (.l (rR s.log)) (.i s.sure) (.l (rP s.map)) (.l (rR s.held)) K=K (.b (qE s)):=by
 obtain ⟨m,rfl⟩ : ∃ m',m=m'+1:=⟨m-1,by omega⟩
 have hl:=h.log
 have hh:=h.held
 have hw:IntKind.i64.wrap ((s.log.length:Int)+(s.held.length:Int))=(s.log.length:Int)+(s.held.length:Int):=by rw [IntKind.wrap_i64]; omega
 have hid : ∀ k,vT m (.i s.id) k=k (.b (decide (0<=s.id/\s.id<=7))):=fun k=>by
  obtain ⟨q,rfl⟩ : ∃ q,m=q+1:=⟨m-1,by omega⟩
  simp only [vT]
  exact gU (by omega) _ _ _ _
 simp only [ze,jn,T.ah,T.ak,hid,fP,hw]
 rw [gU (by omega)]
 simp only [T.aI]
 unfold qE
 cases decide (0<=s.id/\s.id<=7) with
 | false=>rfl
 | true =>
  rw [aA (by decide)]
  cases decide (0<=s.sure/\s.sure<=(s.log.length:Int)) with
  | false=>rfl
  | true =>
   rw [aA (by decide)]
   by_cases h3:s.log.length+s.held.length<=300
   ·obtain ⟨b1,b2,b3⟩:=Wl (l:=s.log) (by omega) h.recs
    rw [aJ (by omega),ad5 (by omega) s.log (by omega) h.recs,decide_eq_true h3]
    simp only [T.aI,T.ah,aqh (show 1048590<=m by omega) _ s.map b1,aqi (show 1048610<=m by omega) _ s.held b2 b3]
    cases (bV s.log).isSome with
    | false=>rfl
    | true=>cases Bf oV (mapOf (bV s.log)) s.map <;> rfl
   ·rw [aj (by omega),decide_eq_false h3]; rfl
theorem agl {m:Nat} (hm:3200100<=m) (s:aK) (h:Wj s) (K:T->An):zk m (.i s.id) (.l (rR s.log)) (.i s.sure) (.l (rP s.map)) (.l (rR s.held)) K=K (.b (qE s)):=by
 obtain ⟨m,rfl⟩ : ∃ m',m=m'+1:=⟨m-1,by omega⟩
 have hl:=h.log
 have hh:=h.held
 simp only [zk,jn,T.ah,T.ak,fP]
 rw [gT (by omega),gT (by omega)]
 simp only [T.aI]
 unfold qE
 cases decide (0<=s.id/\s.id<=7) with
 | false=>rfl
 | true =>
  rw [aA (by decide)]
  by_cases h4:s.log.length<=300
  ·rw [aA (by simp; omega)]
   cases decide (0<=s.sure/\s.sure<=(s.log.length:Int)) with
   | false=>rfl
   | true =>
    obtain ⟨b1,b2,b3⟩:=Wl (l:=s.log) h4 h.recs
    rw [aC (by decide),Yo (by omega) s.log (by omega) h.recs]
    have hw:IntKind.i64.wrap ((s.log.length:Int)+((yD (bV s.log)).length:Int))=(s.log.length:Int)+((yD (bV s.log)).length:Int):=by rw [IntKind.wrap_i64]; omega
    simp only [T.aI,T.ah,aqj (show 1048590<=m by omega) _ s.map b1,aqk (show 1048610<=m by omega) _ s.held b2 b3,fP,hw]
    cases (bV s.log).isSome with
    | false=>simp only [Bool.and_false,Bool.false_and,Bool.true_and]; rfl
    | true =>
     cases h5:Bf oV (mapOf (bV s.log)) s.map with
     | false=>simp only [Bool.and_false,Bool.false_and,Bool.true_and]; rfl
     | true =>
      cases h6:Bf uW (yD (bV s.log)) s.held with
      | false=>simp only [Bool.and_false,Bool.false_and,Bool.true_and]; rfl
      | true =>
       rw [aaE h6]
       simp only [Bool.and_true,Bool.true_and]
       show K (.b _)=_
       congr 2
       exact decide_eq_decide.2 (by omega)
  ·rw [aC (by simp; omega),decide_eq_false (show ¬ s.log.length+s.held.length<=300 by omega)]
   simp only [Bool.and_false,Bool.false_and,Bool.true_and]
def zu (x:bG):Bool:=decide (0<=x.bP/\x.bP<=7)&&(decide (1<=x.tx/\x.tx<=1000000)&&(if x.kind=1 then fC x.ops && !x.yes else if x.kind=2\/x.kind=3 then x.ops.length==0 else if x.kind=4 then (x.ops.length==0) && !x.yes else false))
theorem aiF {m:Nat} (hm:1048700<=m) (x:bG) (h:oO x.ops) (K:T->An):Cn m (.i x.kind) (.i x.bP) (.i x.tx) (.l (rO x.ops)) (.b x.yes) K=K (.b (zu x)):=by
 obtain ⟨m,rfl⟩ : ∃ m',m=m'+1:=⟨m-1,by omega⟩
 have e0:(((rO x.ops).length:Int)==0)=(x.ops.length==0):=by rw [jJ]; cases x.ops <;> simp <;> omega
 have hid : ∀ k,vT m (.i x.bP) k=k (.b (decide (0<=x.bP/\x.bP<=7))):=fun k=>by
  obtain ⟨q,rfl⟩ : ∃ q,m=q+1:=⟨m-1,by omega⟩
  simp only [vT]
  exact gU (by omega) _ _ _ _
 have aiA : ∀ k,qV m (.i x.tx) k=k (.b (decide (1<=x.tx/\x.tx<=1000000))):=fun k=>by
  obtain ⟨q,rfl⟩ : ∃ q,m=q+1:=⟨m-1,by omega⟩
  simp only [qV]
  exact gU (by omega) _ _ _ _
 simp only [Cn,jn,T.ah,T.ak,hid,aiA,T.aI,e0]
 rw [Gw (by omega) x.ops h]
 simp only [T.aI]
 unfold zu
 cases decide (0<=x.bP/\x.bP<=7) with
 | false=>rfl
 | true =>
  rw [aA (by decide)]
  cases decide (1<=x.tx/\x.tx<=1000000) with
  | false=>rfl
  | true =>
   rw [aC (by decide),Bool.true_and,Bool.true_and]
   by_cases k1:x.kind=1
   ·rw [aA (by simp [k1]),if_pos k1]; cases fC x.ops <;> rfl
   ·rw [aC (by simp [k1]),if_neg k1]
    by_cases k2:x.kind=2
    ·rw [aA (by simp [k2]),if_pos (.inl k2)]; rfl
    ·rw [aC (by simp [k2])]
     by_cases k3:x.kind=3
     ·rw [if_pos (.inr k3),aA (by simp [k3])]
     ·rw [if_neg (by simp [k2,k3]),aC (by simp [k3])]
      by_cases k4:x.kind=4
      ·rw [aA (by simp [k4]),if_pos k4]; cases x.ops.length==0 <;> rfl
      ·rw [aC (by simp [k4]),if_neg k4]
theorem aiG {m:Nat} (hm:1048700<=m) (x:bG) (h:oO x.ops) (K:T->An):Cr m (.i x.kind) (.i x.bP) (.i x.tx) (.l (rO x.ops)) (.b x.yes) K=K (.b (zu x)):=by
 obtain ⟨m,rfl⟩ : ∃ m',m=m'+1:=⟨m-1,by omega⟩
 have e0:(((rO x.ops).length:Int)==0)=(x.ops.length==0):=by rw [jJ]; cases x.ops <;> simp <;> omega
 simp only [Cr,jn,T.ah,T.ak,T.aI,e0]
 rw [gT (by omega),gT (by omega),vY (by omega) x.ops h]
 simp only [T.aI]
 unfold zu
 cases decide (0<=x.bP/\x.bP<=7) with
 | false=>rfl
 | true =>
  rw [aA (by decide)]
  cases decide (1<=x.tx/\x.tx<=1000000) with
  | false=>rfl
  | true =>
   rw [aC (by decide),Bool.true_and,Bool.true_and]
   by_cases k1:x.kind=1
   ·rw [aA (by simp [k1]),if_pos k1]; cases fC x.ops <;> rfl
   ·rw [aC (by simp [k1]),if_neg k1]
    by_cases k2:x.kind=2
    ·rw [aA (by simp [k2]),if_pos (.inl k2)]; rfl
    ·rw [aC (by simp [k2])]
     by_cases k3:x.kind=3
     ·rw [if_pos (.inr k3),aA (by simp [k3])]
     ·rw [if_neg (by simp [k2,k3]),aC (by simp [k3])]
      by_cases k4:x.kind=4
      ·rw [aA (by simp [k4]),if_pos k4]; cases x.ops.length==0 <;> rfl
      ·rw [aC (by simp [k4]),if_neg k4]
end Go.Proofs.YtjjonejgbdbnjaaGreat

namespace Go.Proofs.YtjjonejgbdbnjaaGreat
open Go Go.E Go.Proofs
abbrev zw (w:aF):List T:=[.i w.c.n,.i w.c.life,.i w.c.next,.l (rJ w.c.jobs),.l (rC w.c.log),.i w.c.sure,.l (rS w.ay),.l (rW w.net),.l (rW w.outs),.l (rB w.begun)]
structure CW (w:aF):Prop where
 jobs:ahN w.c.jobs
 log:w.c.log.length<=1048576
 shl:w.ay.length<=1048576
 sh : ∀ s∈w.ay,Wj s
 JU:w.net.length<=1048576
 net : ∀ x∈w.net,oO x.ops
 Kw:w.outs.length<=1048576
 outs : ∀ x∈w.outs,oO x.ops
 Gy:w.begun.length<=1048576
 nR : ∀ o∈w.begun,oO o.ops
theorem rT (r:List T):cO (.l [r])=r:=rfl
theorem wr3 (w:aF):((zw w).drop 3).getD 0 dflt = .l (rJ w.c.jobs):=rfl
theorem wr4 (w:aF):((zw w).drop 4).getD 0 dflt = .l (rC w.c.log):=rfl
theorem wr5 (w:aF):((zw w).drop 5).getD 0 dflt = .i w.c.sure:=rfl
theorem wr6 (w:aF):((zw w).drop 6).getD 0 dflt = .l (rS w.ay):=rfl
theorem wr9 (w:aF):((zw w).drop 9).getD 0 dflt = .l (rB w.begun):=rfl
theorem wt6 (w:aF):(zw w).take 6=PY w.c.n w.c.life w.c.next (rJ w.c.jobs) (rC w.c.log) (.i w.c.sure):=rfl
theorem al5 (w:aF):(zw w).take 10=zw w:=rfl
theorem wo0 (x:bG):x.r.getD 0 dflt = .i x.kind:=rfl
theorem wo1 (x:bG):x.r.getD 1 dflt = .i x.bP:=rfl
theorem wo2 (x:bG):x.r.getD 2 dflt = .i x.tx:=rfl
theorem wo3 (x:bG):x.r.getD 3 dflt = .l (rO x.ops):=rfl
theorem wo4 (x:bG):x.r.getD 4 dflt = .b x.yes:=rfl
theorem aql (x:bG):(x.r.drop 1).getD 0 dflt = .i x.bP:=rfl
theorem ixB (pre:List dn) (x:dn) (post:List dn):(rB (pre++x::post)).getD (Int.toNat (pre.length:Int)) []=x.r:=by simp [List.getD]
theorem b0 (x:dn):x.r.getD 0 dflt = .i x.tx:=rfl
theorem b1' (x:dn):x.r.getD 1 dflt = .l (rO x.ops):=rfl
theorem bd1 (x:dn):(x.r.drop 1).getD 0 dflt = .l (rO x.ops):=rfl
theorem jd1 (x:fB):(x.r.drop 1).getD 0 dflt = .l (rO x.ops):=rfl
theorem P7 (l:List dn) {j:Nat} (h:j<l.length):(rB l).getD j []=(l.getD j default).r:=by simp [List.getD,h]
def JY (k:Nat) (x:bG):Bool:=zu x&&decide (x.bP<(k:Int))
def Bg (k:Nat) (l:List bG):Bool:=l.all (JY k)&&decide (l.length<=400)
theorem akP (n:Nat):decide ((n:Int)<=400)=decide (n<=400):=decide_eq_decide.2 (by omega)
theorem aiH (a b:Int):decide (a>=b) = !decide (a<b):=by
 by_cases h:a<b
 ·rw [decide_eq_true h,decide_eq_false (by omega)]; rfl
 ·rw [decide_eq_false h,decide_eq_true (by omega)]; rfl
theorem QU (m:Nat) (hm:1048700<=m) (w:aF) (x1:T) : ∀ (post pre:List bG),(∀ x∈post,oO x.ops)->pre.length+post.length<=1048576->∀ n,post.length<n->∀ k0 k1,
  dZ m n (.l [zw w]) x1 (.l (rW (pre++post))) (.i ((pre++post).length:Nat)) (.i pre.length) k0 k1=cond (post.all (JY w.ay.length)) (k1 x1) (k0 (.b false))
 | [],pre,ho,hs,n,hn,k0,k1=>by
  obtain ⟨n,rfl⟩ : ∃ m',n=m'+1:=⟨n-1,by omega⟩
  simp only [dZ,T.ak,T.ah]
  rw [aJ (by simp)]
  rfl
 | x::post,pre,ho,hs,n,hn,k0,k1=>by
  obtain ⟨n,rfl⟩ : ∃ m',n=m'+1:=⟨n-1,by omega⟩
  simp only [List.length_cons] at hs hn
  have ih:=QU m hm w x1 post (pre++[x]) (fun y hy=>ho y (by simp [hy])) (by simp; omega) n (by omega) k0 k1
  rw [aH,List.append_assoc,List.singleton_append] at ih
  simp only [dZ,T.ak,T.ah,ixW,bD pre (by omega),wo0,wo1,wo2,wo3,wo4,rT,wr6,jL]
  rw [aj (by simp <;> omega),aj (by simp <;> omega),aiF hm x (ho x (by simp)),ih,aiH]
  simp only [T.aI,List.all_cons]
  unfold JY
  cases zu x with
  | false=>rfl
  | true=>cases decide (x.bP<(w.ay.length:Int)) <;> rfl
theorem YH {m:Nat} (hm:1048710<=m) (w:aF) (l:List bG) (hl:l.length<=1048576) (ho : ∀ x∈l,oO x.ops) (K:T->An):mD m (.l [zw w]) (.l (rW l)) K=K (.b (Bg w.ay.length l)):=by
 obtain ⟨m,rfl⟩ : ∃ m',m=m'+1:=⟨m-1,by omega⟩
 simp only [mD,T.ah,kS,rT]
 refine (QU m (by omega) w (.l (rW l)) l [] ho (by simpa using hl) m (by omega) _ _).trans ?_
 unfold Bg
 simp only [T.ah,kS,akP]
 cases l.all (JY w.ay.length) <;> rfl
theorem QV (m:Nat) (hm:1048700<=m) (x3 x4 x5 x6 x7 x8 x10 bH fT:T) (sh:List aK) : ∀ (post pre:List bG),(∀ x∈post,oO x.ops)->pre.length+post.length<=1048576->∀ n,post.length<n->∀ k0 k1,
  jk m n (.l (rW (pre++post))) (.i 0) (.i pre.length) x3 x4 x5 x6 x7 x8 (.l (rS sh)) x10 bH fT k0 k1=cond (post.all (JY sh.length)) (k1 (.l (rW (pre++post)))) (k0 (.b false))
 | [],pre,ho,hs,n,hn,k0,k1=>by
  obtain ⟨n,rfl⟩ : ∃ m',n=m'+1:=⟨n-1,by omega⟩
  simp only [jk,T.ak,T.ah]
  rw [aJ (by simp)]
  rfl
 | x::post,pre,ho,hs,n,hn,k0,k1=>by
  obtain ⟨n,rfl⟩ : ∃ m',n=m'+1:=⟨n-1,by omega⟩
  simp only [List.length_cons] at hs hn
  have ih:=QV m hm x3 x4 x5 x6 x7 x8 x10 bH fT sh post (pre++[x]) (fun y hy=>ho y (by simp [hy])) (by simp; omega) n (by omega) k0 k1
  rw [aH,List.append_assoc,List.singleton_append] at ih
  have d1:decide ((0:Int)<=(pre.length:Int)/\(pre.length:Int)<((rW (pre++x::post)).length:Int))=true:=decide_eq_true (by simp; omega)
  have hz:((((0:Int).toNat:Nat)):Int)=0:=rfl
  simp only [jk,T.ak,T.ah,ixW,bD pre (by omega),wo0,wo1,wo2,wo3,wo4,aql,jL,d1,cond_true,hz]
  rw [aj (by simp <;> omega),aiG hm x (ho x (by simp)),ih,aiH]
  simp only [T.aI,List.all_cons]
  unfold JY
  cases zu x with
  | false=>rfl
  | true=>cases decide (x.bP<(sh.length:Int)) <;> rfl
theorem YI {m:Nat} (hm:1048710<=m) (x0 x1 x2 x5:T) (l3 l4 l7 l8 l9:List (List T)) (sh:List aK) (l:List bG) (hl:l.length<=1048576) (ho : ∀ x∈l,oO x.ops) (K:T->An) :
  su m x0 x1 x2 (.l l3) (.l l4) x5 (.l (rS sh)) (.l l7) (.l l8) (.l l9) (.l (rW l)) K=K (.b (Bg sh.length l)):=by
 obtain ⟨m,rfl⟩ : ∃ m',m=m'+1:=⟨m-1,by omega⟩
 simp only [su,T.ah]
 refine (QV m (by omega) x0 x1 x2 (.l l3) (.l l4) x5 (.l l7) (.l l8) (.l l9) sh l [] ho (by simpa using hl) m (by omega) _ _).trans ?_
 unfold Bg
 simp only [T.ah,kS,akP,List.nil_append]
 cases l.all (JY sh.length) <;> rfl
def qF (tx:Int):List dn->Option Nat
 | []=>none
 | o::l=>if o.tx=tx then some 0 else (qF tx l).map (· + 1)
theorem acM {tx:Int} : ∀ {l:List dn} {j:Nat},qF tx l=some j->j<l.length
 | [],j,h=>by cases h
 | r::l,j,h=>by
  unfold qF at h
  split at h
  ·cases h; simp
  ·cases h2:qF tx l with
   | none=>rw [h2] at h; cases h
   | some i=>rw [h2] at h; cases h; have:=acM h2; simp; omega
def sD (tx:Int) (l:List dn):Int:=match qF tx l with | some j=>(j:Int) | none=>-1
theorem YJ (m:Nat) (hm:1<=m) (tx:Int) : ∀ (post pre:List dn),pre.length+post.length<=1048576->∀ n,post.length<n->∀ k0 k1,
  aX m n (.l (rB (pre++post))) (.l [[.i tx]]) (.i ((pre++post).length:Nat)) (.i pre.length) k0 k1=(match qF tx post with | some j=>k0 (.i ((pre.length+j:Nat):Int)) | none=>k1)
 | [],pre,hs,n,hn,k0,k1=>by
  obtain ⟨n,rfl⟩ : ∃ m',n=m'+1:=⟨n-1,by omega⟩
  simp only [aX,T.ak,T.ah]
  rw [aJ (by simp)]
  rfl
 | x::post,pre,hs,n,hn,k0,k1=>by
  obtain ⟨n,rfl⟩ : ∃ m',n=m'+1:=⟨n-1,by omega⟩
  obtain ⟨m,rfl⟩ : ∃ m',m=m'+1:=⟨m-1,by omega⟩
  simp only [List.length_cons] at hs hn
  have ih:=YJ (m+1) hm tx post (pre++[x]) (by simp; omega) n (by omega) k0 k1
  rw [aH,List.append_assoc,List.singleton_append] at ih
  have r1:cO (.l [[T.i tx]])=[T.i tx]:=rfl
  simp only [aX,qz,T.ak,T.ah,ixB,bD pre (by omega),r1,List.getD_cons_zero,T.aI,b0]
  rw [aj (by simp; omega),aj (by simp; omega)]
  unfold qF
  by_cases h:x.tx=tx
  ·rw [aA (by simp [h]),if_pos h]; rfl
  ·rw [aC (by simp [h]),if_neg h]
   refine Eq.trans ih ?_
   cases qF tx post with
   | none=>rfl
   | some j=>simp only [Option.map_some]; congr 3; simp; omega
theorem EI {m:Nat} (hm:1048600<=m) (w:aF) (tx:Int) (hl:w.begun.length<=1048576) (K:T->An):eT m (.l [zw w]) (.i tx) K=K (.i (sD tx w.begun)):=by
 obtain ⟨m,rfl⟩ : ∃ m',m=m'+1:=⟨m-1,by omega⟩
 obtain ⟨m,rfl⟩ : ∃ m',m=m'+1:=⟨m-1,by omega⟩
 simp only [eT,dP,rT,wr9,T.ah,qD]
 refine (YJ m (by omega) tx w.begun [] (by simp; omega) m (by omega) _ _).trans ?_
 unfold sD
 cases qF tx w.begun <;> simp
theorem YK (m:Nat) (tx:Int) (x3 x4 x5 x6 x7 x8 x9 x10 bH:T) : ∀ (post pre:List dn),pre.length+post.length<=1048576->∀ n,post.length<n->∀ k0 k1,
  jl m n (.i tx) (.i 0) (.i pre.length) x3 x4 x5 x6 x7 x8 x9 x10 bH (.l (rB (pre++post))) k0 k1=(match qF tx post with | some j=>k0 (.i ((pre.length+j:Nat):Int)) | none=>k1)
 | [],pre,hs,n,hn,k0,k1=>by
  obtain ⟨n,rfl⟩ : ∃ m',n=m'+1:=⟨n-1,by omega⟩
  simp only [jl,T.ak,T.ah]
  rw [aJ (by simp)]
  rfl
 | x::post,pre,hs,n,hn,k0,k1=>by
  obtain ⟨n,rfl⟩ : ∃ m',n=m'+1:=⟨n-1,by omega⟩
  simp only [List.length_cons] at hs hn
  have ih:=YK m tx x3 x4 x5 x6 x7 x8 x9 x10 bH post (pre++[x]) (by simp; omega) n (by omega) k0 k1
  rw [aH,List.append_assoc,List.singleton_append] at ih
  have hz:((((0:Int).toNat:Nat)):Int)=0:=rfl
  simp only [jl,T.ak,T.ah,ixB,bD pre (by omega),b0,hz]
  rw [aj (by simp; omega),aj (by simp; omega)]
  unfold qF
  by_cases h:x.tx=tx
  ·rw [aA (by simp [h]),if_pos h]; rfl
  ·rw [aC (by simp [h]),if_neg h]
   refine Eq.trans ih ?_
   cases qF tx post with
   | none=>rfl
   | some j=>simp only [Option.map_some]; congr 3; simp; omega
theorem EJ {m:Nat} (hm:1048600<=m) (x0 x1 x2 x5:T) (l3 l4 l6 l7 l8:List (List T)) (l:List dn) (tx:Int) (hl:l.length<=1048576) (K:T->An) :
  lF m x0 x1 x2 (.l l3) (.l l4) x5 (.l l6) (.l l7) (.l l8) (.l (rB l)) (.i tx) K=K (.i (sD tx l)):=by
 obtain ⟨m,rfl⟩ : ∃ m',m=m'+1:=⟨m-1,by omega⟩
 simp only [lF,T.ah]
 refine (YK m tx x0 x1 x2 (.l l3) (.l l4) x5 (.l l6) (.l l7) (.l l8) l [] (by simp; omega) m (by omega) _ _).trans ?_
 unfold sD
 cases qF tx l <;> simp
end Go.Proofs.YtjjonejgbdbnjaaGreat

namespace Go.Proofs.YtjjonejgbdbnjaaGreat
open Go Go.E Go.Proofs
def agm (life next:Int) (full:List dn) (i:Nat) (o:dn):Bool:=fC o.ops&&(decide (1000<=o.tx/\o.tx<=life * 1000+next-1)&&(sD o.tx full==(i:Int)))
def JZ (life next:Int) (full:List dn):Nat->List dn->Bool
 | _,[]=>true
 | i,o::l=>agm life next full i o&&JZ life next full (i+1) l
def Wm (full:List dn) (c:aS):Bool:=!decide (sD c.tx full<0)
def Wn (full:List dn) (j:fB):Bool:=!decide (sD j.tx full<0)&&Bf wo (full.getD (sD j.tx full).toNat default).ops j.ops
def GI (w:aF):Bool:=JZ w.c.life w.c.next w.begun 0 w.begun&&(w.c.log.all (Wm w.begun)&&(w.c.jobs.all (Wn w.begun)&&decide (w.begun.length<=1000)))
theorem EL {tx:Int} {l:List dn} (h : ¬ sD tx l<0) : ∃ j:Nat,sD tx l=j/\j<l.length:=by
 unfold sD at h ⊢
 cases h2:qF tx l with
 | none=>rw [h2] at h; simp at h
 | some j=>exact ⟨j,rfl,acM h2⟩
theorem EM {l:List dn} {j:Nat} (h:j<l.length):l.getD j default∈l:=by simp [List.getD,h]
section
variable (m:Nat) (w:aF) (h1:1<=w.c.life/\w.c.life<=900) (h2:0<=w.c.next/\w.c.next<=999) (hb:w.begun.length<=1048576) (Q6 : ∀ o∈w.begun,oO o.ops)
include hb
theorem akQ (hm:1048700<=m) (h1:1<=w.c.life/\w.c.life<=900) (h2:0<=w.c.next/\w.c.next<=999) : ∀ (post pre:List dn),(∀ o∈post,oO o.ops)->pre.length+post.length<=1048576->∀ n,post.length<n->∀ k0 k1,
  eB m n (.l [zw w]) (.l (rB (pre++post))) (.i ((pre++post).length:Nat)) (.i pre.length) k0 k1=cond (JZ w.c.life w.c.next w.begun pre.length post) (k1 (.l [zw w])) (k0 (.b false))
 | [],pre,ho,hs,n,hn,k0,k1=>by
  obtain ⟨n,rfl⟩ : ∃ m',n=m'+1:=⟨n-1,by omega⟩
  simp only [eB,T.ak,T.ah,rT]
  rw [aJ (by simp)]
  rfl
 | x::post,pre,ho,hs,n,hn,k0,k1=>by
  obtain ⟨n,rfl⟩ : ∃ m',n=m'+1:=⟨n-1,by omega⟩
  simp only [List.length_cons] at hs hn
  have ih:=akQ hm h1 h2 post (pre++[x]) (fun y hy=>ho y (by simp [hy])) (by simp; omega) n (by omega) k0 k1
  rw [aH,List.append_assoc,List.singleton_append,show (pre++[x]).length=pre.length+1 by simp] at ih
  simp only [eB,T.ak,T.ah,ixB,bD pre (by omega),b0,b1',rT,wt6,al5]
  rw [aj (by simp <;> omega),aj (by simp <;> omega),Gw (by omega) x.ops (ho x (by simp)),adR (by omega) _ _ _ _ _ _ h1 h2]
  simp only [T.ak,T.aI]
  rw [wrap_i64 (by omega) (by omega),gU (by omega)]
  simp only [T.aI]
  rw [EI (by omega) w x.tx hb,ih]
  simp only [T.ak]
  show _=cond (agm _ _ _ _ _&&_) _ _
  unfold agm
  cases fC x.ops with
  | false=>rfl
  | true =>
   rw [aA (by decide)]
   cases decide (1000<=x.tx/\x.tx<=w.c.life * 1000+w.c.next-1) with
   | false=>rfl
   | true =>
    rw [aA (by decide)]
    by_cases h:sD x.tx w.begun=(pre.length:Int)
    ·rw [aC (by simp [h])]; simp [h]
    ·rw [aA (by simp [h]),show (sD x.tx w.begun==(pre.length:Int))=false by simp [h]]; rfl
theorem akR (hm:1048700<=m) : ∀ (post pre:List aS),pre.length+post.length<=1048576->∀ n,post.length<n->∀ k0 k1,
  eu m n (.l [zw w]) (.l (rC (pre++post))) (.i ((pre++post).length:Nat)) (.i pre.length) k0 k1=cond (post.all (Wm w.begun)) (k1 (.l [zw w])) (k0 (.b false))
 | [],pre,hs,n,hn,k0,k1=>by
  obtain ⟨n,rfl⟩ : ∃ m',n=m'+1:=⟨n-1,by omega⟩
  simp only [eu,T.ak,T.ah,rT]
  rw [aJ (by simp)]
  rfl
 | x::post,pre,hs,n,hn,k0,k1=>by
  obtain ⟨n,rfl⟩ : ∃ m',n=m'+1:=⟨n-1,by omega⟩
  simp only [List.length_cons] at hs hn
  have ih:=akR hm post (pre++[x]) (by simp; omega) n (by omega) k0 k1
  rw [aH,List.append_assoc,List.singleton_append] at ih
  simp only [eu,T.ak,T.ah,ixC,bD pre (by omega),c0,rT,al5]
  rw [aj (by simp <;> omega),aj (by simp <;> omega),EI (by omega) w x.tx hb,ih]
  simp only [T.ak,List.all_cons,Wm]
  cases decide (sD x.tx w.begun<0) <;> rfl
theorem akS (hm:1048700<=m) (Q6 : ∀ o∈w.begun,oO o.ops) : ∀ (post pre:List fB),pre.length+post.length<=1048576->∀ n,post.length<n->∀ k0 k1,
  d9 m n (.l [zw w]) (.l (rJ (pre++post))) (.i ((pre++post).length:Nat)) (.i pre.length) k0 k1=cond (post.all (Wn w.begun)) (k1 (.l [zw w])) (k0 (.b false))
 | [],pre,hs,n,hn,k0,k1=>by
  obtain ⟨n,rfl⟩ : ∃ m',n=m'+1:=⟨n-1,by omega⟩
  simp only [d9,T.ak,T.ah,rT]
  rw [aJ (by simp)]
  rfl
 | x::post,pre,hs,n,hn,k0,k1=>by
  obtain ⟨n,rfl⟩ : ∃ m',n=m'+1:=⟨n-1,by omega⟩
  simp only [List.length_cons] at hs hn
  have ih:=akS hm Q6 post (pre++[x]) (by simp; omega) n (by omega) k0 k1
  rw [aH,List.append_assoc,List.singleton_append] at ih
  simp only [d9,T.ak,T.ah,ixJ,bD pre (by omega),j0,j1,rT,al5,wr9,qD]
  rw [aj (by simp <;> omega),aj (by simp <;> omega),EI (by omega) w x.tx hb,ih]
  simp only [T.ak,List.all_cons,Wn]
  by_cases h:sD x.tx w.begun<0
  ·rw [decide_eq_true h]; rfl
  ·obtain ⟨j,hj,hjl⟩:=EL h
   rw [decide_eq_false h,hj,aA (by decide),aj (by omega),show Int.toNat (j:Int)=j from rfl,P7 w.begun hjl,bd1]
   simp only [T.ah]
   rw [al3 (by omega) _ x.ops (Q6 _ (EM hjl)).1]
   simp only [T.aI,Bool.not_false,Bool.true_and]
   cases Bf wo (w.begun.getD j default).ops x.ops <;> rfl
theorem agn (hm:1048710<=m) (h1:1<=w.c.life/\w.c.life<=900) (h2:0<=w.c.next/\w.c.next<=999) (Q6 : ∀ o∈w.begun,oO o.ops) (hj:w.c.jobs.length<=1048576) (hl:w.c.log.length<=1048576) (K:T->An) :
  oN m (.l [zw w]) K=K (.b (GI w)):=by
 obtain ⟨m,rfl⟩ : ∃ m',m=m'+1:=⟨m-1,by omega⟩
 simp only [oN,rT,wr9,T.ah,qD]
 refine (akQ m w hb (by omega) h1 h2 w.begun [] Q6 (by simpa using hb) m (by omega) _ _).trans ?_
 unfold GI
 simp only [List.length_nil]
 cases JZ w.c.life w.c.next w.begun 0 w.begun with
 | false=>rfl
 | true =>
  simp only [cond_true,rT,wr4,wr3,wr9,T.ah,lC,PX,qD,Bool.true_and]
  refine (akR m w hb (by omega) w.c.log [] (by simpa using hl) m (by omega) _ _).trans ?_
  cases w.c.log.all (Wm w.begun) with
  | false=>rfl
  | true =>
   simp only [cond_true,rT,wr4,wr3,wr9,T.ah,lC,PX,qD,Bool.true_and]
   refine (akS m w hb (by omega) Q6 w.c.jobs [] (by simpa using hj) m (by omega) _ _).trans ?_
   cases w.c.jobs.all (Wn w.begun) with
   | false=>rfl
   | true=>simp only [cond_true,rT,wr9,T.ah,qD,Bool.true_and]; congr 2; exact decide_eq_decide.2 (by omega)
end
section
variable (m:Nat) (N life next sure:Int) (jobs:List fB) (log:List aS) (l8 l9 l10:List (List T)) (nR:List dn) (hb:nR.length<=1048576)
include hb
theorem akT (hm:1048700<=m) (h1:1<=life/\life<=900) (h2:0<=next/\next<=999) : ∀ (post pre:List dn),nR=pre++post->(∀ o∈post,oO o.ops)->∀ n,post.length<n->∀ k0 k1,
  iy m n (.i 0) (.i pre.length) (.i N) (.i life) (.i next) (.l (rJ jobs)) (.l (rC log)) (.i sure) (.l l8) (.l l9) (.l l10) (.l (rB nR)) k0 k1=cond (JZ life next nR pre.length post) (k1 (.i 0) (.i N) (.i life) (.i next) (.l (rJ jobs)) (.l (rC log)) (.i sure) (.l l8) (.l l9) (.l l10) (.l (rB nR))) (k0 (.b false))
 | [],pre,e,ho,n,hn,k0,k1=>by
  obtain ⟨n,rfl⟩ : ∃ m',n=m'+1:=⟨n-1,by omega⟩
  simp only [iy,T.ak,T.ah,qD]
  rw [aJ (by rw [e]; simp)]
  rfl
 | x::post,pre,e,ho,n,hn,k0,k1=>by
  obtain ⟨n,rfl⟩ : ∃ m',n=m'+1:=⟨n-1,by omega⟩
  simp only [List.length_cons] at hn
  have hlen:nR.length=pre.length+(post.length+1):=by rw [e]; simp
  have ih:=akT hm h1 h2 post (pre++[x]) (by rw [e]; simp) (fun y hy=>ho y (by simp [hy])) n (by omega) k0 k1
  rw [aH,show (pre++[x]).length=pre.length+1 by simp] at ih
  have hx:(rB nR).getD (Int.toNat (pre.length:Int)) []=x.r:=by rw [e]; exact ixB _ _ _
  have d1:decide ((0:Int)<=(pre.length:Int)/\(pre.length:Int)<(nR.length:Int))=true:=decide_eq_true (by omega)
  have hz:((((0:Int).toNat:Nat)):Int)=0:=rfl
  simp only [iy,T.ak,T.ah,hx,bD pre (by omega),b0,bd1,qD,d1,cond_true,hz]
  rw [aj (by omega),vY (by omega) x.ops (ho x (by simp)),EJ (by omega) _ _ _ _ _ _ _ _ _ nR x.tx hb,wrap_i64 (x:=life * 1000) (by omega) (by omega),wrap_i64 (x:=life * 1000+next) (by omega) (by omega),wrap_i64 (by omega) (by omega),gT (by omega),ih]
  simp only [T.ak,T.aI]
  show _=cond (agm _ _ _ _ _&&_) _ _
  unfold agm
  cases fC x.ops with
  | false=>rfl
  | true =>
   rw [aA (by decide)]
   by_cases h:sD x.tx nR=(pre.length:Int)
   ·rw [aA (by simp [h])]
    simp only [h,beq_self_eq_true,Bool.and_true,Bool.true_and]
    cases decide (1000<=x.tx/\x.tx<=life * 1000+next-1) <;> rfl
   ·rw [aC (by simp [h]),show (sD x.tx nR==(pre.length:Int))=false by simp [h],Bool.and_false,Bool.and_false,Bool.false_and]; rfl
theorem akU (hm:1048700<=m) : ∀ (post pre:List aS),log=pre++post->log.length<=1048576->∀ n,post.length<n->∀ k0 k1,
  iq m n (.i 0) (.i pre.length) (.i N) (.i life) (.i next) (.l (rJ jobs)) (.l (rC log)) (.i sure) (.l l8) (.l l9) (.l l10) (.l (rB nR)) k0 k1=cond (post.all (Wm nR)) (k1 (.i 0) (.i N) (.i life) (.i next) (.l (rJ jobs)) (.l (rC log)) (.i sure) (.l l8) (.l l9) (.l l10) (.l (rB nR))) (k0 (.b false))
 | [],pre,e,hl,n,hn,k0,k1=>by
  obtain ⟨n,rfl⟩ : ∃ m',n=m'+1:=⟨n-1,by omega⟩
  simp only [iq,T.ak,T.ah,lC]
  rw [aJ (by rw [e]; simp)]
  rfl
 | x::post,pre,e,hl,n,hn,k0,k1=>by
  obtain ⟨n,rfl⟩ : ∃ m',n=m'+1:=⟨n-1,by omega⟩
  simp only [List.length_cons] at hn
  have hlen:log.length=pre.length+(post.length+1):=by rw [e]; simp
  have ih:=akU hm post (pre++[x]) (by rw [e]; simp) hl n (by omega) k0 k1
  rw [aH] at ih
  have hx:(rC log).getD (Int.toNat (pre.length:Int)) []=x.r:=by rw [e]; exact ixC _ _ _
  have hz:((((0:Int).toNat:Nat)):Int)=0:=rfl
  simp only [iq,T.ak,T.ah,hx,bD pre (by omega),c0,lC,hz]
  rw [aj (by omega),aj (by omega),EJ (by omega) _ _ _ _ _ _ _ _ _ nR x.tx hb,ih]
  simp only [T.ak,List.all_cons,Wm]
  cases decide (sD x.tx nR<0) <;> rfl
theorem akV (hm:1048700<=m) (Q6 : ∀ o∈nR,oO o.ops) : ∀ (post pre:List fB),jobs=pre++post->jobs.length<=1048576->∀ n,post.length<n->∀ k0 k1,
  iw m n (.i 0) (.i pre.length) (.i N) (.i life) (.i next) (.l (rJ jobs)) (.l (rC log)) (.i sure) (.l l8) (.l l9) (.l l10) (.l (rB nR)) k0 k1=cond (post.all (Wn nR)) (k1 (.i 0) (.i N) (.i life) (.i next) (.l (rJ jobs)) (.l (rC log)) (.i sure) (.l l8) (.l l9) (.l l10) (.l (rB nR))) (k0 (.b false))
 | [],pre,e,hl,n,hn,k0,k1=>by
  obtain ⟨n,rfl⟩ : ∃ m',n=m'+1:=⟨n-1,by omega⟩
  simp only [iw,T.ak,T.ah,PX]
  rw [aJ (by rw [e]; simp)]
  rfl
 | x::post,pre,e,hl,n,hn,k0,k1=>by
  obtain ⟨n,rfl⟩ : ∃ m',n=m'+1:=⟨n-1,by omega⟩
  simp only [List.length_cons] at hn
  have hlen:jobs.length=pre.length+(post.length+1):=by rw [e]; simp
  have ih:=akV hm Q6 post (pre++[x]) (by rw [e]; simp) hl n (by omega) k0 k1
  rw [aH] at ih
  have hx:(rJ jobs).getD (Int.toNat (pre.length:Int)) []=x.r:=by rw [e]; exact ixJ _ _ _
  have d1:decide ((0:Int)<=(pre.length:Int)/\(pre.length:Int)<(jobs.length:Int))=true:=decide_eq_true (by omega)
  have hz:((((0:Int).toNat:Nat)):Int)=0:=rfl
  simp only [iw,T.ak,T.ah,hx,bD pre (by omega),j0,jd1,PX,qD,d1,cond_true,hz]
  rw [aj (by omega),EJ (by omega) _ _ _ _ _ _ _ _ _ nR x.tx hb,ih]
  simp only [T.ak,List.all_cons,Wn]
  by_cases h:sD x.tx nR<0
  ·rw [decide_eq_true h]; rfl
  ·obtain ⟨j,hj,hjl⟩:=EL h
   rw [decide_eq_false h,hj,aA (by decide),aj (by omega),show Int.toNat (j:Int)=j from rfl,P7 nR hjl,bd1]
   simp only [T.ah]
   rw [al4 (by omega) _ x.ops (Q6 _ (EM hjl)).1]
   simp only [T.aI,Bool.not_false,Bool.true_and]
   cases Bf wo (nR.getD j default).ops x.ops <;> rfl
theorem agp (hm:1048710<=m) (h1:1<=life/\life<=900) (h2:0<=next/\next<=999) (Q6 : ∀ o∈nR,oO o.ops) (hj:jobs.length<=1048576) (hl:log.length<=1048576) (K:T->An) :
  uU m (.i N) (.i life) (.i next) (.l (rJ jobs)) (.l (rC log)) (.i sure) (.l l8) (.l l9) (.l l10) (.l (rB nR)) K=K (.b (JZ life next nR 0 nR&&(log.all (Wm nR)&&(jobs.all (Wn nR)&&decide (nR.length<=1000))))):=by
 obtain ⟨m,rfl⟩ : ∃ m',m=m'+1:=⟨m-1,by omega⟩
 have hz:((((0:Int).toNat:Nat)):Int)=0:=rfl
 simp only [uU,T.ah]
 refine (akT m N life next sure jobs log l8 l9 l10 nR hb (by omega) h1 h2 nR [] rfl Q6 m (by omega) _ _).trans ?_
 simp only [List.length_nil]
 cases JZ life next nR 0 nR with
 | false=>rfl
 | true =>
  simp only [cond_true,T.ak,hz,Bool.true_and]
  refine (akV m N life next sure jobs log l8 l9 l10 nR hb (by omega) Q6 jobs [] rfl hj m (by omega) _ _).trans ?_
  cases jobs.all (Wn nR) with
  | false=>simp only [Bool.false_and,Bool.and_false]; rfl
  | true =>
   simp only [cond_true,T.ak,hz,Bool.true_and]
   refine (akU m N life next sure jobs log l8 l9 l10 nR hb (by omega) log [] rfl hl m (by omega) _ _).trans ?_
   cases log.all (Wm nR) with
   | false=>rfl
   | true=>simp only [cond_true,T.ah,qD,Bool.true_and]; congr 2; exact decide_eq_decide.2 (by omega)
end
end Go.Proofs.YtjjonejgbdbnjaaGreat

namespace Go.Proofs.YtjjonejgbdbnjaaGreat
open Go Go.E Go.Proofs
def qG:Nat->List aK->Bool
 | _,[]=>true
 | i,s::l=>(s.id==(i:Int))&&(qE s&&qG (i+1) l)
def uX (w:aF):Bool:=qC w.c.n w.c.life w.c.next w.c.jobs w.c.log w.c.sure&&(((w.ay.length:Int)==w.c.n)&&(qG 0 w.ay&&(Bg w.ay.length w.net&&(Bg w.ay.length w.outs&&GI w))))
theorem LG {N life next sure:Int} {jobs:List fB} {log:List aS} (h:qC N life next jobs log sure=true):(1<=life/\life<=900)/\(0<=next/\next<=999):=by
 unfold qC at h
 simp only [Bool.and_eq_true,decide_eq_true_eq] at h
 exact ⟨h.2.1,h.2.2.1⟩
theorem aaF (pre:List aK) (x:aK) (post:List aK):(rS (pre++x::post)).getD (Int.toNat (pre.length:Int)) []=x.r:=by simp [List.getD]
theorem s0' (x:aK):x.r.getD 0 dflt = .i x.id:=rfl
theorem s1' (x:aK):x.r.getD 1 dflt = .l (rR x.log):=rfl
theorem s2' (x:aK):x.r.getD 2 dflt = .i x.sure:=rfl
theorem s3' (x:aK):x.r.getD 3 dflt = .l (rP x.map):=rfl
theorem s4' (x:aK):x.r.getD 4 dflt = .l (rR x.held):=rfl
theorem ajW (x:aK):(x.r.drop 1).getD 0 dflt = .l (rR x.log):=rfl
theorem YL (m:Nat) (hm:3200100<=m) (x4 x5 x6 x7 x8 x9 x10 bH fT kX:T) : ∀ (post pre:List aK),(∀ s∈post,Wj s)->pre.length+post.length<=1048576->∀ n,post.length<n->∀ k0 k1,
  jZ m n (.i 0) (.l (rS (pre++post))) (.i ((pre++post).length:Nat)) (.i pre.length) x4 x5 x6 x7 x8 x9 x10 bH fT kX k0 k1=cond (qG pre.length post) (k1 (.i 0) x4 x5 x6 x7 x8 x9 x10 bH fT kX) (k0 (.b false))
 | [],pre,ho,hs,n,hn,k0,k1=>by
  obtain ⟨n,rfl⟩ : ∃ m',n=m'+1:=⟨n-1,by omega⟩
  simp only [jZ,T.ak,T.ah]
  rw [aJ (by simp)]
  rfl
 | x::post,pre,ho,hs,n,hn,k0,k1=>by
  obtain ⟨n,rfl⟩ : ∃ m',n=m'+1:=⟨n-1,by omega⟩
  simp only [List.length_cons] at hs hn
  have ih:=YL m hm x4 x5 x6 x7 x8 x9 x10 bH fT kX post (pre++[x]) (fun y hy=>ho y (by simp [hy])) (by simp; omega) n (by omega) k0 k1
  rw [aH,List.append_assoc,List.singleton_append,show (pre++[x]).length=pre.length+1 by simp] at ih
  have hz:((((0:Int).toNat:Nat)):Int)=0:=rfl
  simp only [jZ,T.ak,T.ah,aaF,bD pre (by omega),s0',s1',s2',s3',s4',hz]
  rw [aj (by simp <;> omega),aj (by simp <;> omega),agk (by omega) x (ho x (by simp)),ih]
  simp only [T.aI]
  show _=cond ((x.id==(pre.length:Int))&&(qE x&&qG (pre.length+1) post)) _ _
  by_cases h:x.id=(pre.length:Int)
  ·rw [aA (by simp [h]),show (x.id==(pre.length:Int))=true by simp [h]]
   cases qE x <;> rfl
  ·rw [aC (by simp [h]),show (x.id==(pre.length:Int))=false by simp [h]]; rfl
theorem YM {m:Nat} (hm:3200200<=m) (w:aF) (h:CW w) (K:T->An) :
  uT m (.i w.c.n) (.i w.c.life) (.i w.c.next) (.l (rJ w.c.jobs)) (.l (rC w.c.log)) (.i w.c.sure) (.l (rS w.ay)) (.l (rW w.net)) (.l (rW w.outs)) (.l (rB w.begun)) K=K (.b (uX w)):=by
 obtain ⟨m,rfl⟩ : ∃ m',m=m'+1:=⟨m-1,by omega⟩
 simp only [uT,jn,T.ah,T.ak,jL]
 rw [afW (by omega) w.c.n w.c.life w.c.next w.c.sure w.c.jobs w.c.log h.jobs h.log]
 unfold uX
 cases hc:qC w.c.n w.c.life w.c.next w.c.jobs w.c.log w.c.sure with
 | false=>rfl
 | true =>
  obtain ⟨h1,h2⟩:=LG hc
  simp only [T.aI]
  rw [aA (by decide)]
  by_cases hn:(w.ay.length:Int)=w.c.n
  ·rw [aC (by simp [hn]),show ((w.ay.length:Int)==w.c.n)=true by simp [hn]]
   refine (YL m (by omega) _ _ _ _ _ _ _ _ _ _ w.ay [] h.sh (by simpa using h.shl) m (by have:=h.shl; omega) _ _).trans ?_
   simp only [List.length_nil]
   cases qG 0 w.ay with
   | false=>rfl
   | true =>
    simp only [cond_true,T.ah,Bool.true_and]
    rw [show (T.l [[.i w.c.n,.i w.c.life,.i w.c.next,.l (rJ w.c.jobs),.l (rC w.c.log),.i w.c.sure,.l (rS w.ay),.l (rW w.net),.l (rW w.outs),.l (rB w.begun)]])=T.l [zw w] from rfl,YH (by omega) w w.net h.JU h.net,YH (by omega) w w.outs h.Kw h.outs,agn m w h.Gy (by omega) h1 h2 h.nR h.jobs.1 h.log]
    simp only [T.aI]
    cases Bg w.ay.length w.net with
    | false=>rfl
    | true=>cases Bg w.ay.length w.outs <;> rfl
  ·rw [aA (by simp [hn]),show ((w.ay.length:Int)==w.c.n)=false by simp [hn]]; rfl
theorem YN (m:Nat) (hm:3200100<=m) (x2 x3 x4 x5 x6 x7 x9 x10 bH:T) : ∀ (post pre:List aK),(∀ s∈post,Wj s)->pre.length+post.length<=1048576->∀ n,post.length<n->∀ k0 k1,
  ku m n (.i 0) (.i pre.length) x2 x3 x4 x5 x6 x7 (.l (rS (pre++post))) x9 x10 bH k0 k1=cond (qG pre.length post) k1 (k0 (.b false))
 | [],pre,ho,hs,n,hn,k0,k1=>by
  obtain ⟨n,rfl⟩ : ∃ m',n=m'+1:=⟨n-1,by omega⟩
  simp only [ku,T.ak,T.ah]
  rw [aJ (by simp)]
  rfl
 | x::post,pre,ho,hs,n,hn,k0,k1=>by
  obtain ⟨n,rfl⟩ : ∃ m',n=m'+1:=⟨n-1,by omega⟩
  simp only [List.length_cons] at hs hn
  have ih:=YN m hm x2 x3 x4 x5 x6 x7 x9 x10 bH post (pre++[x]) (fun y hy=>ho y (by simp [hy])) (by simp; omega) n (by omega) k0 k1
  rw [aH,List.append_assoc,List.singleton_append,show (pre++[x]).length=pre.length+1 by simp] at ih
  have hz:((((0:Int).toNat:Nat)):Int)=0:=rfl
  have d1:decide ((0:Int)<=(pre.length:Int)/\(pre.length:Int)<((rS (pre++x::post)).length:Int))=true:=decide_eq_true (by simp; omega)
  simp only [ku,T.ak,T.ah,aaF,bD pre (by omega),s0',s1',s2',s3',s4',hz,d1,cond_true]
  rw [aj (by simp <;> omega),agl (by omega) x (ho x (by simp)),ih]
  simp only [T.aI]
  show _=cond ((x.id==(pre.length:Int))&&(qE x&&qG (pre.length+1) post)) _ _
  by_cases h:x.id=(pre.length:Int)
  ·rw [aA (by simp [h]),show (x.id==(pre.length:Int))=true by simp [h]]
   cases qE x <;> rfl
  ·rw [aC (by simp [h]),show (x.id==(pre.length:Int))=false by simp [h]]; rfl
theorem agq {m:Nat} (hm:3200200<=m) (w:aF) (h:CW w) (K:T->An) :
  zl m (.i w.c.n) (.i w.c.life) (.i w.c.next) (.l (rJ w.c.jobs)) (.l (rC w.c.log)) (.i w.c.sure) (.l (rS w.ay)) (.l (rW w.net)) (.l (rW w.outs)) (.l (rB w.begun)) K=K (.b (uX w)):=by
 obtain ⟨m,rfl⟩ : ∃ m',m=m'+1:=⟨m-1,by omega⟩
 simp only [zl,jn,T.ah,T.ak,jL]
 rw [afV (by omega) w.c.n w.c.life w.c.next w.c.sure w.c.jobs w.c.log h.jobs h.log]
 unfold uX
 cases hc:qC w.c.n w.c.life w.c.next w.c.jobs w.c.log w.c.sure with
 | false=>rfl
 | true =>
  obtain ⟨h1,h2⟩:=LG hc
  simp only [T.aI]
  rw [aA (by decide)]
  by_cases hn:(w.ay.length:Int)=w.c.n
  ·rw [aA (by simp [hn]),show ((w.ay.length:Int)==w.c.n)=true by simp [hn],YI (by omega) _ _ _ _ _ _ _ _ _ w.ay w.net h.JU h.net,YI (by omega) _ _ _ _ _ _ _ _ _ w.ay w.outs h.Kw h.outs,
    agp m w.c.n w.c.life w.c.next w.c.sure w.c.jobs w.c.log _ _ _ w.begun h.Gy (by omega) h1 h2 h.nR h.jobs.1 h.log]
   have e:(JZ w.c.life w.c.next w.begun 0 w.begun&&(w.c.log.all (Wm w.begun)&&(w.c.jobs.all (Wn w.begun)&&decide (w.begun.length<=1000))))=GI w:=rfl
   rw [e]
   have hl:=YN m (by omega) (.i w.c.n) (.i w.c.life) (.i w.c.next) (.l (rJ w.c.jobs)) (.l (rC w.c.log)) (.i w.c.sure) (.l (rW w.net)) (.l (rW w.outs)) (.l (rB w.begun)) w.ay [] h.sh (by simpa using h.shl) m (by have:=h.shl; omega) (fun y8=>K y8) (K (.b true))
   simp only [T.aI]
   cases Bg w.ay.length w.net with
   | false=>simp only [Bool.false_and,Bool.and_false,Bool.true_and]; rfl
   | true =>
    cases Bg w.ay.length w.outs with
    | false=>simp only [Bool.false_and,Bool.and_false,Bool.true_and]; rfl
    | true =>
     cases GI w with
     | false=>simp only [Bool.false_and,Bool.and_false,Bool.true_and]; rfl
     | true =>
      refine hl.trans ?_
      simp only [List.length_nil]
      cases qG 0 w.ay <;> rfl
  ·rw [aC (by simp [hn]),show ((w.ay.length:Int)==w.c.n)=false by simp [hn]]; rfl
end Go.Proofs.YtjjonejgbdbnjaaGreat

namespace Go.Proofs.YtjjonejgbdbnjaaGreat
open Go Go.E Go.Proofs
theorem hz0:((((0:Int).toNat:Nat)):Int)=0:=rfl
def DY (first kind tx:Int):Nat->List bE->Bool
 | _,[]=>false
 | i,r::l=>decide ((i:Int)<first)&&(((r.kind==kind)&&(r.tx==tx))||DY first kind tx (i+1) l)
theorem YO (m:Nat) (first kind tx:Int) : ∀ (post pre:List bE),pre.length+post.length<=1048576->∀ n,post.length<n->∀ k0 k1,
  gQ m n (.l (rR (pre++post))) (.i first) (.i kind) (.i tx) (.i pre.length) k0 k1=cond (DY first kind tx pre.length post) (k0 (.b true)) k1
 | [],pre,hs,n,hn,k0,k1=>by
  obtain ⟨n,rfl⟩ : ∃ m',n=m'+1:=⟨n-1,by omega⟩
  simp only [gQ,jn,T.ak,T.ah]
  by_cases h:(pre.length:Int)<first
  ·rw [aA (by simp [h]),aJ (by simp)]; rfl
  ·rw [aC (by simp [h])]; rfl
 | x::post,pre,hs,n,hn,k0,k1=>by
  obtain ⟨n,rfl⟩ : ∃ m',n=m'+1:=⟨n-1,by omega⟩
  simp only [List.length_cons] at hs hn
  have ih:=YO m first kind tx post (pre++[x]) (by simp; omega) n (by omega) k0 k1
  rw [aH,List.append_assoc,List.singleton_append,show (pre++[x]).length=pre.length+1 by simp] at ih
  have d1:decide ((0:Int)<=(pre.length:Int)/\(pre.length:Int)<((rR (pre++x::post)).length:Int))=true:=decide_eq_true (by simp; omega)
  simp only [gQ,jn,T.ak,T.ah,XA,bD pre (by omega),r0,rd1,d1,cond_true]
  show _=cond (decide ((pre.length:Int)<first)&&(((x.kind==kind)&&(x.tx==tx))||DY first kind tx (pre.length+1) post)) _ _
  by_cases h:(pre.length:Int)<first
  ·rw [aA (by simp [h]),aj (by simp; omega),decide_eq_true h,ih]
   by_cases h1:x.kind=kind
   ·rw [aA (by simp [h1]),show (x.kind==kind)=true by simp [h1]]
    by_cases h2:x.tx=tx
    ·rw [aA (by simp [h2]),show (x.tx==tx)=true by simp [h2]]; rfl
    ·rw [aC (by simp [h2]),show (x.tx==tx)=false by simp [h2]]; rfl
   ·rw [aC (by simp [h1]),show (x.kind==kind)=false by simp [h1]]; rfl
  ·rw [aC (by simp [h]),decide_eq_false h]; rfl
def HZ (l:List bE) (first kind tx:Int):Bool:=DY first kind tx 0 l
theorem MF {m:Nat} (hm:1048600<=m) (l:List bE) (first kind tx:Int) (hl:l.length<=1048576) (K:T->An):qZ m (.l (rR l)) (.i first) (.i kind) (.i tx) K=K (.b (HZ l first kind tx)):=by
 obtain ⟨m,rfl⟩ : ∃ m',m=m'+1:=⟨m-1,by omega⟩
 simp only [qZ,T.ah]
 refine (YO m first kind tx l [] (by simpa using hl) m (by omega) _ _).trans ?_
 unfold HZ
 simp only [List.length_nil]
 cases DY first kind tx 0 l <;> rfl
def QW (sh:List aK) (tx:Int):Bool:=sh.any fun s=>HZ s.log s.log.length 3 tx
def acN (sh:List aK) (r:bE):Bool:=!(r.kind==2) || !QW sh r.tx
def sF (sh:List aK):Bool:=sh.all fun s=>s.log.all (acN sh)
theorem ns2 (m:Nat) (hm:1048600<=m) (x1 x5 x6 x7 x8 x9 x10 fT kX xk:T) (rp rq:List bE) (r:bE) (sh:List aK) (hrl:rp.length<=1048576) : ∀ (post pre:List aK),sh=pre++post->(∀ s∈post,s.log.length<=1048576)->sh.length<=1048576->∀ n,post.length<n->∀ k0 k1,
  kC m n (.i 0) x1 (.l (rR (rp++r::rq))) (.i rp.length) (.i pre.length) x5 x6 x7 x8 x9 x10 (.l (rS sh)) fT kX xk k0 k1=cond ((r.kind==2)&&QW post r.tx) (k0 (.b false)) (k1 (.i 0) x1 (.l (rR (rp++r::rq))) (.i rp.length) x5 x6 x7 x8 x9 x10 (.l (rS sh)) fT kX xk)
 | [],pre,e,ho,hs,n,hn,k0,k1=>by
  obtain ⟨n,rfl⟩ : ∃ m',n=m'+1:=⟨n-1,by omega⟩
  simp only [kC,jn,T.ak,T.ah,jL]
  rw [aC (by rw [e]; simp)]
  simp [QW]
 | x::post,pre,e,ho,hs,n,hn,k0,k1=>by
  obtain ⟨n,rfl⟩ : ∃ m',n=m'+1:=⟨n-1,by omega⟩
  simp only [List.length_cons] at hn
  have hlen:sh.length=pre.length+(post.length+1):=by rw [e]; simp
  have ih:=ns2 m hm x1 x5 x6 x7 x8 x9 x10 fT kX xk rp rq r sh hrl post (pre++[x]) (by rw [e]; simp) (fun s h=>ho s (by simp [h])) hs n (by omega) k0 k1
  rw [aH] at ih
  have hx:(rS sh).getD (Int.toNat (pre.length:Int)) []=x.r:=by rw [e]; exact aaF _ _ _
  have d1:decide ((0:Int)<=(pre.length:Int)/\(pre.length:Int)<(sh.length:Int))=true:=decide_eq_true (by omega)
  have d2:decide ((0:Int)<=(rp.length:Int)/\(rp.length:Int)<((rp++r::rq).length:Int))=true:=decide_eq_true (by simp; omega)
  have dd:decide ((pre.length:Int)<(sh.length:Int))=true:=decide_eq_true (by omega)
  simp only [kC,jn,T.ak,T.ah,hx,XA,bD pre (by omega),r0,rd1,ajW,jL,d1,d2,dd,cond_true,hz0,fP]
  rw [aA (by rfl),MF (by omega) x.log _ _ _ (ho x (by simp)),ih]
  simp only [T.aI]
  by_cases h:r.kind=2
  ·rw [aA (by simp [h]),show (r.kind==2)=true by simp [h]]
   show cond (HZ x.log x.log.length 3 r.tx) _ _=cond (true&&(HZ x.log x.log.length 3 r.tx||QW post r.tx)) _ _
   cases HZ x.log x.log.length 3 r.tx <;> rfl
  ·rw [aC (by simp [h]),show (r.kind==2)=false by simp [h]]; rfl
theorem ns1 (m:Nat) (hm:1048600<=m) (x1 x4 x5 x6 x7 x8 x9 bH fT kX:T) (sh:List aK) (hs:sh.length<=1048576) (ho : ∀ s∈sh,s.log.length<=1048576) : ∀ (post pre:List bE),pre.length+post.length<=1048576->∀ n,post.length+sh.length+1<n->∀ k0 k1,
  kD m n (.i 0) x1 (.l (rR (pre++post))) (.i pre.length) x4 x5 x6 x7 x8 x9 (.l (rS sh)) bH fT kX k0 k1=cond (post.all (acN sh)) (k1 (.i 0) x1 x4 x5 x6 x7 x8 x9 (.l (rS sh)) bH fT kX) (k0 (.b false))
 | [],pre,hl,n,hn,k0,k1=>by
  obtain ⟨n,rfl⟩ : ∃ m',n=m'+1:=⟨n-1,by omega⟩
  simp only [kD,T.ak,T.ah]
  rw [aJ (by simp)]
  rfl
 | r::post,pre,hl,n,hn,k0,k1=>by
  obtain ⟨n,rfl⟩ : ∃ m',n=m'+1:=⟨n-1,by omega⟩
  simp only [List.length_cons] at hn hl
  have ih:=ns1 m hm x1 x4 x5 x6 x7 x8 x9 bH fT kX sh hs ho post (pre++[r]) (by simp; omega) n (by omega) k0 k1
  rw [aH,List.append_assoc,List.singleton_append] at ih
  simp only [kD,T.ak,T.ah,hz0]
  rw [aj (by simp; omega)]
  have l2:=ns2 m hm x1 x4 x5 x6 x7 x8 x9 bH fT kX pre post r sh (by omega) sh [] rfl ho hs n (by omega) k0
  simp only [List.length_nil,Int.natCast_zero] at l2
  refine (l2 _).trans ?_
  simp only [T.ak,hz0,bD pre (by omega),List.all_cons]
  rw [ih]
  unfold acN
  cases (r.kind==2) <;> cases QW sh r.tx <;> rfl
theorem ns0 (m:Nat) (hm:1048600<=m) (x2 x3 x4 x5 x6 x7 x9 x10 bH:T) (sh:List aK) (hs:sh.length<=1048576) (ho : ∀ s∈sh,s.log.length<=1048576) : ∀ (post pre:List aK),sh=pre++post->∀ n,post.length+1048576+sh.length+2<n->∀ k0 k1,
  kE m n (.i 0) (.i pre.length) x2 x3 x4 x5 x6 x7 (.l (rS sh)) x9 x10 bH k0 k1=cond (post.all fun s=>s.log.all (acN sh)) k1 (k0 (.b false))
 | [],pre,e,n,hn,k0,k1=>by
  obtain ⟨n,rfl⟩ : ∃ m',n=m'+1:=⟨n-1,by omega⟩
  simp only [kE,T.ak,T.ah,jL]
  rw [aJ (by rw [e]; simp)]
  rfl
 | x::post,pre,e,n,hn,k0,k1=>by
  obtain ⟨n,rfl⟩ : ∃ m',n=m'+1:=⟨n-1,by omega⟩
  simp only [List.length_cons] at hn
  have hlen:sh.length=pre.length+(post.length+1):=by rw [e]; simp
  have ih:=ns0 m hm x2 x3 x4 x5 x6 x7 x9 x10 bH sh hs ho post (pre++[x]) (by rw [e]; simp) n (by omega) k0 k1
  rw [aH] at ih
  have hx:(rS sh).getD (Int.toNat (pre.length:Int)) []=x.r:=by rw [e]; exact aaF _ _ _
  have hxl:x.log.length<=1048576:=ho x (by rw [e]; simp)
  simp only [kE,T.ak,T.ah,hx,ajW,jL,hz0]
  rw [aj (by omega),aj (by omega)]
  have l1:=ns1 m hm (.i pre.length) x2 x3 x4 x5 x6 x7 x9 x10 bH sh hs ho x.log [] (by simpa using hxl) n (by omega) k0
  simp only [List.length_nil,Int.natCast_zero,List.nil_append] at l1
  refine (l1 _).trans ?_
  simp only [T.ak,hz0,bD pre (by omega),List.all_cons]
  rw [ih]
  cases x.log.all (acN sh) <;> rfl
theorem acO {m:Nat} (hm:4000000<=m) (x0 x1 x2 x5:T) (l3 l4 l7 l8 l9:List (List T)) (sh:List aK) (hs:sh.length<=1048576) (ho : ∀ s∈sh,s.log.length<=1048576) (K:T->An) :
  zm m x0 x1 x2 (.l l3) (.l l4) x5 (.l (rS sh)) (.l l7) (.l l8) (.l l9) K=K (.b (sF sh)):=by
 obtain ⟨m,rfl⟩ : ∃ m',m=m'+1:=⟨m-1,by omega⟩
 simp only [zm,T.ah]
 refine (ns0 m (by omega) x0 x1 x2 (.l l3) (.l l4) x5 (.l l7) (.l l8) (.l l9) sh hs ho sh [] rfl m (by omega) _ _).trans ?_
 unfold sF
 cases sh.all fun s=>s.log.all (acN sh) <;> rfl
theorem Wo (first kind tx:Int) : ∀ (l:List bE) (i:Nat),((i+l.length:Nat):Int)<=first->DY first kind tx i l=l.any fun r=>(r.kind==kind)&&(r.tx==tx)
 | [],i,h=>rfl
 | r::l,i,h=>by
  simp only [List.length_cons] at h
  unfold DY
  rw [decide_eq_true (by omega),Wo first kind tx l (i+1) (by omega)]
  rfl
theorem acP (l:List bE) (kind tx:Int):HZ l l.length kind tx=l.any fun r=>(r.kind==kind)&&(r.tx==tx):=Wo _ _ _ l 0 (by simp)
def nsP (sh:List aK):List (Int×Int):=sh.flatMap fun s=>s.log.map fun r=>(r.kind,r.tx)
theorem agr (sh:List aK):vH (rS sh)=nsP sh:=by
 unfold vH nsP
 rw [List.flatMap_map]
 congr 1
 funext s
 show Mf s.r=_
 show (rR s.log).map abB=_
 rw [List.map_map]
 rfl
theorem al6 (sh:List aK):nsB (nsP sh)=sF sh:=by
 rw [Bool.eq_iff_iff]
 unfold nsB sF acN QW Yg nsP
 simp only [List.all_eq_true,List.mem_map,List.mem_filter,List.mem_flatMap,Bool.or_eq_true,Bool.not_eq_true',List.any_eq_false,acP,Bool.and_eq_true,beq_iff_eq,beq_eq_false_iff_ne]
 constructor
 ·intro h s hs r hr
  by_cases hk:r.kind=2
  ·right
   intro s' hs' h2
   rw [List.any_eq_true] at h2
   obtain ⟨r',hr',h3⟩:=h2
   simp only [Bool.and_eq_true,beq_iff_eq] at h3
   have:=h r.tx ⟨(r.kind,r.tx),⟨⟨s,hs,r,hr,rfl⟩,hk⟩,rfl⟩
   rw [<-Bool.not_eq_true] at this
   exact this (by rw [List.contains_iff_mem]; exact List.mem_map.2 ⟨(r'.kind,r'.tx),by simp only [List.mem_filter,List.mem_flatMap,List.mem_map,beq_iff_eq]; exact ⟨⟨s',hs',r',hr',rfl⟩,h3.1⟩,h3.2⟩)
  ·exact .inl hk
 ·rintro h x ⟨⟨k,t⟩,⟨⟨s,hs,r,hr,e⟩,hk⟩,rfl⟩
  cases e
  rcases h s hs r hr with h1 | h1
  ·exact absurd hk h1
  ·rw [<-Bool.not_eq_true,List.contains_iff_mem]
   intro hx
   obtain ⟨⟨k',t'⟩,h2,h3⟩:=List.mem_map.1 hx
   simp only [List.mem_filter,List.mem_flatMap,List.mem_map,beq_iff_eq] at h2
   obtain ⟨⟨s',hs',r',hr',e'⟩,hk'⟩:=h2
   cases e'
   exact h1 s' hs' (by rw [List.any_eq_true]; exact ⟨r',hr',by simp only [Bool.and_eq_true,beq_iff_eq]; exact ⟨hk',h3⟩⟩)
theorem QX {m:Nat} (hm:1<=m) (x0 x1 x2 x3 x4 x5 x7 x8 x9:T) (sh:List aK) (hl:(nsP sh).length<=aD) (K:T->An):uI m x0 x1 x2 x3 x4 x5 (.l (rS sh)) x7 x8 x9 K=K (.b (sF sh)):=by
 obtain ⟨m,rfl⟩ : ∃ m',m=m'+1:=⟨m-1,by omega⟩
 simp only [uI,T.ah,agr,al6]
 rw [aj hl]
end Go.Proofs.YtjjonejgbdbnjaaGreat

namespace Go.Proofs.YtjjonejgbdbnjaaGreat
open Go Go.E Go.Proofs
def MG (sure tx:Int):Nat->List aS->Bool
 | _,[]=>false
 | i,c::l=>((c.tx==tx)&&(c.yes&&decide ((i:Int)<sure)))||MG sure tx (i+1) l
theorem acQ (sure tx:Int) : ∀ (l:List aS) (i:Nat),¬ (i:Int)<sure->MG sure tx i l=false
 | [],i,h=>rfl
 | c::l,i,h=>by
  unfold MG
  rw [decide_eq_false h,acQ sure tx l (i+1) (by omega),Bool.and_false,Bool.and_false]
  rfl
theorem cd1 (x:aS):(x.r.drop 1).getD 0 dflt = .b x.yes:=rfl
theorem afd (m:Nat) (w:aF) (tx:Int) : ∀ (post pre:List aS),pre.length+post.length<=1048576->∀ n,post.length<n->∀ k0 k1,
  bU m n (.l [zw w]) (.i tx) (.l (rC (pre++post))) (.i ((pre++post).length:Nat)) (.i pre.length) k0 k1=cond (MG w.c.sure tx pre.length post) (k0 (.b true)) k1
 | [],pre,hs,n,hn,k0,k1=>by
  obtain ⟨n,rfl⟩ : ∃ m',n=m'+1:=⟨n-1,by omega⟩
  simp only [bU,T.ak,T.ah]
  rw [aJ (by simp)]
  rfl
 | x::post,pre,hs,n,hn,k0,k1=>by
  obtain ⟨n,rfl⟩ : ∃ m',n=m'+1:=⟨n-1,by omega⟩
  simp only [List.length_cons] at hs hn
  have ih:=afd m w tx post (pre++[x]) (by simp; omega) n (by omega) k0 k1
  rw [aH,List.append_assoc,List.singleton_append,show (pre++[x]).length=pre.length+1 by simp] at ih
  simp only [bU,T.ak,T.ah,ixC,bD pre (by omega),c0,c1,T.aI,rT,wr5]
  rw [aj (by simp; omega),aj (by simp; omega),ih]
  show _=cond (((x.tx==tx)&&(x.yes&&decide ((pre.length:Int)<w.c.sure)))||MG w.c.sure tx (pre.length+1) post) _ _
  cases (x.tx==tx) <;> cases x.yes <;> cases decide ((pre.length:Int)<w.c.sure) <;> rfl
def OX (w:aF) (tx:Int):Bool:=MG w.c.sure tx 0 w.c.log
theorem ad7 {m:Nat} (hm:1048600<=m) (w:aF) (tx:Int) (hl:w.c.log.length<=1048576) (K:T->An):nQ m (.l [zw w]) (.i tx) K=K (.b (OX w tx)):=by
 obtain ⟨m,rfl⟩ : ∃ m',m=m'+1:=⟨m-1,by omega⟩
 simp only [nQ,rT,wr4,T.ah,lC]
 refine (afd m w tx w.c.log [] (by simpa using hl) m (by omega) _ _).trans ?_
 unfold OX
 simp only [List.length_nil]
 cases MG w.c.sure tx 0 w.c.log <;> rfl
theorem anV (m:Nat) (x3 x4 x5 x6:T) (sure tx:Int) : ∀ (post pre:List aS),pre.length+post.length<=1048576->∀ n,post.length<n->∀ k0 k1,
  jm m n (.i tx) (.i 0) (.i pre.length) x3 x4 x5 x6 (.l (rC (pre++post))) (.i sure) k0 k1=cond (MG sure tx pre.length post) (k0 (.b true)) k1
 | [],pre,hs,n,hn,k0,k1=>by
  obtain ⟨n,rfl⟩ : ∃ m',n=m'+1:=⟨n-1,by omega⟩
  simp only [jm,jn,T.ak,T.ah]
  rw [aC (by simp)]
  rfl
 | x::post,pre,hs,n,hn,k0,k1=>by
  obtain ⟨n,rfl⟩ : ∃ m',n=m'+1:=⟨n-1,by omega⟩
  simp only [List.length_cons] at hs hn
  have ih:=anV m x3 x4 x5 x6 sure tx post (pre++[x]) (by simp; omega) n (by omega) k0 k1
  rw [aH,List.append_assoc,List.singleton_append,show (pre++[x]).length=pre.length+1 by simp] at ih
  have d1:decide ((0:Int)<=(pre.length:Int)/\(pre.length:Int)<((rC (pre++x::post)).length:Int))=true:=decide_eq_true (by simp; omega)
  simp only [jm,jn,T.ak,T.ah,ixC,bD pre (by omega),c0,cd1,T.aI,hz0,d1,cond_true]
  rw [aA (by simp; omega),ih]
  by_cases h:(pre.length:Int)<sure
  ·rw [aj h]
   show _=cond (((x.tx==tx)&&(x.yes&&decide ((pre.length:Int)<sure)))||MG sure tx (pre.length+1) post) _ _
   rw [decide_eq_true h]
   cases (x.tx==tx) <;> cases x.yes <;> rfl
  ·rw [aJ h,acQ _ _ _ _ h]; rfl
theorem aiI {m:Nat} (hm:1048600<=m) (x0 x1 x2:T) (l3:List (List T)) (log:List aS) (sure tx:Int) (hl:log.length<=1048576) (K:T->An):Cu m x0 x1 x2 (.l l3) (.l (rC log)) (.i sure) (.i tx) K=K (.b (MG sure tx 0 log)):=by
 obtain ⟨m,rfl⟩ : ∃ m',m=m'+1:=⟨m-1,by omega⟩
 simp only [Cu,T.ah]
 refine (anV m x0 x1 x2 (.l l3) sure tx log [] (by simpa using hl) m (by omega) _ _).trans ?_
 simp only [List.length_nil]
 cases MG sure tx 0 log <;> rfl
def bk1 (w:aF) (r:bE):Bool:=!(r.kind==2)||OX w r.tx
def zx (w:aF):Bool:=w.ay.all fun s=>s.log.all (bk1 w)
section
variable (m:Nat) (hm:1048700<=m) (w:aF) (hw:CW w)
include hm hw
theorem aiJ (x1 x2 x3:T) : ∀ (post pre:List bE),pre.length+post.length<=1048576->∀ n,post.length<n->∀ k0 k1,
  lV m n (.i 0) x1 x2 x3 (.l (rR (pre++post))) (.i ((pre++post).length:Nat)) (.i pre.length) (.i w.c.n) (.i w.c.life) (.i w.c.next) (.l (rJ w.c.jobs)) (.l (rC w.c.log)) (.i w.c.sure) (.l (rS w.ay)) (.l (rW w.net)) (.l (rW w.outs)) (.l (rB w.begun)) k0 k1 =
   cond (post.all (bk1 w)) (k1 (.i 0) x1 x2 x3 (.i w.c.n) (.i w.c.life) (.i w.c.next) (.l (rJ w.c.jobs)) (.l (rC w.c.log)) (.i w.c.sure) (.l (rS w.ay)) (.l (rW w.net)) (.l (rW w.outs)) (.l (rB w.begun))) (k0 (.b false))
 | [],pre,hs,n,hn,k0,k1=>by
  obtain ⟨n,rfl⟩ : ∃ m',n=m'+1:=⟨n-1,by omega⟩
  simp only [lV,T.ak,T.ah]
  rw [aJ (by simp)]
  rfl
 | x::post,pre,hs,n,hn,k0,k1=>by
  obtain ⟨n,rfl⟩ : ∃ m',n=m'+1:=⟨n-1,by omega⟩
  simp only [List.length_cons] at hs hn
  have ih:=aiJ x1 x2 x3 post (pre++[x]) (by simp; omega) n (by omega) k0 k1
  rw [aH,List.append_assoc,List.singleton_append] at ih
  simp only [lV,T.ak,T.ah,XA,bD pre (by omega),r0,r1,hz0]
  rw [aj (by simp; omega),aj (by simp; omega),show (T.l [[.i w.c.n,.i w.c.life,.i w.c.next,.l (rJ w.c.jobs),.l (rC w.c.log),.i w.c.sure,.l (rS w.ay),.l (rW w.net),.l (rW w.outs),.l (rB w.begun)]])=T.l [zw w] from rfl,ad7 (by omega) w x.tx hw.log,ih]
  simp only [T.aI,List.all_cons,bk1]
  cases (x.kind==2) <;> cases OX w x.tx <;> rfl
theorem aiK : ∀ (post pre:List aK),(∀ s∈post,s.log.length<=1048576)->pre.length+post.length<=1048576->∀ n,post.length+1048576+1<n->∀ k0 k1,
  lW m n (.i 0) (.l (rS (pre++post))) (.i ((pre++post).length:Nat)) (.i pre.length) (.i w.c.n) (.i w.c.life) (.i w.c.next) (.l (rJ w.c.jobs)) (.l (rC w.c.log)) (.i w.c.sure) (.l (rS w.ay)) (.l (rW w.net)) (.l (rW w.outs)) (.l (rB w.begun)) k0 k1 =
   cond (post.all fun s=>s.log.all (bk1 w)) k1 (k0 (.b false))
 | [],pre,ho,hs,n,hn,k0,k1=>by
  obtain ⟨n,rfl⟩ : ∃ m',n=m'+1:=⟨n-1,by omega⟩
  simp only [lW,T.ak,T.ah]
  rw [aJ (by simp)]
  rfl
 | x::post,pre,ho,hs,n,hn,k0,k1=>by
  obtain ⟨n,rfl⟩ : ∃ m',n=m'+1:=⟨n-1,by omega⟩
  simp only [List.length_cons] at hs hn
  have hx:=ho x (by simp)
  have ih:=aiK post (pre++[x]) (fun s h=>ho s (by simp [h])) (by simp; omega) n (by omega) k0 k1
  rw [aH,List.append_assoc,List.singleton_append] at ih
  simp only [lW,T.ak,T.ah,aaF,s1',hz0,fP]
  rw [aj (by simp; omega),aj (by simp; omega)]
  have l1:=aiJ m hm w hw (.l (rS (pre++x::post))) (.i ((pre++x::post).length:Nat)) (.i pre.length) x.log [] (by simpa using hx) n (by omega) k0
  simp only [List.nil_append,List.length_nil,Int.natCast_zero] at l1
  refine (l1 _).trans ?_
  simp only [T.ak,hz0,bD pre (by omega),List.all_cons]
  rw [ih]
  cases x.log.all (bk1 w) <;> rfl
end
theorem Wp {m:Nat} (hm:2200000<=m) (w:aF) (hw:CW w) (K:T->An) :
  xD m (.i w.c.n) (.i w.c.life) (.i w.c.next) (.l (rJ w.c.jobs)) (.l (rC w.c.log)) (.i w.c.sure) (.l (rS w.ay)) (.l (rW w.net)) (.l (rW w.outs)) (.l (rB w.begun)) K=K (.b (zx w)):=by
 obtain ⟨m,rfl⟩ : ∃ m',m=m'+1:=⟨m-1,by omega⟩
 simp only [xD,T.ah,jL]
 refine (aiK m (by omega) w hw w.ay [] (fun s h=>(hw.sh s h).log) (by simpa using hw.shl) m (by have:=hw.shl; omega) _ _).trans ?_
 unfold zx
 cases w.ay.all fun s=>s.log.all (bk1 w) <;> rfl
section
variable (m:Nat) (hm:1048700<=m) (w:aF) (hw:CW w)
include hm hw
theorem aiL (x1:T) : ∀ (post pre:List bE),pre.length+post.length<=1048576->∀ n,post.length<n->∀ k0 k1,
  lX m n (.i 0) x1 (.l (rR (pre++post))) (.i pre.length) (.i w.c.n) (.i w.c.life) (.i w.c.next) (.l (rJ w.c.jobs)) (.l (rC w.c.log)) (.i w.c.sure) (.l (rS w.ay)) (.l (rW w.net)) (.l (rW w.outs)) (.l (rB w.begun)) k0 k1 =
   cond (post.all (bk1 w)) (k1 (.i 0) x1 (.i w.c.n) (.i w.c.life) (.i w.c.next) (.l (rJ w.c.jobs)) (.l (rC w.c.log)) (.i w.c.sure) (.l (rS w.ay)) (.l (rW w.net)) (.l (rW w.outs)) (.l (rB w.begun))) (k0 (.b false))
 | [],pre,hs,n,hn,k0,k1=>by
  obtain ⟨n,rfl⟩ : ∃ m',n=m'+1:=⟨n-1,by omega⟩
  simp only [lX,T.ak,T.ah]
  rw [aJ (by simp)]
  rfl
 | x::post,pre,hs,n,hn,k0,k1=>by
  obtain ⟨n,rfl⟩ : ∃ m',n=m'+1:=⟨n-1,by omega⟩
  simp only [List.length_cons] at hs hn
  have ih:=aiL x1 post (pre++[x]) (by simp; omega) n (by omega) k0 k1
  rw [aH,List.append_assoc,List.singleton_append] at ih
  have d1:decide ((0:Int)<=(pre.length:Int)/\(pre.length:Int)<((rR (pre++x::post)).length:Int))=true:=decide_eq_true (by simp; omega)
  simp only [lX,T.ak,T.ah,XA,bD pre (by omega),r0,rd1,hz0,d1,cond_true]
  rw [aj (by simp; omega),aiI (by omega) _ _ _ _ w.c.log w.c.sure x.tx hw.log,ih]
  simp only [T.aI,List.all_cons,bk1]
  show _=cond ((!(x.kind==2)||MG w.c.sure x.tx 0 w.c.log)&&_) _ _
  cases (x.kind==2) <;> cases MG w.c.sure x.tx 0 w.c.log <;> rfl
theorem aiM : ∀ (post pre:List aK),w.ay=pre++post->∀ n,post.length+1048576+1<n->∀ k0 k1,
  lY m n (.i 0) (.i pre.length) (.i w.c.n) (.i w.c.life) (.i w.c.next) (.l (rJ w.c.jobs)) (.l (rC w.c.log)) (.i w.c.sure) (.l (rS w.ay)) (.l (rW w.net)) (.l (rW w.outs)) (.l (rB w.begun)) k0 k1 =
   cond (post.all fun s=>s.log.all (bk1 w)) k1 (k0 (.b false))
 | [],pre,e,n,hn,k0,k1=>by
  obtain ⟨n,rfl⟩ : ∃ m',n=m'+1:=⟨n-1,by omega⟩
  simp only [lY,T.ak,T.ah,jL]
  rw [aJ (by rw [e]; simp)]
  rfl
 | x::post,pre,e,n,hn,k0,k1=>by
  obtain ⟨n,rfl⟩ : ∃ m',n=m'+1:=⟨n-1,by omega⟩
  simp only [List.length_cons] at hn
  have hlen:w.ay.length=pre.length+(post.length+1):=by rw [e]; simp
  have hsl:=hw.shl
  have hx:=(hw.sh x (by rw [e]; simp)).log
  have ih:=aiM post (pre++[x]) (by rw [e]; simp) n (by omega) k0 k1
  rw [aH] at ih
  have hxx:(rS w.ay).getD (Int.toNat (pre.length:Int)) []=x.r:=by rw [e]; exact aaF _ _ _
  simp only [lY,T.ak,T.ah,hxx,ajW,hz0,jL]
  rw [aj (by omega),aj (by omega)]
  have l1:=aiL m hm w hw (.i pre.length) x.log [] (by simpa using hx) n (by omega) k0
  simp only [List.nil_append,List.length_nil,Int.natCast_zero] at l1
  refine (l1 _).trans ?_
  simp only [T.ak,hz0,bD pre (by omega),List.all_cons]
  rw [ih]
  cases x.log.all (bk1 w) <;> rfl
end
theorem ad8 {m:Nat} (hm:2200000<=m) (w:aF) (hw:CW w) (K:T->An) :
  Cv m (.i w.c.n) (.i w.c.life) (.i w.c.next) (.l (rJ w.c.jobs)) (.l (rC w.c.log)) (.i w.c.sure) (.l (rS w.ay)) (.l (rW w.net)) (.l (rW w.outs)) (.l (rB w.begun)) K=K (.b (zx w)):=by
 obtain ⟨m,rfl⟩ : ∃ m',m=m'+1:=⟨m-1,by omega⟩
 simp only [Cv,T.ah]
 refine (aiM m (by omega) w hw w.ay [] rfl m (by have:=hw.shl; omega) _ _).trans ?_
 unfold zx
 cases w.ay.all fun s=>s.log.all (bk1 w) <;> rfl
end Go.Proofs.YtjjonejgbdbnjaaGreat

namespace Go.Proofs.YtjjonejgbdbnjaaGreat
open Go Go.E Go.Proofs
theorem acR {α:Type} {f:α->α->Bool} (hf : ∀ x y,f x y=f y x) : ∀ a b:List α,Bf f a b=Bf f b a
 | [],[]=>rfl
 | x::a,y::b=>by unfold Bf; rw [hf x y,acR hf a b]
 | [],_::_=>rfl
 | _::_,[]=>rfl
theorem ags (a b:Int):(a==b)=(b==a):=by
 rw [Bool.eq_iff_iff]; simp only [beq_iff_eq]; exact ⟨Eq.symm,Eq.symm⟩
theorem agt (x y:eY):wo x y=wo y x:=by
 unfold wo
 rw [ags x.kind,Wi x.key,Wi x.val]
def wh1 (w:aF) (id:Int) (r:bE):Bool:=(r.kind != 1)||(!decide (sD r.tx w.begun<0)&&Bf wo (mX (w.begun.getD (sD r.tx w.begun).toNat default).ops id w.c.n) r.ops)
def GJ (w:aF):Bool:=w.ay.all fun s=>s.log.all (wh1 w s.id)
section
variable (m:Nat) (hm:1048700<=m) (w:aF) (hw:CW w)
include hm hw
theorem anW (x2 x3 x4 x19 x20 x21 x22:T) (id:Int) : ∀ (post pre:List bE),pre.length+post.length<=1048576->∀ n,post.length<n->∀ k0 k1,
  nu m n (.i 0) (.i 0) x2 x3 x4 (.l (rR (pre++post))) (.i ((pre++post).length:Nat)) (.i pre.length) (.i w.c.n) (.i w.c.life) (.i w.c.next) (.l (rJ w.c.jobs)) (.l (rC w.c.log)) (.i w.c.sure) (.l (rS w.ay)) (.l (rW w.net)) (.l (rW w.outs)) (.l (rB w.begun)) (.i id) x19 x20 x21 x22 k0 k1 =
   cond (post.all (wh1 w id)) (k1 (.i 0) x2 x3 x4 (.i w.c.n) (.i w.c.life) (.i w.c.next) (.l (rJ w.c.jobs)) (.l (rC w.c.log)) (.i w.c.sure) (.l (rS w.ay)) (.l (rW w.net)) (.l (rW w.outs)) (.l (rB w.begun))) (k0 (.b false))
 | [],pre,hs,n,hn,k0,k1=>by
  obtain ⟨n,rfl⟩ : ∃ m',n=m'+1:=⟨n-1,by omega⟩
  simp only [nu,T.ak,T.ah]
  rw [aJ (by simp)]
  rfl
 | x::post,pre,hs,n,hn,k0,k1=>by
  obtain ⟨n,rfl⟩ : ∃ m',n=m'+1:=⟨n-1,by omega⟩
  simp only [List.length_cons] at hs hn
  have ih:=anW x2 x3 x4 x19 x20 x21 x22 id post (pre++[x]) (by simp; omega) n (by omega) k0 k1
  rw [aH,List.append_assoc,List.singleton_append] at ih
  have hbl:=hw.Gy
  simp only [nu,T.ak,T.ah,XA,bD pre (by omega),r0,r1,r2,hz0,qD]
  rw [aj (by simp; omega),aj (by simp; omega),show (T.l [[.i w.c.n,.i w.c.life,.i w.c.next,.l (rJ w.c.jobs),.l (rC w.c.log),.i w.c.sure,.l (rS w.ay),.l (rW w.net),.l (rW w.outs),.l (rB w.begun)]])=T.l [zw w] from rfl,EI (by omega) w x.tx hbl,ih]
  simp only [T.ak,List.all_cons]
  unfold wh1
  by_cases hk:x.kind=1
  ·rw [aC (by simp [hk]),show (x.kind != 1)=false by simp [hk]]
   by_cases h:sD x.tx w.begun<0
   ·rw [decide_eq_true h]; rfl
   ·obtain ⟨j,hj,hjl⟩:=EL h
    have Ib:=hw.nR _ (EM hjl)
    rw [decide_eq_false h,hj,aA (by decide),aj (by omega),show Int.toNat (j:Int)=j from rfl,P7 w.begun hjl,bd1]
    simp only [T.ah]
    rw [adQ (by omega) _ id w.c.n Ib]
    simp only [T.ah]
    rw [al3 (by omega) _ x.ops (by have:=Bb (w.begun.getD j default).ops id w.c.n; have:=Ib.1; omega)]
    simp only [T.aI,Bool.not_false,Bool.true_and,Bool.false_or]
    cases Bf wo (mX (w.begun.getD j default).ops id w.c.n) x.ops <;> rfl
  ·rw [aA (by simp [hk]),show (x.kind != 1)=true by simp [hk]]; rfl
theorem anX : ∀ (post pre:List aK),(∀ s∈post,s.log.length<=1048576)->pre.length+post.length<=1048576->∀ n,post.length+1048576+1<n->∀ k0 k1,
  ny m n (.i 0) (.l (rS (pre++post))) (.i ((pre++post).length:Nat)) (.i pre.length) (.i w.c.n) (.i w.c.life) (.i w.c.next) (.l (rJ w.c.jobs)) (.l (rC w.c.log)) (.i w.c.sure) (.l (rS w.ay)) (.l (rW w.net)) (.l (rW w.outs)) (.l (rB w.begun)) k0 k1 =
   cond (post.all fun s=>s.log.all (wh1 w s.id)) k1 (k0 (.b false))
 | [],pre,ho,hs,n,hn,k0,k1=>by
  obtain ⟨n,rfl⟩ : ∃ m',n=m'+1:=⟨n-1,by omega⟩
  simp only [ny,T.ak,T.ah]
  rw [aJ (by simp)]
  rfl
 | x::post,pre,ho,hs,n,hn,k0,k1=>by
  obtain ⟨n,rfl⟩ : ∃ m',n=m'+1:=⟨n-1,by omega⟩
  simp only [List.length_cons] at hs hn
  have hx:=ho x (by simp)
  have ih:=anX post (pre++[x]) (fun s h=>ho s (by simp [h])) (by simp; omega) n (by omega) k0 k1
  rw [aH,List.append_assoc,List.singleton_append] at ih
  simp only [ny,T.ak,T.ah,aaF,s0',s1',s2',s3',s4',hz0,fP]
  rw [aj (by simp; omega),aj (by simp; omega)]
  have l1:=anW m hm w hw (.l (rS (pre++x::post))) (.i ((pre++x::post).length:Nat)) (.i pre.length) (.l (rR x.log)) (.i x.sure) (.l (rP x.map)) (.l (rR x.held)) x.id x.log [] (by simpa using hx) n (by omega) k0
  simp only [List.nil_append,List.length_nil,Int.natCast_zero] at l1
  refine (l1 _).trans ?_
  simp only [T.ak,hz0,bD pre (by omega),List.all_cons]
  rw [ih]
  cases x.log.all (wh1 w x.id) <;> rfl
end
theorem YP {m:Nat} (hm:2200000<=m) (w:aF) (hw:CW w) (K:T->An) :
  AR m (.i w.c.n) (.i w.c.life) (.i w.c.next) (.l (rJ w.c.jobs)) (.l (rC w.c.log)) (.i w.c.sure) (.l (rS w.ay)) (.l (rW w.net)) (.l (rW w.outs)) (.l (rB w.begun)) K=K (.b (GJ w)):=by
 obtain ⟨m,rfl⟩ : ∃ m',m=m'+1:=⟨m-1,by omega⟩
 simp only [AR,T.ah,jL]
 refine (anX m (by omega) w hw w.ay [] (fun s h=>(hw.sh s h).log) (by simpa using hw.shl) m (by have:=hw.shl; omega) _ _).trans ?_
 unfold GJ
 cases w.ay.all fun s=>s.log.all (wh1 w s.id) <;> rfl
section
variable (m:Nat) (hm:1048700<=m) (w:aF) (hw:CW w)
include hm hw
theorem anY (sp sq:List aK) (s:aK) (e:w.ay=sp++s::sq) : ∀ (post pre:List bE),pre.length+post.length<=1048576->∀ n,post.length<n->∀ k0 k1,
  nA m n (.i 0) (.i sp.length) (.l (rR (pre++post))) (.i pre.length) (.i w.c.n) (.i w.c.life) (.i w.c.next) (.l (rJ w.c.jobs)) (.l (rC w.c.log)) (.i w.c.sure) (.l (rS w.ay)) (.l (rW w.net)) (.l (rW w.outs)) (.l (rB w.begun)) k0 k1 =
   cond (post.all (wh1 w s.id)) (k1 (.i 0) (.i sp.length) (.i w.c.n) (.i w.c.life) (.i w.c.next) (.l (rJ w.c.jobs)) (.l (rC w.c.log)) (.i w.c.sure) (.l (rS w.ay)) (.l (rW w.net)) (.l (rW w.outs)) (.l (rB w.begun))) (k0 (.b false))
 | [],pre,hs,n,hn,k0,k1=>by
  obtain ⟨n,rfl⟩ : ∃ m',n=m'+1:=⟨n-1,by omega⟩
  simp only [nA,T.ak,T.ah]
  rw [aJ (by simp)]
  rfl
 | x::post,pre,hs,n,hn,k0,k1=>by
  obtain ⟨n,rfl⟩ : ∃ m',n=m'+1:=⟨n-1,by omega⟩
  simp only [List.length_cons] at hs hn
  have ih:=anY sp sq s e post (pre++[x]) (by simp; omega) n (by omega) k0 k1
  rw [aH,List.append_assoc,List.singleton_append] at ih
  have hbl:=hw.Gy
  have hsl:w.ay.length=sp.length+(sq.length+1):=by rw [e]; simp
  have hsx:(rS w.ay).getD (Int.toNat (sp.length:Int)) []=s.r:=by rw [e]; exact aaF _ _ _
  have d1:decide ((0:Int)<=(pre.length:Int)/\(pre.length:Int)<((rR (pre++x::post)).length:Int))=true:=decide_eq_true (by simp; omega)
  have d2:decide ((0:Int)<=(sp.length:Int)/\(sp.length:Int)<(w.ay.length:Int))=true:=decide_eq_true (by omega)
  simp only [nA,T.ak,T.ah,XA,bD pre (by omega),r0,rd1,rd2,hz0,qD,jL,d1,d2,hsx,s0',cond_true]
  rw [aj (by simp; omega),EJ (by omega) _ _ _ _ _ _ _ _ _ w.begun x.tx hbl,ih]
  simp only [T.ak,List.all_cons]
  unfold wh1
  by_cases hk:x.kind=1
  ·rw [aC (by simp [hk]),show (x.kind != 1)=false by simp [hk]]
   by_cases h:sD x.tx w.begun<0
   ·rw [decide_eq_true h]; rfl
   ·obtain ⟨j,hj,hjl⟩:=EL h
    have Ib:=hw.nR _ (EM hjl)
    rw [decide_eq_false h,hj,aA (by decide),aj (by omega),show Int.toNat (j:Int)=j from rfl,P7 w.begun hjl,bd1]
    simp only [T.ah]
    rw [Vz (by omega) _ s.id w.c.n Ib]
    simp only [T.ah]
    by_cases hxl:x.ops.length<=1048576
    ·rw [al4 (by omega) x.ops _ hxl,acR agt]
     simp only [T.aI,Bool.not_false,Bool.true_and,Bool.false_or]
     cases Bf wo (mX (w.begun.getD j default).ops s.id w.c.n) x.ops <;> rfl
    ·have hne:(mX (w.begun.getD j default).ops s.id w.c.n).length≠x.ops.length:=by have:=Bb (w.begun.getD j default).ops s.id w.c.n; have:=Ib.1; omega
     obtain ⟨q,rfl⟩ : ∃ q,m=q+1:=⟨m-1,by omega⟩
     rw [ME hne]
     simp only [mE,T.ah,jJ]
     rw [aA (MC (fun h=>hne h.symm))]
     rfl
  ·rw [aA (by simp [hk]),show (x.kind != 1)=true by simp [hk]]; rfl
theorem anZ : ∀ (post pre:List aK),w.ay=pre++post->∀ n,post.length+1048576+1<n->∀ k0 k1,
  nC m n (.i 0) (.i pre.length) (.i w.c.n) (.i w.c.life) (.i w.c.next) (.l (rJ w.c.jobs)) (.l (rC w.c.log)) (.i w.c.sure) (.l (rS w.ay)) (.l (rW w.net)) (.l (rW w.outs)) (.l (rB w.begun)) k0 k1 =
   cond (post.all fun s=>s.log.all (wh1 w s.id)) k1 (k0 (.b false))
 | [],pre,e,n,hn,k0,k1=>by
  obtain ⟨n,rfl⟩ : ∃ m',n=m'+1:=⟨n-1,by omega⟩
  simp only [nC,T.ak,T.ah,jL]
  rw [aJ (by rw [e]; simp)]
  rfl
 | x::post,pre,e,n,hn,k0,k1=>by
  obtain ⟨n,rfl⟩ : ∃ m',n=m'+1:=⟨n-1,by omega⟩
  simp only [List.length_cons] at hn
  have hlen:w.ay.length=pre.length+(post.length+1):=by rw [e]; simp
  have hsl:=hw.shl
  have hx:=(hw.sh x (by rw [e]; simp)).log
  have ih:=anZ post (pre++[x]) (by rw [e]; simp) n (by omega) k0 k1
  rw [aH] at ih
  have hxx:(rS w.ay).getD (Int.toNat (pre.length:Int)) []=x.r:=by rw [e]; exact aaF _ _ _
  simp only [nC,T.ak,T.ah,hxx,ajW,hz0,jL]
  rw [aj (by omega),aj (by omega)]
  have l1:=anY m hm w hw pre post x e x.log [] (by simpa using hx) n (by omega) k0
  simp only [List.nil_append,List.length_nil,Int.natCast_zero] at l1
  refine (l1 _).trans ?_
  simp only [T.ak,hz0,bD pre (by omega),List.all_cons]
  rw [ih]
  cases x.log.all (wh1 w x.id) <;> rfl
end
theorem agu {m:Nat} (hm:2200000<=m) (w:aF) (hw:CW w) (K:T->An) :
  Gq m (.i w.c.n) (.i w.c.life) (.i w.c.next) (.l (rJ w.c.jobs)) (.l (rC w.c.log)) (.i w.c.sure) (.l (rS w.ay)) (.l (rW w.net)) (.l (rW w.outs)) (.l (rB w.begun)) K=K (.b (GJ w)):=by
 obtain ⟨m,rfl⟩ : ∃ m',m=m'+1:=⟨m-1,by omega⟩
 simp only [Gq,T.ah]
 refine (anZ m (by omega) w hw w.ay [] rfl m (by have:=hw.shl; omega) _ _).trans ?_
 unfold GJ
 cases w.ay.all fun s=>s.log.all (wh1 w s.id) <;> rfl
end Go.Proofs.YtjjonejgbdbnjaaGreat

namespace Go.Proofs.YtjjonejgbdbnjaaGreat
open Go Go.E Go.Proofs
def YQ (tx:Int) (r:bE):Bool:=(r.tx==tx)&&((r.kind==1)||(r.kind==2))
def Cy (s:aK):Nat:=(LK 0 (LJ s.sure (s.log.length:Int))).toNat
def Wq (s:aK) (tx:Int):Bool:=(s.log.take (Cy s)).any (YQ tx)
theorem acS (s:aK):Cy s<=s.log.length:=by
 unfold Cy LK LJ
 split <;> split <;> omega
theorem aiN (s:aK):LK 0 (LJ s.sure (s.log.length:Int))=(Cy s:Int):=by
 unfold Cy LK LJ
 split <;> split <;> omega
theorem Ws (m:Nat) (tx:Int) : ∀ (post pre:List bE),pre.length+post.length<=1048576->∀ n,post.length<n->∀ k0 k1,
  bX m n (.i tx) (.l (rR (pre++post))) (.i ((pre++post).length:Nat)) (.i pre.length) k0 k1=cond (post.any (YQ tx)) (k0 (.b true)) k1
 | [],pre,hs,n,hn,k0,k1=>by
  obtain ⟨n,rfl⟩ : ∃ m',n=m'+1:=⟨n-1,by omega⟩
  simp only [bX,T.ak,T.ah]
  rw [aJ (by simp)]
  rfl
 | x::post,pre,hs,n,hn,k0,k1=>by
  obtain ⟨n,rfl⟩ : ∃ m',n=m'+1:=⟨n-1,by omega⟩
  simp only [List.length_cons] at hs hn
  have ih:=Ws m tx post (pre++[x]) (by simp; omega) n (by omega) k0 k1
  rw [aH,List.append_assoc,List.singleton_append] at ih
  simp only [bX,T.ak,T.ah,XA,bD pre (by omega),r0,r1]
  rw [aj (by simp; omega),aj (by simp; omega),ih]
  simp only [List.any_cons,YQ]
  cases (x.tx==tx) <;> cases (x.kind==1) <;> cases (x.kind==2) <;> rfl
theorem aiO {m:Nat} (hm:1048600<=m) (s:aK) (tx:Int) (hl:s.log.length<=1048576) (K:T->An):mH m (.l [s.r]) (.i tx) K=K (.b (Wq s tx)):=by
 obtain ⟨m,rfl⟩ : ∃ m',m=m'+1:=⟨m-1,by omega⟩
 have e1:(s.r.drop 1).getD 0 dflt = .l (rR s.log):=rfl
 have e2:(s.r.drop 2).getD 0 dflt = .i s.sure:=rfl
 have hle:=acS s
 have e3:(rR s.log).take (Int.toNat (Cy s:Int))=rR (s.log.take (Cy s)):=by
  rw [show Int.toNat (Cy s:Int)=Cy s from rfl]; simp [rR]
 simp only [mH,rT,e1,e2,T.ah,T.ak,fP,aiN,e3]
 rw [aj (by omega),aj (by omega)]
 refine (Ws m tx (s.log.take (Cy s)) [] (by rw [List.length_take]; simp; omega) m (by rw [List.length_take]; omega) _ _).trans ?_
 unfold Wq
 cases (s.log.take (Cy s)).any (YQ tx) <;> rfl
theorem J2 (first kind tx:Int) : ∀ (l:List bE) (i:Nat),DY first kind tx i l=(l.take (first-i).toNat).any fun r=>(r.kind==kind)&&(r.tx==tx)
 | [],i=>by simp [DY]
 | r::l,i=>by
  unfold DY
  rw [J2 first kind tx l (i+1)]
  by_cases h:(i:Int)<first
  ·obtain ⟨q,hq⟩ : ∃ q,(first-i).toNat=q+1:=⟨(first-i).toNat-1,by omega⟩
   rw [hq,decide_eq_true h,List.take_succ_cons,show (first-((i+1:Nat):Int)).toNat=q by omega]
   rfl
  ·rw [decide_eq_false h,show (first-(i:Int)).toNat=0 by omega]; rfl
theorem aiP {α:Type} (f g:α->Bool) : ∀ l:List α,l.any (fun x=>f x||g x)=(l.any f||l.any g)
 | []=>rfl
 | x::l=>by
  simp only [List.any_cons,aiP f g l]
  cases f x <;> cases g x <;> cases l.any f <;> cases l.any g <;> rfl
theorem agv (s:aK) (tx:Int):Wq s tx=(HZ s.log s.sure 1 tx||HZ s.log s.sure 2 tx):=by
 unfold HZ Wq
 rw [J2,J2,<-aiP]
 have e:s.log.take (s.sure-((0:Nat):Int)).toNat=s.log.take (Cy s):=by
  rw [Int.natCast_zero,Int.sub_zero]
  have hs:=acS s
  have hI:=aiN s
  unfold LK LJ at hI
  by_cases h1:(s.log.length:Int)<s.sure
  ·rw [if_pos h1] at hI
   have:Cy s=s.log.length:=by split at hI <;> omega
   rw [this,List.take_of_length_le (by omega),List.take_of_length_le (Nat.le_refl _)]
  ·rw [if_neg h1] at hI
   congr 1
   split at hI <;> omega
 rw [e]
 congr 1
 funext r
 unfold YQ
 cases (r.tx==tx) <;> cases (r.kind==1) <;> cases (r.kind==2) <;> rfl
def pr1 (w:aF) (tx s:Int):Bool:=decide (s<(w.ay.length:Int))&&Wq (w.ay.getD s.toNat default) tx
def pr (w:aF) (c:aS):Bool:=!c.yes||(!decide (sD c.tx w.begun<0)&&(bC (w.begun.getD (sD c.tx w.begun).toNat default).ops w.c.n).all (pr1 w c.tx))
def rz (w:aF):Bool:=w.c.log.all (pr w)
theorem P8 {ops:List eY} {n s:Int} (h:s∈bC ops n):0<=s:=by
 unfold bC at h
 rw [Ez] at h
 rcases h with h | h
 ·cases h
 ·obtain ⟨o,-,rfl⟩:=List.mem_map.1 h; omega
theorem aiQ (l:List aK) {j:Nat} (h:j<l.length):(rS l).getD j []=(l.getD j default).r:=by simp [List.getD,h]
theorem acT {l:List aK} {j:Nat} (h:j<l.length):l.getD j default∈l:=by simp [List.getD,h]
theorem acU {tx:Int} : ∀ {l:List dn} {j:Nat},qF tx l=some j->(l.getD j default).tx=tx
 | [],j,h=>by cases h
 | r::l,j,h=>by
  unfold qF at h
  split at h
  ·cases h; simpa using ‹r.tx=tx›
  ·cases h2:qF tx l with
   | none=>rw [h2] at h; cases h
   | some i=>rw [h2] at h; cases h; simpa using acU h2
section
variable (m:Nat) (hm:1048800<=m) (w:aF) (hw:CW w)
include hm hw
theorem an0 (x2 x3 x4 x19:T) (tx:Int) : ∀ (post pre:List Int),(∀ s∈post,0<=s)->pre.length+post.length<=1048576->∀ n,post.length<n->∀ k0 k1,
  je m n (.i 0) (.i 0) x2 x3 x4 (.l (ir (pre++post))) (.i ((pre++post).length:Nat)) (.i pre.length) (.i w.c.n) (.i w.c.life) (.i w.c.next) (.l (rJ w.c.jobs)) (.l (rC w.c.log)) (.i w.c.sure) (.l (rS w.ay)) (.l (rW w.net)) (.l (rW w.outs)) (.l (rB w.begun)) (.i tx) x19 k0 k1 =
   cond (post.all (pr1 w tx)) (k1 (.i 0) x2 x3 x4 (.i w.c.n) (.i w.c.life) (.i w.c.next) (.l (rJ w.c.jobs)) (.l (rC w.c.log)) (.i w.c.sure) (.l (rS w.ay)) (.l (rW w.net)) (.l (rW w.outs)) (.l (rB w.begun))) (k0 (.b false))
 | [],pre,hp,hs,n,hn,k0,k1=>by
  obtain ⟨n,rfl⟩ : ∃ m',n=m'+1:=⟨n-1,by omega⟩
  simp only [je,T.ak,T.ah]
  rw [aJ (by simp)]
  rfl
 | x::post,pre,hp,hs,n,hn,k0,k1=>by
  obtain ⟨n,rfl⟩ : ∃ m',n=m'+1:=⟨n-1,by omega⟩
  simp only [List.length_cons] at hs hn
  have hx:=hp x (by simp)
  have ih:=an0 x2 x3 x4 x19 tx post (pre++[x]) (fun s h=>hp s (by simp [h])) (by simp; omega) n (by omega) k0 k1
  rw [aH,List.append_assoc,List.singleton_append] at ih
  simp only [je,T.ak,T.ah,ixI,bD pre (by omega),hz0,jL]
  rw [aj (by simp; omega),aj (by simp [ir]; omega),ih]
  simp only [List.all_cons,pr1]
  by_cases h:x<(w.ay.length:Int)
  ·have hxl:x.toNat<w.ay.length:=by omega
   rw [aA (by simp; omega),aj (by omega),aiQ w.ay hxl,show (w.ay.getD x.toNat default).r.take 5=(w.ay.getD x.toNat default).r from rfl,aiO (by omega) _ tx (hw.sh _ (acT hxl)).log,decide_eq_true h]
   simp only [T.aI,Bool.true_and]
   cases Wq (w.ay.getD x.toNat default) tx <;> rfl
  ·rw [aC (by simp; omega),decide_eq_false h]; rfl
theorem an1 : ∀ (post pre:List aS),pre.length+post.length<=1048576->∀ n,post.length+1048576+1<n->∀ k0 k1,
  jf m n (.i 0) (.l (rC (pre++post))) (.i ((pre++post).length:Nat)) (.i pre.length) (.i w.c.n) (.i w.c.life) (.i w.c.next) (.l (rJ w.c.jobs)) (.l (rC w.c.log)) (.i w.c.sure) (.l (rS w.ay)) (.l (rW w.net)) (.l (rW w.outs)) (.l (rB w.begun)) k0 k1 =
   cond (post.all (pr w)) k1 (k0 (.b false))
 | [],pre,hs,n,hn,k0,k1=>by
  obtain ⟨n,rfl⟩ : ∃ m',n=m'+1:=⟨n-1,by omega⟩
  simp only [jf,T.ak,T.ah]
  rw [aJ (by simp)]
  rfl
 | x::post,pre,hs,n,hn,k0,k1=>by
  obtain ⟨n,rfl⟩ : ∃ m',n=m'+1:=⟨n-1,by omega⟩
  simp only [List.length_cons] at hs hn
  have ih:=an1 post (pre++[x]) (by simp; omega) n (by omega) k0 k1
  rw [aH,List.append_assoc,List.singleton_append] at ih
  have hbl:=hw.Gy
  simp only [jf,T.ak,T.ah,ixC,bD pre (by omega),c0,c1,T.aI,hz0,qD]
  rw [aj (by simp; omega),aj (by simp; omega),show (T.l [[.i w.c.n,.i w.c.life,.i w.c.next,.l (rJ w.c.jobs),.l (rC w.c.log),.i w.c.sure,.l (rS w.ay),.l (rW w.net),.l (rW w.outs),.l (rB w.begun)]])=T.l [zw w] from rfl,EI (by omega) w x.tx hbl,ih]
  simp only [T.ak,List.all_cons]
  unfold pr
  cases hy:x.yes with
  | false=>rfl
  | true =>
   rw [aC (by decide)]
   by_cases h:sD x.tx w.begun<0
   ·rw [decide_eq_true h]; rfl
   ·obtain ⟨j,hj,hjl⟩:=EL h
    have Ib:=hw.nR _ (EM hjl)
    rw [decide_eq_false h,hj,cond_false,aj (by omega),show Int.toNat (j:Int)=j from rfl,P7 w.begun hjl,bd1]
    simp only [T.ah]
    rw [Vx (by omega) _ w.c.n Ib]
    simp only [T.ah,Bool.not_true,Bool.false_or,Bool.not_false,Bool.true_and]
    have hsl:=lG (w.begun.getD j default).ops w.c.n
    have hol:=Ib.1
    have l1:=an0 m hm w hw (.l (rC (pre++x::post))) (.i ((pre++x::post).length:Nat)) (.i pre.length) (.b true) x.tx (bC (w.begun.getD j default).ops w.c.n) [] (fun s hs=>P8 hs) (by rw [List.length_nil,Nat.zero_add]; omega) n (by omega) k0
    simp only [List.nil_append,List.length_nil,Int.natCast_zero] at l1
    rw [show ((ir (bC (w.begun.getD j default).ops w.c.n)).length:Int)=((bC (w.begun.getD j default).ops w.c.n).length:Int) by simp [ir]]
    refine (l1 _).trans ?_
    simp only [T.ak,hz0,bD pre (by omega)]
    rw [ih]
    cases (bC (w.begun.getD j default).ops w.c.n).all (pr1 w x.tx) <;> rfl
end
theorem OY {m:Nat} (hm:2200000<=m) (w:aF) (hw:CW w) (K:T->An) :
  sj m (.i w.c.n) (.i w.c.life) (.i w.c.next) (.l (rJ w.c.jobs)) (.l (rC w.c.log)) (.i w.c.sure) (.l (rS w.ay)) (.l (rW w.net)) (.l (rW w.outs)) (.l (rB w.begun)) K=K (.b (rz w)):=by
 obtain ⟨m,rfl⟩ : ∃ m',m=m'+1:=⟨m-1,by omega⟩
 simp only [sj,T.ah,lC]
 refine (an1 m (by omega) w hw w.c.log [] (by simpa using hw.log) m (by have:=hw.log; omega) _ _).trans ?_
 unfold rz
 cases w.c.log.all (pr w) <;> rfl
section
variable (m:Nat) (hm:1048800<=m) (w:aF) (hw:CW w)
include hm hw
theorem an2 (KU:T) (tx:Int) : ∀ (post pre:List Int),(∀ s∈post,0<=s)->pre.length+post.length<=1048576->∀ n,post.length<n->∀ k0 k1,
  kF m n (.i 0) (.i 0) (.l (ir (pre++post))) (.i pre.length) (.i w.c.n) (.i w.c.life) (.i w.c.next) (.l (rJ w.c.jobs)) (.l (rC w.c.log)) (.i w.c.sure) (.l (rS w.ay)) (.l (rW w.net)) (.l (rW w.outs)) (.l (rB w.begun)) (.i tx) KU k0 k1 =
   cond (post.all (pr1 w tx)) k1 (k0 (.b false))
 | [],pre,hp,hs,n,hn,k0,k1=>by
  obtain ⟨n,rfl⟩ : ∃ m',n=m'+1:=⟨n-1,by omega⟩
  simp only [kF,T.ak,T.ah]
  rw [aJ (by simp [ir])]
  rfl
 | x::post,pre,hp,hs,n,hn,k0,k1=>by
  obtain ⟨n,rfl⟩ : ∃ m',n=m'+1:=⟨n-1,by omega⟩
  simp only [List.length_cons] at hs hn
  have hx:=hp x (by simp)
  have ih:=an2 KU tx post (pre++[x]) (fun s h=>hp s (by simp [h])) (by simp; omega) n (by omega) k0 k1
  rw [aH,List.append_assoc,List.singleton_append] at ih
  have d1:decide ((0:Int)<=(pre.length:Int)/\(pre.length:Int)<((ir (pre++x::post)).length:Int))=true:=decide_eq_true (by simp [ir]; omega)
  simp only [kF,T.ak,T.ah,ixI,bD pre (by omega),hz0,jL,d1,cond_true]
  rw [aj (by simp [ir]; omega),ih,aiH]
  simp only [List.all_cons,pr1]
  by_cases h:x<(w.ay.length:Int)
  ·have hxl:x.toNat<w.ay.length:=by omega
   have e1:(w.ay.getD x.toNat default).r.getD 1 dflt = .l (rR (w.ay.getD x.toNat default).log):=rfl
   have e2:(w.ay.getD x.toNat default).r.getD 2 dflt = .i (w.ay.getD x.toNat default).sure:=rfl
   have hlg:=(hw.sh _ (acT hxl)).log
   rw [decide_eq_true h,aC (by decide),aj (by omega),aiQ w.ay hxl,e1,e2,agv]
   simp only [T.ah]
   rw [MF (by omega) _ _ _ _ hlg,MF (by omega) _ _ _ _ hlg]
   simp only [T.aI,Bool.true_and]
   cases HZ (w.ay.getD x.toNat default).log (w.ay.getD x.toNat default).sure 1 tx <;> cases HZ (w.ay.getD x.toNat default).log (w.ay.getD x.toNat default).sure 2 tx <;> rfl
  ·rw [decide_eq_false h,aA (by decide)]; rfl
theorem aiR (ops:List eY) (Ib:oO ops) (tx:Int) (hm:1048801<=m) (K:T->An) :
  zn m (.i w.c.n) (.i w.c.life) (.i w.c.next) (.l (rJ w.c.jobs)) (.l (rC w.c.log)) (.i w.c.sure) (.l (rS w.ay)) (.l (rW w.net)) (.l (rW w.outs)) (.l (rB w.begun)) (.i tx) (.l (rO ops)) K=K (.b ((bC ops w.c.n).all (pr1 w tx))):=by
 obtain ⟨m,rfl⟩ : ∃ m',m=m'+1:=⟨m-1,by omega⟩
 have hsl:=lG ops w.c.n
 have hol:=Ib.1
 simp only [zn,T.ah]
 rw [Ba (by omega) ops w.c.n Ib]
 simp only [T.ah]
 refine (an2 m (by omega) w hw (.l (rO ops)) tx (bC ops w.c.n) [] (fun s hs=>P8 hs) (by rw [List.length_nil,Nat.zero_add]; omega) m (by omega) _ _).trans ?_
 cases (bC ops w.c.n).all (pr1 w tx) <;> rfl
theorem an3 (hm2:1048802<=m) : ∀ (post pre:List aS),w.c.log=pre++post->∀ n,post.length<n->∀ k0 k1,
  jo m n (.i 0) (.i pre.length) (.i w.c.n) (.i w.c.life) (.i w.c.next) (.l (rJ w.c.jobs)) (.l (rC w.c.log)) (.i w.c.sure) (.l (rS w.ay)) (.l (rW w.net)) (.l (rW w.outs)) (.l (rB w.begun)) k0 k1 =
   cond (post.all (pr w)) k1 (k0 (.b false))
 | [],pre,e,n,hn,k0,k1=>by
  obtain ⟨n,rfl⟩ : ∃ m',n=m'+1:=⟨n-1,by omega⟩
  simp only [jo,T.ak,T.ah,lC]
  rw [aJ (by rw [e]; simp)]
  rfl
 | x::post,pre,e,n,hn,k0,k1=>by
  obtain ⟨n,rfl⟩ : ∃ m',n=m'+1:=⟨n-1,by omega⟩
  simp only [List.length_cons] at hn
  have hlen:w.c.log.length=pre.length+(post.length+1):=by rw [e]; simp
  have hll:=hw.log
  have ih:=an3 hm2 post (pre++[x]) (by rw [e]; simp) n (by omega) k0 k1
  rw [aH] at ih
  have hbl:=hw.Gy
  have hx:(rC w.c.log).getD (Int.toNat (pre.length:Int)) []=x.r:=by rw [e]; exact ixC _ _ _
  have d1:decide ((0:Int)<=(pre.length:Int)/\(pre.length:Int)<(w.c.log.length:Int))=true:=decide_eq_true (by omega)
  simp only [jo,T.ak,T.ah,hx,bD pre (by omega),c0,cd1,T.aI,hz0,qD,lC,d1,cond_true]
  rw [aj (by omega),EJ (by omega) _ _ _ _ _ _ _ _ _ w.begun x.tx hbl,ih]
  simp only [T.ak,List.all_cons]
  unfold pr
  cases hy:x.yes with
  | false=>rfl
  | true =>
   rw [aC (by decide)]
   by_cases h:sD x.tx w.begun<0
   ·rw [decide_eq_true h]; rfl
   ·obtain ⟨j,hj,hjl⟩:=EL h
    have Ib:=hw.nR _ (EM hjl)
    have htx:(w.begun.getD j default).tx=x.tx:=by
     unfold sD at hj
     cases h2:qF x.tx w.begun with
     | none=>rw [h2] at hj; simp only [] at hj; omega
     | some i =>
      have:i=j:=by rw [h2] at hj; simp only [] at hj; omega
      subst this
      exact acU h2
    rw [decide_eq_false h,hj,aA (by decide),aj (by omega),show Int.toNat (j:Int)=j from rfl,P7 w.begun hjl,b0,b1',htx]
    simp only [T.ah]
    rw [aiR m (by omega) w hw _ Ib x.tx (by omega)]
    simp only [T.aI,Bool.not_true,Bool.false_or,Bool.not_false,Bool.true_and]
    cases (bC (w.begun.getD j default).ops w.c.n).all (pr1 w x.tx) <;> rfl
end
theorem aaG {m:Nat} (hm:2200000<=m) (w:aF) (hw:CW w) (K:T->An) :
  wK m (.i w.c.n) (.i w.c.life) (.i w.c.next) (.l (rJ w.c.jobs)) (.l (rC w.c.log)) (.i w.c.sure) (.l (rS w.ay)) (.l (rW w.net)) (.l (rW w.outs)) (.l (rB w.begun)) K=K (.b (rz w)):=by
 obtain ⟨m,rfl⟩ : ∃ m',m=m'+1:=⟨m-1,by omega⟩
 simp only [wK,T.ah]
 refine (an3 m (by omega) w hw (by omega) w.c.log [] rfl m (by have:=hw.log; omega) _ _).trans ?_
 unfold rz
 cases w.c.log.all (pr w) <;> rfl
def YR (w:aF):Int:=if uX w=false then 1 else if sF w.ay=false then 2 else if zx w=false then 3 else if GJ w=false then 4 else if rz w=false then 5 else 0
theorem ix5 {m:Nat} (hm:20<=m) (a b c d e:Bool) (K:T->An):mW m (.l [[.b a],[.b b],[.b c],[.b d],[.b e]]) (.b false) K=K (.i (if a=false then 0 else if b=false then 1 else if c=false then 2 else if d=false then 3 else if e=false then 4 else -1)):=by
 obtain ⟨m,rfl⟩ : ∃ q,m=q+8:=⟨m-8,by omega⟩
 cases a <;> cases b <;> cases c <;> cases d <;> cases e <;> rfl
theorem aiS {m:Nat} (hm:4000000<=m) (w:aF) (hw:CW w) (hl:(nsP w.ay).length<=aD) (K:T->An) :
  Kj m (.i w.c.n) (.i w.c.life) (.i w.c.next) (.l (rJ w.c.jobs)) (.l (rC w.c.log)) (.i w.c.sure) (.l (rS w.ay)) (.l (rW w.net)) (.l (rW w.outs)) (.l (rB w.begun)) K=K (.i (YR w)):=by
 obtain ⟨m,rfl⟩ : ∃ m',m=m'+1:=⟨m-1,by omega⟩
 simp only [Kj,T.ah]
 rw [YM (by omega) w hw,QX (by omega) _ _ _ _ _ _ _ _ _ w.ay hl,Wp (by omega) w hw,YP (by omega) w hw,OY (by omega) w hw,ix5 (by omega)]
 simp only [T.ak]
 congr 2
 unfold YR
 cases uX w <;> cases sF w.ay <;> cases zx w <;> cases GJ w <;> cases rz w <;> rfl
theorem aiT {m:Nat} (hm:4000001<=m) (w:aF) (hw:CW w) (K:T->An) :
  Kk m (.i w.c.n) (.i w.c.life) (.i w.c.next) (.l (rJ w.c.jobs)) (.l (rC w.c.log)) (.i w.c.sure) (.l (rS w.ay)) (.l (rW w.net)) (.l (rW w.outs)) (.l (rB w.begun)) K=K (.i (YR w)):=by
 obtain ⟨m,rfl⟩ : ∃ m',m=m'+1:=⟨m-1,by omega⟩
 simp only [Kk,T.ah]
 rw [agq (by omega) w hw,acO (by omega) _ _ _ _ _ _ _ _ _ w.ay hw.shl (fun s h=>(hw.sh s h).log),ad8 (by omega) w hw,agu (by omega) w hw,aaG (by omega) w hw]
 simp only [T.aI]
 unfold YR
 cases uX w <;> cases sF w.ay <;> cases zx w <;> cases GJ w <;> cases rz w <;> rfl
end Go.Proofs.YtjjonejgbdbnjaaGreat

namespace Go.Proofs.YtjjonejgbdbnjaaGreat
open Go Go.E Go.Proofs
theorem Sr {x:aS} : ∀ {pre post:List aS},(∀ y∈pre,y.tx≠x.tx)->pF x.tx (pre++x::post)=some pre.length
 | [],post,h=>by simp [pF]
 | y::pre,post,h=>by
  simp only [List.cons_append,pF]
  rw [if_neg (h y (by simp)),Sr fun z hz=>h z (by simp [hz])]
  rfl
theorem Wt {x:dn} : ∀ {pre post:List dn},(∀ y∈pre,y.tx≠x.tx)->qF x.tx (pre++x::post)=some pre.length
 | [],post,h=>by simp [qF]
 | y::pre,post,h=>by
  simp only [List.cons_append,qF]
  rw [if_neg (h y (by simp)),Wt fun z hz=>h z (by simp [hz])]
  rfl
theorem Kr {w:aF} (h:bZ w) {o:dn} (ho:o∈w.begun) : ∃ j:Nat,sD o.tx w.begun=j/\j<w.begun.length/\w.begun.getD j default=o:=by
 obtain ⟨pre,post,e⟩:=List.append_of_mem ho
 have hd:=h.aaB
 rw [e,List.pairwise_append] at hd
 have:qF o.tx w.begun=some pre.length:=by
  rw [e]
  exact Wt fun y hy=>by have:=hd.2.2 y hy o (by simp); omega
 refine ⟨pre.length,?_,by rw [e]; simp,by rw [e]; simp [List.getD]⟩
 unfold sD
 rw [this]
theorem acV {w:aF} (h:bZ w) : ∀ (post pre:List aS),w.c.log=pre++post->JO w.c.life w.c.next w.c.log pre.length post=true
 | [],pre,e=>rfl
 | x::post,pre,e=>by
  have ih:=acV h post (pre++[x]) (by rw [e]; simp)
  rw [show (pre++[x]).length=pre.length+1 by simp] at ih
  have hx:x∈w.c.log:=by rw [e]; simp
  obtain ⟨⟨o,ho,htx⟩,-⟩:=h.log x hx
  have hb:=h.nR o ho
  have hd:=h.XC
  rw [e,List.pairwise_append] at hd
  have hc:chI x.tx w.c.log=(pre.length:Int):=by
   unfold chI
   rw [show pF x.tx w.c.log=some pre.length by rw [e]; exact Sr fun y hy=>hd.2.2 y hy x (by simp)]
  unfold JO
  rw [ih,hc,decide_eq_true (show 1000<=x.tx/\x.tx<=w.c.life * 1000+w.c.next-1 by omega)]
  simp
theorem acW {sh:List Int} : ∀ {l:List Int} {p:Option Int},(∀ y∈l,y∈sh)->l.Pairwise (· < ·)->(∀ q,p=some q->∀ y∈l,q<y)->EA sh p l=true
 | [],_,_,_,_=>rfl
 | y::l,p,h1,h2,h3=>by
  rw [List.pairwise_cons] at h2
  unfold EA
  rw [decide_eq_true (h1 y (by simp)),acW (fun z hz=>h1 z (by simp [hz])) h2.2 (fun q e z hz=>by cases e; exact h2.1 z hz)]
  cases p with
  | none=>rfl
  | some q=>simp only [decide_eq_true (h3 q rfl y (by simp))]; rfl
theorem ad9 {log:List aS} (hd:log.Pairwise fun a b=>a.tx≠b.tx) {j:fB} (h:JSt log j):ru log j=true:=by
 have at_ : ∀ c∈log,c.tx=j.tx->pF j.tx log=some 0 \/ ∃ k,pF j.tx log=some k/\log.getD k default=c:=fun c hc e=>by
  obtain ⟨pre,post,e2⟩:=List.append_of_mem hc
  rw [e2,List.pairwise_append] at hd
  right
  refine ⟨pre.length,?_,by rw [e2]; simp [List.getD]⟩
  rw [e2,<-e]
  exact Sr fun y hy=>hd.2.2 y hy c (by simp)
 have at' : ∀ c∈log,c.tx=j.tx->∃ k,pF j.tx log=some k/\log.getD k default=c:=fun c hc e=>by
  obtain ⟨pre,post,e2⟩:=List.append_of_mem hc
  rw [e2,List.pairwise_append] at hd
  refine ⟨pre.length,?_,by rw [e2]; simp [List.getD]⟩
  rw [e2,<-e]
  exact Sr fun y hy=>hd.2.2 y hy c (by simp)
 unfold ru
 rcases h with ⟨h1,h2⟩ | ⟨h1,h2⟩ | ⟨h1,h2⟩
 ·have:pF j.tx log=none:=by
   clear at_ at' hd
   induction log with
   | nil=>rfl
   | cons c l ih=>unfold pF; rw [if_neg (h2 c (by simp)),ih fun d hd=>h2 d (by simp [hd])]; rfl
  rw [this]; simp [h1]
 ·obtain ⟨k,e1,e2⟩:=at' _ h2 rfl
  rw [e1]; simp only [e2,h1]; rfl
 ·obtain ⟨k,e1,e2⟩:=at' _ h2 rfl
  rw [e1]; simp only [e2,h1]; rfl
theorem YS {w:aF} (h:bZ w) : ∀ {l:List fB} {p:Option fB},(∀ j∈l,j∈w.c.jobs)->(l.Pairwise fun a b=>a.tx<b.tx)->(∀ q,p=some q->∀ j∈l,q.tx<j.tx)->DV w.c.n w.c.life w.c.next w.c.log p l=true
 | [],_,_,_,_=>rfl
 | j::l,p,h1,h2,h3=>by
  rw [List.pairwise_cons] at h2
  have hj:=h.jobs j (h1 j (by simp))
  obtain ⟨hok,-,-,hlt⟩:=h.nR _ hj.nR
  simp only at hok hlt
  unfold DV
  rw [YS h (fun z hz=>h1 z (by simp [hz])) h2.2 (fun q e z hz=>by cases e; exact h2.1 z hz)]
  have hp:JN p j=true:=by
   cases p with
   | none=>rfl
   | some q=>exact decide_eq_true (h3 q rfl j (by simp))
  have hjp:Xy w.c.n w.c.life w.c.next w.c.log j=true:=by
   unfold Xy ahS
   have:=hj.tx
   rw [decide_eq_true (show w.c.life * 1000<=j.tx/\j.tx<=w.c.life * 1000+w.c.next-1 by omega),hok,acW (fun y hy=>(hj.yes.2 y hy).1) hj.yes.1 (fun q e=>by cases e),ad9 h.XC hj.st]
   rfl
  rw [hp,hjp]; rfl
theorem bZ.an4 {w:aF} (h:bZ w):qC w.c.n w.c.life w.c.next w.c.jobs w.c.log w.c.sure=true:=by
 have e0:JO w.c.life w.c.next w.c.log 0 w.c.log=true:=acV h w.c.log [] rfl
 unfold qC
 rw [decide_eq_true h.n,decide_eq_true h.life,decide_eq_true h.next,decide_eq_true h.Ia,decide_eq_true h.sure,e0,YS h (fun j hj=>hj) h.ad1 (fun q e=>by cases e)]
 rfl
theorem QY {w:aF} (h:bZ w) : ∀ (post pre:List aK),w.ay=pre++post->qG pre.length post=true
 | [],pre,e=>rfl
 | s::post,pre,e=>by
  have ih:=QY h post (pre++[s]) (by rw [e]; simp)
  rw [show (pre++[s]).length=pre.length+1 by simp] at ih
  have hs:w.ay[pre.length]? = some s:=by rw [e]; simp
  obtain ⟨hid,hsi,-⟩:=h.sh _ _ hs
  obtain ⟨seen,e2,-,h3,-⟩:=hsi.inv
  have hl:pre.length<w.ay.length:=by rw [e]; simp
  have hn:=h.n
  have an5:=h.shl
  unfold qG
  have hok:qE s=true:=by
   unfold qE
   rw [decide_eq_true (show 0<=s.id/\s.id<=7 by rw [hid]; omega),decide_eq_true hsi.sure,decide_eq_true h3,e2]
   simp only [mapOf,yD,Option.isSome_some,Bool.true_and]
   rw [EG s.map fun x _=>acK x,EG s.held fun x _=>ad6 x]
   rfl
  rw [hok,ih,hid]
  simp
theorem acX : ∀ {a b c:List UInt8},Op.bytesLess a b=true->Op.bytesLess b c=true->Op.bytesLess a c=true
 | a,b,[],_,h2=>by simp [Op.bytesLess] at h2
 | [],b,c::z,_,_=>rfl
 | a::x,[],c::z,h1,_=>by simp [Op.bytesLess] at h1
 | a::x,b::y,c::z,h1,h2=>by
  simp only [Op.bytesLess,Bool.or_eq_true,Bool.and_eq_true,decide_eq_true_eq,beq_iff_eq] at h1 h2 ⊢
  rcases h1 with h1 | ⟨rfl,h1⟩ <;> rcases h2 with h2 | ⟨rfl,h2⟩
  ·exact .inl (UInt8.lt_trans h1 h2)
  ·exact .inl h1
  ·exact .inl h2
  ·exact .inr ⟨rfl,acX h1 h2⟩
theorem aea : ∀ {l:List eY} {p q:eY},blt p.key q.key=true->vv (some q) l=true->vv (some p) l=true
 | [],_,_,_,_=>rfl
 | x::l,p,q,h,h2=>by
  unfold vv at h2 ⊢
  simp only [Bool.and_eq_true] at h2 ⊢
  exact ⟨⟨h2.1.1,acX h h2.1.2⟩,h2.2⟩
theorem aeb {l:List eY} {p:eY} (h:vv (some p) l=true):vv none l=true:=by
 cases l with
 | nil=>rfl
 | cons x l =>
  unfold vv at h ⊢
  simp only [Bool.and_eq_true] at h ⊢
  exact ⟨⟨h.1.1,trivial⟩,h.2⟩
theorem GK (f:eY->Bool) : ∀ {l:List eY} {p:Option eY},vv p l=true->vv p (l.filter f)=true
 | [],_,_=>rfl
 | x::l,p,h=>by
  have h':=h
  unfold vv at h
  simp only [Bool.and_eq_true] at h
  cases hf:f x with
  | true =>
   rw [List.filter_cons_of_pos hf]
   unfold vv
   simp only [Bool.and_eq_true]
   exact ⟨h.1,GK f h.2⟩
  | false =>
   rw [List.filter_cons_of_neg (by rw [hf]; decide)]
   refine GK f ?_
   cases p with
   | none=>exact aeb h.2
   | some q=>exact aea h.1.2 h.2
theorem agw {ops:List eY} {n s:Int} (h:fC ops=true) (hs:s∈bC ops n):fC (mX ops s n)=true:=by
 unfold fC at h ⊢
 simp only [Bool.and_eq_true,decide_eq_true_eq] at h ⊢
 have hl:=Bb ops s n
 refine ⟨GK _ h.1,?_,by omega⟩
 unfold bC at hs
 rw [Ez] at hs
 rcases hs with hs | hs
 ·cases hs
 ·obtain ⟨o,ho,e⟩:=List.mem_map.1 hs
  have:o∈mX ops s n:=List.mem_filter.2 ⟨ho,by simpa using e⟩
  exact List.length_pos_of_mem this
theorem bZ.word {w:aF} (h:bZ w) {x:bG} (hx:NW w x):JY w.ay.length x=true:=by
 obtain ⟨hsh,o,ho,htx,hk⟩:=hx
 have hn:=h.n
 have hlf:=h.life
 have hnx:=h.next
 obtain ⟨hok,-,h1,h2⟩:=h.nR o ho
 have an5:=h.shl
 unfold JY zu
 rw [decide_eq_true (show 0<=x.bP/\x.bP<=7 by omega),decide_eq_true (show 1<=x.tx/\x.tx<=1000000 by omega),decide_eq_true (show x.bP<(w.ay.length:Int) by omega)]
 simp only [Bool.true_and,Bool.and_true]
 rcases hk with ⟨k1,k2,k3,k4⟩ | ⟨k0,⟨k1,-⟩ | ⟨k1,-,-⟩ | ⟨k1,k2⟩⟩
 ·rw [if_pos k1,k2,k4,agw hok k3]; rfl
 ·simp [k1,k0]
 ·simp [k1,k0]
 ·simp [k1,k0,k2]
theorem bZ.an6 {w:aF} (h:bZ w) {x:bG} (hx:OW w x):JY w.ay.length x=true:=by
 obtain ⟨hsh,⟨o,ho,htx⟩,k0,k1,-⟩:=hx
 have hn:=h.n
 have hlf:=h.life
 have hnx:=h.next
 obtain ⟨hok,-,h1,h2⟩:=h.nR o ho
 have an5:=h.shl
 unfold JY zu
 rw [decide_eq_true (show 0<=x.bP/\x.bP<=7 by omega),decide_eq_true (show 1<=x.tx/\x.tx<=1000000 by omega),decide_eq_true (show x.bP<(w.ay.length:Int) by omega)]
 simp [k1,k0]
theorem acY {w:aF} (h:bZ w) : ∀ (post pre:List dn),w.begun=pre++post->JZ w.c.life w.c.next w.begun pre.length post=true
 | [],pre,e=>rfl
 | o::post,pre,e=>by
  have ih:=acY h post (pre++[o]) (by rw [e]; simp)
  rw [show (pre++[o]).length=pre.length+1 by simp] at ih
  obtain ⟨hok,-,h1,h2⟩:=h.nR o (by rw [e]; simp)
  have hd:=h.aaB
  rw [e,List.pairwise_append] at hd
  have hi:sD o.tx w.begun=(pre.length:Int):=by
   unfold sD
   rw [show qF o.tx w.begun=some pre.length by rw [e]; exact Wt fun y hy=>by have:=hd.2.2 y hy o (by simp); omega]
  unfold JZ agm
  rw [ih,hok,hi,decide_eq_true (show 1000<=o.tx/\o.tx<=w.c.life * 1000+w.c.next-1 by omega)]
  simp
theorem bZ.GI {w:aF} (h:bZ w):GI w=true:=by
 unfold Go.Proofs.YtjjonejgbdbnjaaGreat.GI
 have e0:JZ w.c.life w.c.next w.begun 0 w.begun=true:=acY h w.begun [] rfl
 rw [e0,decide_eq_true h.Gy]
 have h1:w.c.log.all (Wm w.begun)=true:=List.all_eq_true.2 fun c hc=>by
  obtain ⟨⟨o,ho,htx⟩,-⟩:=h.log c hc
  obtain ⟨j,e,-,-⟩:=Kr h ho
  unfold Wm
  rw [<-htx,e,decide_eq_false (by omega)]; rfl
 have h2:w.c.jobs.all (Wn w.begun)=true:=List.all_eq_true.2 fun x hx=>by
  obtain ⟨j,e,-,e2⟩:=Kr h (h.jobs x hx).nR
  simp only at e
  unfold Wn
  rw [e,decide_eq_false (by omega),show Int.toNat (j:Int)=j from rfl,e2,EG x.ops fun o _=>P5 o]; rfl
 rw [h1,h2]; rfl
theorem bZ.world {w:aF} (h:bZ w):uX w=true:=by
 have e0:qG 0 w.ay=true:=QY h w.ay [] rfl
 unfold uX Bg
 rw [h.an4,e0,h.GI,decide_eq_true h.JU,decide_eq_true h.Kw,List.all_eq_true.2 fun x hx=>h.word (h.net x hx),List.all_eq_true.2 fun x hx=>h.an6 (h.outs x hx)]
 simp [h.shl]
theorem bZ.mem {w:aF} (h:bZ w) {s:aK} (hs:s∈w.ay) : ∃ k,ShI w k s/\w.ay[k]? = some s:=by
 obtain ⟨k,hk,rfl⟩:=List.getElem_of_mem hs
 have e:w.ay[k]? = some w.ay[k]:=List.getElem?_eq_getElem hk
 exact ⟨k,h.sh _ _ e,e⟩
theorem bZ.afe {w:aF} (h:bZ w):sF w.ay=true:=by
 unfold sF
 refine List.all_eq_true.2 fun s hs=>List.all_eq_true.2 fun r hr=>?_
 unfold acN
 by_cases hk:r.kind=2
 ·have hg:QW w.ay r.tx=false:=by
   unfold QW
   rw [List.any_eq_false]
   intro s' hs' h2
   rw [acP,List.any_eq_true] at h2
   obtain ⟨r',hr',h3⟩:=h2
   simp only [Bool.and_eq_true,beq_iff_eq] at h3
   obtain ⟨k,hS,-⟩:=h.mem hs
   obtain ⟨k',hS',-⟩:=h.mem hs'
   have c1:=List.mem_of_mem_take ((hS.2.2 r hr).2.1 hk)
   have c2:=(hS'.2.2 r' hr').2.2 h3.1
   rw [h3.2] at c2
   have hd:=h.XC
   rcases c2 with c2 | ⟨-,c2⟩
   ·have c2:=List.mem_of_mem_take c2
    have:(⟨r.tx,true⟩:aS)=⟨r.tx,false⟩:=by
     clear hS hS'
     generalize w.c.log=l at c1 c2 hd
     induction l with
     | nil=>cases c1
     | cons c l ih =>
      rw [List.pairwise_cons] at hd
      rcases List.mem_cons.1 c1 with e1 | c1 <;> rcases List.mem_cons.1 c2 with e2 | c2
      ·exact e1.trans e2.symm
      ·exact absurd (show c.tx=r.tx by rw [<-e1]) (hd.1 _ c2)
      ·exact absurd (show c.tx=r.tx by rw [<-e2]) (hd.1 _ c1)
      ·exact ih c1 c2 hd.2
    cases this
   ·exact c2 _ c1 rfl
  rw [hg]; simp
 ·simp [hk]
theorem acZ {sure tx:Int} : ∀ {l:List aS} {i:Nat},(⟨tx,true⟩:aS)∈l.take (sure-i).toNat->MG sure tx i l=true
 | [],i,h=>by simp at h
 | c::l,i,h=>by
  by_cases hi:(i:Int)<sure
  ·obtain ⟨q,hq⟩ : ∃ q,(sure-i).toNat=q+1:=⟨(sure-i).toNat-1,by omega⟩
   rw [hq,List.take_succ_cons] at h
   unfold MG
   rcases List.mem_cons.1 h with e | h
   ·rw [<-e,decide_eq_true hi]; simp
   ·rw [acZ (i:=i+1) (by rw [show (sure-((i+1:Nat):Int)).toNat=q by omega]; exact h),Bool.or_true]
  ·rw [show (sure-(i:Int)).toNat=0 by omega] at h; simp at h
theorem bZ.backed {w:aF} (h:bZ w):zx w=true:=by
 unfold zx
 refine List.all_eq_true.2 fun s hs=>List.all_eq_true.2 fun r hr=>?_
 unfold bk1
 by_cases hk:r.kind=2
 ·obtain ⟨k,hS,-⟩:=h.mem hs
  have:=(hS.2.2 r hr).2.1 hk
  unfold OX
  rw [acZ (by rw [Int.natCast_zero,Int.sub_zero]; exact this),Bool.or_true]
 ·simp [hk]
theorem bZ.whole {w:aF} (h:bZ w):GJ w=true:=by
 unfold GJ
 refine List.all_eq_true.2 fun s hs=>List.all_eq_true.2 fun r hr=>?_
 unfold wh1
 by_cases hk:r.kind=1
 ·obtain ⟨k,hS,-⟩:=h.mem hs
  obtain ⟨o,ho,htx,hops⟩:=(hS.2.2 r hr).1
  obtain ⟨j,e,-,e2⟩:=Kr h ho
  rw [<-htx,e,decide_eq_false (by omega),show Int.toNat (j:Int)=j from rfl,e2,hops hk,hS.1,EG _ fun o _=>P5 o]
  simp
 ·simp [hk]
theorem bZ.promised {w:aF} (h:bZ w):rz w=true:=by
 unfold rz
 refine List.all_eq_true.2 fun c hc=>?_
 unfold pr
 cases hy:c.yes with
 | false=>rfl
 | true =>
  obtain ⟨⟨o,ho,htx⟩,h2⟩:=h.log c hc
  obtain ⟨j,e,-,e2⟩:=Kr h ho
  rw [<-htx,e,decide_eq_false (by omega),show Int.toNat (j:Int)=j from rfl,e2]
  simp only [Bool.not_true,Bool.false_or,Bool.not_false,Bool.true_and]
  refine List.all_eq_true.2 fun s hs=>?_
  obtain ⟨sh,e3,r,hr,h4,h5⟩:=h2 hy o ho htx s hs
  have hlt:=(List.getElem?_eq_some_iff.1 e3).1
  have hnn:=P8 hs
  unfold pr1
  rw [decide_eq_true (by omega),show w.ay.getD s.toNat default=sh by rw [List.getD,e3]; rfl]
  have hsi:=(h.sh _ _ e3).2.1.sure
  unfold Wq
  rw [Bool.true_and,List.any_eq_true]
  refine ⟨r,?_,?_⟩
  ·have:Cy sh=sh.sure.toNat:=by
    have:=aiN sh
    unfold LK LJ at this
    split at this <;> split at this <;> omega
   rw [this]; exact hr
  ·unfold YQ
   rw [h4,htx]
   rcases h5 with h5 | h5 <;> simp [h5]
theorem bZ.safe {w:aF} (h:bZ w):YR w=0:=by
 unfold YR
 rw [h.world,h.afe,h.backed,h.whole,h.promised]
 rfl
end Go.Proofs.YtjjonejgbdbnjaaGreat

namespace Go.Proofs.YtjjonejgbdbnjaaGreat
open Go Go.E Go.Proofs
theorem bZ.cw {w:aF} (h:bZ w):CW w:=by
 have hb:=DW.of h
 have hbl:=h.Gy
 have hjl:=h.OM
 have hll:=h.Ia
 have hnl:=h.JU
 have hol:=h.Kw
 have hsl:=hb.shl
 refine ⟨⟨by omega,fun j hj=>⟨(hb.c.jobs j hj).1,by have:=(hb.c.jobs j hj).2.2; unfold akz; omega⟩⟩,by omega,by omega,fun s hs=>?_,by omega,fun x hx=>(hb.net x hx).1,by omega,fun x hx=>(hb.out x hx).1,by omega,fun o ho=>?_⟩
 ·obtain ⟨k,hS,-⟩:=h.mem hs
  obtain ⟨seen,-,hi,h1,h2⟩:=hS.2.1.inv
  exact ⟨by omega,by omega,by omega,fun r hr=>(afa (hi.ok r hr) (hS.2.1.ops r hr)).b⟩
 ·obtain ⟨h1,h2,-⟩:=h.nR o ho
  exact ⟨by have:=(EC h1).2; omega,fun p hp=>(h2 p hp).b⟩
theorem ajX {sh:List aK} {b:Nat} (h : ∀ s∈sh,s.log.length<=b):(nsP sh).length<=sh.length * b:=by
 induction sh with
 | nil=>simp [nsP]
 | cons s sh ih =>
  have:=ih fun x hx=>h x (by simp [hx])
  have h1:=h s (by simp)
  have e:nsP (s::sh)=(s.log.map fun r=>(r.kind,r.tx))++nsP sh:=by simp [nsP]
  rw [e,List.length_append,List.length_map,List.length_cons,Nat.add_mul,Nat.one_mul]
  omega
theorem bZ.nsl {w:aF} (h:bZ w):(nsP w.ay).length<=aD:=by
 have h1 : ∀ s∈w.ay,s.log.length<=300:=fun s hs=>by
  obtain ⟨k,hS,-⟩:=h.mem hs
  obtain ⟨seen,-,-,h1,-⟩:=hS.2.1.inv
  omega
 have h2:=ajX h1
 have hn:=h.n
 have hl:=h.shl
 have:w.ay.length * 300<=8 * 300:=Nat.mul_le_mul_right _ (by omega)
 unfold aD
 omega
theorem aiU {m:Nat} (hm:30000000<=m) (b:List (List T)) (K:T->An):Mq m (.l b) K=K (.b true):=by
 obtain ⟨m,rfl⟩ : ∃ m',m=m'+1:=⟨m-1,by omega⟩
 have hbig : ∀ K,NJ m (.l b) K=K (.b (decide ((b.length:Int) > 1048576))):=by
  intro K
  obtain ⟨q,rfl⟩ : ∃ q,m=q+1:=⟨m-1,by omega⟩
  simp only [NJ,T.ah]
 simp only [Mq,T.ah]
 rw [hbig]
 simp only [T.aI]
 by_cases hb:(b.length:Int) > 1048576
 ·rw [decide_eq_true hb]; rfl
 ·rw [decide_eq_false hb,cond_false]
  obtain ⟨w,h,hw⟩:=aaD (m:=m) (by omega) b (by omega)
  have hc:=h.cw
  rw [hw]
  unfold kW
  simp only [T.ah]
  rw [aiS (by omega) w hc h.nsl,aiT (by omega) w hc,QX (by omega) _ _ _ _ _ _ _ _ _ w.ay h.nsl,Wp (by omega) w hc,YP (by omega) w hc,OY (by omega) w hc,YM (by omega) w hc,h.safe,h.world,h.afe,h.backed,h.whole,h.promised]
  rfl
end Go.Proofs.YtjjonejgbdbnjaaGreat

