/- A part of the proof: texts XK1, XK2, XK3, XK4, XK5, XK6, XK7, XK8, XK9, XKA, XKB, XKC: see the last part's opening words. -/
import Derived.Test.YtpmbniddgaecpaaGreatA
set_option linter.unusedVariables false
set_option linter.unusedSimpArgs false
set_option linter.unnecessarySimpa false
namespace Go.Proofs.YtpmbniddgaecpaaGreat
open Go Go.E Go.Proofs
def pIx (k:ByteArray):List bI->Option Nat
 | []=>none
 | p::l=>if keq p.key k then some 0 else (pIx k l).map (· + 1)
theorem aea {k:ByteArray} : ∀ {l:List bI} {j:Nat},pIx k l=some j->j<l.length
 | [],j,h=>by cases h
 | p::l,j,h=>by
  unfold pIx at h
  split at h
  ·cases h; simp
  ·cases h2:pIx k l with
   | none=>rw [h2] at h; cases h
   | some i=>rw [h2] at h; cases h; have:=aea h2; simp; omega
theorem acR (k:ByteArray) : ∀ l:List bI,sJ k l=(match pIx k l with | some j=>((l.getD j default).val,true) | none=>(emp,false))
 | []=>rfl
 | p::l=>by
  unfold sJ pIx
  cases hk:keq p.key k with
  | true=>rfl
  | false =>
   simp only [Bool.false_eq_true,if_false]
   rw [acR k l]
   cases pIx k l <;> rfl
theorem afw (k v:ByteArray) : ∀ l:List bI,bE k v l=(pIx k l).map fun j=>l.set j ⟨(l.getD j default).key,v⟩
 | []=>rfl
 | p::l=>by
  unfold bE pIx
  cases hk:keq p.key k with
  | true=>rfl
  | false =>
   simp only [Bool.false_eq_true,if_false]
   rw [afw k v l]
   cases pIx k l <;> rfl
theorem acS (m:Nat) (hm:1<=m) (k:ByteArray) : ∀ (post pre:List bI),pre.length+post.length<=1048576->∀ n,post.length<n->∀ k0 k1,
  bD m n (.l (rP (pre++post))) (.l [[.s k]]) (.i ((pre++post).length:Nat)) (.i pre.length) k0 k1=(match pIx k post with | some j=>k0 (.i ((pre.length+j:Nat):Int)) | none=>k1)
 | [],pre,hs,n,hn,k0,k1=>by
  obtain ⟨n,rfl⟩ : ∃ m',n=m'+1:=⟨n-1,by omega⟩
  simp only [bD,T.ak,T.ah]
  rw [aH (by simp)]
  rfl
 | x::post,pre,hs,n,hn,k0,k1=>by
  obtain ⟨n,rfl⟩ : ∃ m',n=m'+1:=⟨n-1,by omega⟩
  obtain ⟨m,rfl⟩ : ∃ m',m=m'+1:=⟨m-1,by omega⟩
  simp only [List.length_cons] at hs hn
  have ih:=acS (m+1) hm k post (pre++[x]) (by simp; omega) n (by omega) k0 k1
  rw [aG,List.append_assoc,List.singleton_append] at ih
  have r1:bY (.l [[T.s k]])=[T.s k]:=rfl
  simp only [bD,Dw,T.ak,T.ah,ixP,bA pre (by omega),r1,List.getD_cons_zero,T.aT,p0,T.dR]
  rw [au (by simp; omega),au (by simp; omega)]
  unfold pIx
  cases h:keq x.key k with
  | true=>rw [aD (show (x.key.toList==k.toList)=true from h)]; rfl
  | false =>
   rw [aO (show (x.key.toList==k.toList)=false from h)]
   refine Eq.trans ih ?_
   simp only [Bool.false_eq_true,if_false]
   cases pIx k post with
   | none=>rfl
   | some j=>simp only [Option.map_some]; congr 3; simp; omega
def pI (k:ByteArray) (l:List bI):Int:=match pIx k l with | some j=>(j:Int) | none=>-1
theorem VW {m:Nat} (hm:1048600<=m) (l:List bI) (k:ByteArray) (hl:l.length<=1048576) (K:T->An):wN m (.l (rP l)) (.s k) K=K (.i (pI k l)):=by
 obtain ⟨m,rfl⟩ : ∃ m',m=m'+1:=⟨m-1,by omega⟩
 obtain ⟨m,rfl⟩ : ∃ m',m=m'+1:=⟨m-1,by omega⟩
 have r2:bY (.l [[T.s k]])=[T.s k]:=rfl
 simp only [wN,dV,r2,T.ah,xS]
 refine (acS m (by omega) k l [] (by simp; omega) m (by omega) _ _).trans ?_
 unfold pI
 cases pIx k l <;> simp
theorem aiA (l:List bI) {j:Nat} (h:j<l.length):(rP l).getD j []=(l.getD j default).r:=by simp [List.getD,h]
theorem aj5 {m:Nat} (hm:1048610<=m) (l:List bI) (k:ByteArray) (hl:l.length<=1048576) (K:T->T->An):BZ m (.l (rP l)) (.s k) K=K (.s (sJ k l).1) (.b (sJ k l).2):=by
 obtain ⟨m,rfl⟩ : ∃ m',m=m'+1:=⟨m-1,by omega⟩
 simp only [BZ,T.ah]
 rw [VW (by omega) l k hl,acR]
 unfold pI
 cases h:pIx k l with
 | none=>rfl
 | some j =>
  have hj:=aea h
  simp only [T.ak]
  rw [aH (by omega),au (by simp; omega),show Int.toNat (j:Int)=j from rfl,aiA l hj]
  rfl
theorem JV (m:Nat) (hm:1048620<=m) (mp:List bI) (hp:mp.length<=1048576) : ∀ (post pre:List iC),pre.length+post.length<=1048576->∀ n,post.length<n->∀ k0 k1,
  kE m n (.l (rP mp)) (.l (rO (pre++post))) (.i ((pre++post).length:Nat)) (.i pre.length) k0 k1=cond (rU mp post) k1 (k0 (.b false))
 | [],pre,hs,n,hn,k0,k1=>by
  obtain ⟨n,rfl⟩ : ∃ m',n=m'+1:=⟨n-1,by omega⟩
  simp only [kE,T.ak,T.ah]
  rw [aH (by simp)]
  rfl
 | x::post,pre,hs,n,hn,k0,k1=>by
  obtain ⟨n,rfl⟩ : ∃ m',n=m'+1:=⟨n-1,by omega⟩
  simp only [List.length_cons] at hs hn
  have ih:=JV m hm mp hp post (pre++[x]) (by simp; omega) n (by omega) k0 k1
  rw [aG,List.append_assoc,List.singleton_append] at ih
  simp only [kE,T.ak,T.ah,ixO,bA pre (by omega),o0,o1,o2,T.dR]
  rw [au (by simp <;> omega),au (by simp <;> omega)]
  have e:rU mp (x::post)=(acK mp x&&rU mp post):=rfl
  rw [e]
  unfold acK
  by_cases h3:x.kind=3
  ·rw [aO (by simp [h3]),aj5 (by omega) mp x.key hp]
   simp only [T.aT,T.dR,h3,bne_self_eq_false,Bool.false_or]
   rw [show (⟨#[]⟩:ByteArray)=emp from rfl]
   cases h1:((sJ x.key mp).2 == !(x.val.toList==emp.toList)) with
   | false=>rw [aO (by rfl)]; rfl
   | true =>
    rw [aD (by rfl)]
    cases h2:((sJ x.key mp).1.toList==x.val.toList) with
    | false=>rw [aD (by rfl)]; rfl
    | true=>rw [aO (by rfl)]; exact ih
  ·rw [aD (by simp [h3]),ih]
   have:(x.kind != 3)=true:=by simp [h3]
   rw [this]; rfl
theorem agu {m:Nat} (hm:1048630<=m) (mp:List bI) (l:List iC) (hp:mp.length<=1048576) (hl:l.length<=1048576) (K:T->An):Gc m (.l (rP mp)) (.l (rO l)) K=K (.b (rU mp l)):=by
 obtain ⟨m,rfl⟩ : ∃ m',m=m'+1:=⟨m-1,by omega⟩
 simp only [Gc,T.ah,nD]
 refine (JV m (by omega) mp hp l [] (by simp; omega) m (by omega) _ _).trans ?_
 cases rU mp l <;> rfl
theorem OQ (m:Nat) (k v:ByteArray) : ∀ (post pre:List bI),pre.length+post.length<=4611686018427387->∀ n,post.length<n->∀ k0,
  lu m n (.s k) (.s v) (.i pre.length) (.l (rP (pre++post))) k0=k0 (.s k) (.s v) (.i ((pre.length+Ew k post:Nat):Int)) (.l (rP (pre++post)))
 | [],pre,hs,n,hn,k0=>by
  obtain ⟨n,rfl⟩ : ∃ m',n=m'+1:=⟨n-1,by omega⟩
  simp only [lu,T.ak,T.ah,Ew]
  rw [aO (by simp)]
  rfl
 | x::post,pre,hs,n,hn,k0=>by
  obtain ⟨n,rfl⟩ : ∃ m',n=m'+1:=⟨n-1,by omega⟩
  simp only [List.length_cons] at hs hn
  have ih:=OQ m k v post (pre++[x]) (by simp; omega) n (by omega) k0
  rw [aG,List.append_assoc,List.singleton_append] at ih
  simp only [lu,T.ak,T.ah,ixP,bA pre (by omega),Ew,p0,T.dR]
  rw [aD (by simp <;> omega),au (by simp <;> omega),au (by simp <;> omega)]
  cases hk:kle x.key k with
  | true =>
   rw [aD (show (Op.bytesLess x.key.toList k.toList||(x.key.toList==k.toList))=true from hk)]
   refine ih.trans ?_
   have e:(pre++[x]).length+Ew k post=pre.length+(Ew k post+1):=by simp; omega
   rw [if_pos rfl,e]
  | false =>
   rw [aO (show (Op.bytesLess x.key.toList k.toList||(x.key.toList==k.toList))=false from hk)]
   rfl
theorem aj6 {m:Nat} (hm:1048610<=m) (l:List bI) (k v:ByteArray) (hl:l.length<=1048576) (K:T->An):Ca m (.l (rP l)) (.s k) (.s v) K=K (.l (rP (ad3 l k v))):=by
 obtain ⟨m,rfl⟩ : ∃ m',m=m'+1:=⟨m-1,by omega⟩
 simp only [Ca,T.ah]
 rw [VW (by omega) l k hl]
 unfold ad3
 rw [afw]
 unfold pI
 cases h:pIx k l with
 | none =>
  simp only [T.ak,Option.map_none]
  rw [aH (by omega)]
  refine (OQ m k v l [] (by simp; omega) m (by omega) _).trans ?_
  have hc:=SB k l
  obtain ⟨m,rfl⟩ : ∃ m',m=m'+1:=⟨m-1,by omega⟩
  simp only [fE,T.ah,T.ak,List.nil_append,List.length_nil,Nat.zero_add,show Int.toNat (Ew k l:Int)=Ew k l from rfl]
  rw [aD (by simp [aS]; omega)]
  simp [rP,List.map_take,List.map_drop,bI.r]
 | some j =>
  have hj:=aea h
  simp only [T.ak,Option.map_some]
  rw [au (by omega),au (by simp; omega),show Int.toNat (j:Int)=j from rfl,au (by simpa using hj),aiA l hj]
  congr 2
  simp [rP,List.map_set,bI.r]
theorem aj7 {m:Nat} (hm:1<=m) (l:List bI) (k:ByteArray) (hl:l.length<=1048576) (K:T->An):Bz m (.l (rP l)) (.s k) K=K (.l (rP (acM l k))):=by
 obtain ⟨m,rfl⟩ : ∃ m',m=m'+1:=⟨m-1,by omega⟩
 simp only [Bz,T.ah]
 rw [au (by rw [xS]; unfold aS; omega)]
 congr 2
 unfold Bv acM rP
 rw [List.filter_map]
 rfl
theorem JW (m:Nat) (hm:1048620<=m) : ∀ (post pre:List iC) (acc:List bI),pre.length+post.length<=1048576->acc.length+post.length<=1048576->∀ n,post.length<n->∀ k0,
  iw m n (.l (rO (pre++post))) (.i ((pre++post).length:Nat)) (.i pre.length) (.l (rP acc)) k0=k0 (.l (rP (AP acc post)))
 | [],pre,acc,hs,ha,n,hn,k0=>by
  obtain ⟨n,rfl⟩ : ∃ m',n=m'+1:=⟨n-1,by omega⟩
  simp only [iw,T.ak,T.ah]
  rw [aH (by simp)]
  rfl
 | x::post,pre,acc,hs,ha,n,hn,k0=>by
  obtain ⟨n,rfl⟩ : ∃ m',n=m'+1:=⟨n-1,by omega⟩
  simp only [List.length_cons] at hs hn ha
  have h1:=VO acc x
  have ih:=JW m hm post (pre++[x]) (app1 acc x) (by simp; omega) (by omega) n (by omega) k0
  rw [aG,List.append_assoc,List.singleton_append] at ih
  simp only [iw,T.ak,T.ah,ixO,bA pre (by omega),o0,o1,o2]
  rw [au (by simp <;> omega),au (by simp <;> omega),aj6 (by omega) acc x.key x.val (by omega),aj7 (by omega) acc x.key (by omega)]
  simp only [T.ah]
  show _=k0 (.l (rP (AP (app1 acc x) post)))
  rw [<-ih]
  unfold app1
  by_cases h1:x.kind=1
  ·rw [aD (by simp [h1]),if_pos h1]
  ·rw [aO (by simp [h1]),if_neg h1]
   by_cases h2:x.kind=2
   ·rw [aD (by simp [h2]),if_pos h2]
   ·rw [aO (by simp [h2]),if_neg h2]
theorem agv {m:Nat} (hm:1048630<=m) (mp:List bI) (l:List iC) (hs:mp.length+l.length<=1048576) (K:T->An):Gf m (.l (rP mp)) (.l (rO l)) K=K (.l (rP (AP mp l))):=by
 obtain ⟨m,rfl⟩ : ∃ m',m=m'+1:=⟨m-1,by omega⟩
 simp only [Gf,T.ah,nD]
 obtain ⟨q,rfl⟩ : ∃ q,m=q+1:=⟨m-1,by omega⟩
 rw [show ∀ k,dG (q+1) (.l (rP mp)) k=k (.l (rP mp)) from fun k=>by
  simp only [dG,T.ah]
  rw [au (by rw [xS]; unfold aS; omega)]]
 exact (JW (q+1) (by omega) l [] mp (by simp; omega) (by omega) (q+1) (by omega) _).trans rfl
end Go.Proofs.YtpmbniddgaecpaaGreat

namespace Go.Proofs.YtpmbniddgaecpaaGreat
open Go Go.E Go.Proofs
def AQ (tx:Int) (l:List bK):Nat->Option Nat
 | 0=>none
 | i+1=>if (l.getD i default).tx=tx then some i else AQ tx l i
theorem aiB (l:List bK) {j:Nat} (h:j<l.length):(rR l).getD j []=(l.getD j default).r:=by simp [List.getD,h]
theorem VX (m:Nat) (tx:Int) (l:List bK) (hl:l.length<=1048576) : ∀ (i n:Nat),i<=l.length->i<n->∀ k0 k1,
  mV m n (.l (rR l)) (.i tx) (.i ((i:Int)-1)) k0 k1=match AQ tx l i with | some j=>k0 (.i (j:Int)) | none=>k1
 | 0,n,hi,hn,k0,k1=>by
  obtain ⟨n,rfl⟩ : ∃ m',n=m'+1:=⟨n-1,by omega⟩
  simp only [mV,T.ak,T.ah,AQ]
  rw [aH (by omega)]
 | i+1,n,hi,hn,k0,k1=>by
  obtain ⟨n,rfl⟩ : ∃ m',n=m'+1:=⟨n-1,by omega⟩
  have ih:=VX m tx l hl i n (by omega) (by omega) k0 k1
  have e:(((i+1:Nat):Int)-1)=(i:Int):=by omega
  have hw:IntKind.i64.wrap ((i:Int)-1)=(i:Int)-1:=by rw [IntKind.wrap_i64]; omega
  rw [e]
  simp only [mV,T.ak,T.ah,AQ]
  rw [au (by omega),au (by simp; omega),show Int.toNat (i:Int)=i from rfl,aiB l (by omega),hw,rd1,ih]
  by_cases h:(l.getD i default).tx=tx
  ·rw [aD (by simpa using h),if_pos h]
  ·rw [aO (by simpa using h),if_neg h]
def aiC (tx:Int) (l:List bK):Int:=match AQ tx l l.length with | some j=>(j:Int) | none=>-1
theorem YI {m:Nat} (hm:1048590<=m) (l:List bK) (tx:Int) (hl:l.length<=1048576) (K:T->An):Ap m (.l (rR l)) (.i tx) K=K (.i (aiC tx l)):=by
 obtain ⟨m,rfl⟩ : ∃ m',m=m'+1:=⟨m-1,by omega⟩
 have hw:IntKind.i64.wrap ((l.length:Int)-1)=(l.length:Int)-1:=by rw [IntKind.wrap_i64]; omega
 simp only [Ap,T.ah,lV,hw]
 refine (VX m tx l hl l.length m (Nat.le_refl _) (by omega) _ _).trans ?_
 unfold aiC
 cases AQ tx l l.length <;> rfl
theorem Gx {tx:Int} {l:List bK} : ∀ {i j:Nat},AQ tx l i=some j->j<i/\(l.getD j default).tx=tx
 | 0,j,h=>by cases h
 | i+1,j,h=>by
  unfold AQ at h
  split at h
  ·cases h; exact ⟨Nat.lt_succ_self _,by assumption⟩
  ·have:=Gx h; exact ⟨by omega,this.2⟩
theorem VY {tx:Int} {l:List bK} : ∀ {i:Nat},AQ tx l i=none->∀ j,j<i->(l.getD j default).tx≠tx
 | 0,h,j,hj=>absurd hj (Nat.not_lt_zero _)
 | i+1,h,j,hj=>by
  unfold AQ at h
  split at h
  ·cases h
  ·rename_i hne
   by_cases e:j=i
   ·subst e; exact hne
   ·exact VY h j (by omega)
theorem Kq {l:List bK} {j:Nat} (h:j<l.length):l.getD j default∈l:=by simp [List.getD,h]
theorem acT {tx:Int} {l:List bK} : AQ tx l l.length=none ↔ ∀ r∈l,r.tx≠tx:=by
 constructor
 ·intro h r hr
  obtain ⟨j,hj,rfl⟩:=List.getElem_of_mem hr
  have:=VY h j hj
  simpa [List.getD,hj] using this
 ·intro h
  cases h2:AQ tx l l.length with
  | none=>rfl
  | some j =>
   obtain ⟨h3,h4⟩:=Gx h2
   exact absurd h4 (h _ (Kq h3))
theorem aj8 {tx:Int} {l:List bK} (hd:l.Pairwise fun a b=>a.tx≠b.tx):AQ tx l l.length=wS tx l:=by
 cases h2:AQ tx l l.length with
 | none=>exact (Qa.2 (acT.1 h2)).symm
 | some j =>
  obtain ⟨h3,h4⟩:=Gx h2
  cases h5:wS tx l with
  | none=>exact absurd h4 (Qa.1 h5 _ (Kq h3))
  | some i =>
   have h6:=Gw h5
   have h7:=P9 h5
   congr 1
   rw [List.pairwise_iff_getElem] at hd
   rcases Nat.lt_trichotomy i j with h | h | h
   ·exact absurd (by simpa [List.getD,h3,h6] using h7.trans h4.symm) (hd i j h6 h3 h)
   ·exact h.symm
   ·exact absurd (by simpa [List.getD,h3,h6] using h4.trans h7.symm) (hd j i h3 h6 h)
theorem VZ (a b:ByteArray):keq a b=keq b a:=by
 unfold keq
 rw [Bool.eq_iff_iff]
 simp only [beq_iff_eq]
 exact ⟨Eq.symm,Eq.symm⟩
theorem pz' (x:Nat):(T.i (((T.i (x:Int)).int.toNat:Nat):Int))=T.i (x:Int):=rfl
theorem aiD (m:Nat) (x2 x3 x4 x5 x6 x7 gy pU x0:T) (o:iC) : ∀ (post pre:List iC) (x1:Nat),pre.length+post.length<=1048576->∀ n,post.length<n->∀ k0 k1,
  gV m n x0 (.i (x1:Int)) x2 x3 x4 x5 x6 x7 (.l (rO (pre++post))) (.i ((pre++post).length:Nat)) (.i pre.length) gy (.s o.key) pU k0 k1=cond (OP post o) (k0 (.b true)) (k1 x0 x2 x3 x4 x5 x6 x7)
 | [],pre,x1,hs,n,hn,k0,k1=>by
  obtain ⟨n,rfl⟩ : ∃ m',n=m'+1:=⟨n-1,by omega⟩
  simp only [gV,T.ak,T.ah]
  rw [aH (by simp)]
  rfl
 | x::post,pre,x1,hs,n,hn,k0,k1=>by
  obtain ⟨n,rfl⟩ : ∃ m',n=m'+1:=⟨n-1,by omega⟩
  simp only [List.length_cons] at hs hn
  have ih:=aiD m x2 x3 x4 x5 x6 x7 gy pU x0 o post (pre++[x]) x1 (by simp; omega) n (by omega) k0 k1
  rw [aG,List.append_assoc,List.singleton_append] at ih
  have hx:(x1:Int).toNat=x1:=rfl
  simp only [gV,T.ak,T.ah,ixO,bA pre (by omega),o1,T.dR,hx]
  rw [au (by simp <;> omega),au (by simp <;> omega)]
  show _=cond (keq o.key x.key||OP post o) _ _
  rw [VZ]
  cases h:keq x.key o.key with
  | true=>rw [aD (show (x.key.toList==o.key.toList)=true from h)]; rfl
  | false=>rw [aO (show (x.key.toList==o.key.toList)=false from h),ih]; rfl
theorem aiE (m:Nat) (x1 x2 x3:T) (ops:List iC) (h3:ops.length<=1048576) : ∀ (oq op:List iC),op.length+oq.length<=1048576->∀ n,oq.length+ops.length+1<n->∀ k0 k1,
  gW m n (.l (rO ops)) x1 x2 x3 (.l (rO (op++oq))) (.i ((op++oq).length:Nat)) (.i op.length) k0 k1=cond (oq.any (OP ops)) (k0 (.b true)) (k1 (.l (rO ops)) x1 x2 x3)
 | [],op,hs,n,hn,k0,k1=>by
  obtain ⟨n,rfl⟩ : ∃ m',n=m'+1:=⟨n-1,by omega⟩
  simp only [gW,T.ak,T.ah]
  rw [aH (by simp)]
  rfl
 | o::oq,op,hs,n,hn,k0,k1=>by
  obtain ⟨n,rfl⟩ : ∃ m',n=m'+1:=⟨n-1,by omega⟩
  simp only [List.length_cons] at hn hs
  have ih:=aiE m x1 x2 x3 ops h3 oq (op++[o]) (by simp; omega) n (by omega) k0 k1
  rw [aG,List.append_assoc,List.singleton_append] at ih
  simp only [gW,T.ak,T.ah,ixO,o0,o1,o2,nD]
  rw [au (by simp <;> omega),au (by simp <;> omega)]
  have l2:=aiD m x1 x2 x3 (.l (rO (op++o::oq))) (.i ((op++o::oq).length:Nat)) (.i op.length) (.i o.kind) (.s o.val) (.l (rO ops)) o ops [] 0 (by simpa using h3) n (by omega) k0
  simp only [List.nil_append,List.length_nil,Int.natCast_zero] at l2
  refine (l2 _).trans ?_
  simp only [T.ak,bA op (by omega),List.any_cons]
  rw [ih]
  cases OP ops o <;> rfl
theorem aiF (m:Nat) (ops:List iC) (h3:ops.length<=1048576) : ∀ (hq hp:List bK),(∀ r∈hq,r.ops.length<=1048576)->hp.length+hq.length<=1048576->∀ n,hq.length+ops.length+1048580<n->∀ k0 k1,
  gX m n (.l (rO ops)) (.l (rR (hp++hq))) (.i ((hp++hq).length:Nat)) (.i hp.length) k0 k1=cond (o8 hq ops) (k0 (.b true)) k1
 | [],hp,ho,hs,n,hn,k0,k1=>by
  obtain ⟨n,rfl⟩ : ∃ m',n=m'+1:=⟨n-1,by omega⟩
  simp only [gX,T.ak,T.ah]
  rw [aH (by simp)]
  rfl
 | r::hq,hp,ho,hs,n,hn,k0,k1=>by
  obtain ⟨n,rfl⟩ : ∃ m',n=m'+1:=⟨n-1,by omega⟩
  simp only [List.length_cons] at hn hs
  have hr:=ho r (by simp)
  have ih:=aiF m ops h3 hq (hp++[r]) (fun q hq=>ho q (by simp [hq])) (by simp; omega) n (by omega) k0 k1
  rw [aG,List.append_assoc,List.singleton_append] at ih
  simp only [gX,T.ak,T.ah,ixR,r2,nD]
  rw [au (by simp <;> omega),au (by simp <;> omega)]
  have l1:=aiE m (.l (rR (hp++r::hq))) (.i ((hp++r::hq).length:Nat)) (.i hp.length) ops h3 r.ops [] (by simpa using hr) n (by omega) k0
  simp only [List.nil_append,List.length_nil,Int.natCast_zero] at l1
  refine (l1 _).trans ?_
  simp only [T.ak,bA hp (by omega)]
  show cond (VR ops r) _ _=cond (VR ops r||o8 hq ops) _ _
  rw [ih]
  cases VR ops r <;> rfl
theorem acU {m:Nat} (hm:3200000<=m) (held:List bK) (ops:List iC) (h1:held.length<=1048576) (h2 : ∀ r∈held,r.ops.length<=1048576) (h3:ops.length<=1048576) (K:T->An) :
  uh m (.l (rR held)) (.l (rO ops)) K=K (.b (o8 held ops)):=by
 obtain ⟨m,rfl⟩ : ∃ m',m=m'+1:=⟨m-1,by omega⟩
 simp only [uh,T.ah,lV]
 refine (aiF m ops h3 held [] h2 (by simpa using h1) m (by omega) _ _).trans ?_
 cases o8 held ops <;> rfl
theorem agw {m:Nat} (hm:1048620<=m) (r:bK) (h:OO r) (K:T->An):F9 m (.i r.kind) (.i r.tx) (.l (rO r.ops)) K=K (.b (p8 r)):=by
 obtain ⟨m,rfl⟩ : ∃ m',m=m'+1:=⟨m-1,by omega⟩
 have e0:(((rO r.ops).length:Int)==0)=(r.ops.length==0):=by rw [nD]; cases r.ops <;> simp <;> omega
 have aiG : ∀ k,qC m (.i r.tx) k=k (.b (decide (1<=r.tx/\r.tx<=1000000))):=fun k=>by
  obtain ⟨q,rfl⟩ : ∃ q,m=q+1:=⟨m-1,by omega⟩
  simp only [qC]
  exact gK (by omega) _ _ _ _
 simp only [F9,T.ah,T.ak,aiG,T.aT,e0]
 unfold p8
 by_cases k1:r.kind=1
 ·rw [aD (by simp [k1]),if_pos k1,Gv (by omega) r.ops h.ops]
  cases decide (1<=r.tx/\r.tx<=1000000) <;> rfl
 ·rw [aO (by simp [k1]),if_neg k1]
  by_cases k2:r.kind=2
  ·rw [aD (by simp [k2]),if_pos (.inl k2)]
   cases decide (1<=r.tx/\r.tx<=1000000) <;> rfl
  ·rw [aO (by simp [k2])]
   by_cases k3:r.kind=3
   ·rw [aD (by simp [k3]),if_pos (.inr k3)]
    cases decide (1<=r.tx/\r.tx<=1000000) <;> rfl
   ·rw [aO (by simp [k3]),if_neg (by simp [k2,k3])]
    cases decide (1<=r.tx/\r.tx<=1000000) <;> rfl
end Go.Proofs.YtpmbniddgaecpaaGreat

namespace Go.Proofs.YtpmbniddgaecpaaGreat
open Go Go.E Go.Proofs
theorem aiH {m:Nat} (hm:1<=m) (l:List iC) (h:l.length<=1048576) (K:T->An):eD m (.l (rO l)) K=K (.l (rO l)):=by
 obtain ⟨m,rfl⟩ : ∃ m',m=m'+1:=⟨m-1,by omega⟩
 simp only [eD,T.ah]
 rw [au (by rw [nD]; unfold aS; omega)]
theorem aiI {m:Nat} (hm:1<=m) (l:List bK) (j:Nat) (hj:j<l.length) (K:T->An):bU m (.l (rR l)) (.i j) (.i ((j:Int)+1)) K=K (.l (rR (l.take j++l.drop (j+1)))):=by
 obtain ⟨m,rfl⟩ : ∃ m',m=m'+1:=⟨m-1,by omega⟩
 simp only [bU,T.ah,T.ak,lV]
 rw [au (by omega),show Int.toNat (j:Int)=j from rfl,show Int.toNat ((j:Int)+1)=j+1 from rfl]
 simp [rR,List.map_take,List.map_drop]
theorem aiJ {pre:List bK} {s:St} (hI:RInv pre s) (tx:Int):decide (aiC tx pre>=0)=decide (tx∈s.seen):=by
 apply decide_eq_decide.2
 rw [hI.seen]
 unfold aiC
 cases h:AQ tx pre pre.length with
 | none =>
  have:=acT.1 h
  constructor
  ·intro h; simp at h
  ·rintro ⟨r,h1,h2⟩; exact absurd h2 (this r h1)
 | some j =>
  obtain ⟨h3,h4⟩:=Gx h
  exact ⟨fun _=>⟨_,Kq h3,h4⟩,fun _=>by simp⟩
theorem aj9 {m:Nat} (hm:3200010<=m) {pre:List bK} {s:St} (hI:RInv pre s) (hs:BSt s) (hp:pre.length<=1048576) {r:bK} (hr:OO r) (hok:p8 r=true) (J:Bool->List (List T)->List (List T)->An) (k0:T->T->T->An) (k1:T->T->T->T->An)
  (h0 : ∀ b p q,k0 (.b b) (.l p) (.l q)=J b p q) (h1 : ∀ b z p q,k1 (.b b) z (.l p) (.l q)=J b p q) :
  qY m (.l (rP s.map)) (.l (rR s.held)) (.i r.kind) (.i r.tx) (.l (rO r.ops)) (.l (rR pre)) k0 k1=J (uJ s r).1 (rP (uJ s r).2.map) (rR (uJ s r).2.held):=by
 obtain ⟨m,rfl⟩ : ∃ m',m=m'+1:=⟨m-1,by omega⟩
 have hm1:=hs.map
 have hh1:=hs.held.1
 have hw : ∀ j:Nat,j<=400000->IntKind.i64.wrap ((j:Int)+1)=(j:Int)+1:=fun j hj=>by rw [IntKind.wrap_i64]; omega
 simp only [qY,T.ah,T.ak]
 rw [YI (by omega) pre r.tx hp]
 simp only [T.ak,aiJ hI]
 unfold uJ
 rw [if_neg (by rw [hok]; decide)]
 by_cases k1':r.kind=1
 ·rw [aD (by simp [k1']),if_pos k1',acU (by omega) s.held r.ops (by omega) (fun q hq=>by have:=(hs.held.2 q hq).1; omega) (by have:=hr.1; omega),agu (by omega) s.map r.ops (by omega) (by have:=hr.1; omega),aiH (by omega) r.ops (by have:=hr.1; omega)]
  simp only [T.aT,T.ah]
  rw [au (by rw [lV]; unfold aS; omega)]
  have e:(rR s.held++[[T.i 1,T.i r.tx,T.l (rO r.ops)]])=rR (s.held++[r]):=by simp [rR,bK.r,k1']
  rw [e]
  cases decide (r.tx∈s.seen) with
  | true=>simp only [Bool.true_or,if_true]; rw [aO (by decide),h0]
  | false =>
   rw [aD (by decide)]
   cases o8 s.held r.ops with
   | true=>simp only [Bool.or_true,Bool.true_or,if_true]; rw [aO (by decide),h0]
   | false =>
    rw [aD (by decide)]
    cases rU s.map r.ops with
    | false=>rw [aD (by decide),h0]; rfl
    | true=>rw [aO (by decide),h0]; rfl
 ·rw [aO (by simp [k1']),if_neg k1',YI (by omega) s.held r.tx (by omega)]
  unfold aiC
  rw [aj8 hI.dist]
  cases hf:wS r.tx s.held with
  | none =>
   simp only [T.ak]
   rw [au (by omega)]
   by_cases k3:r.kind=3
   ·rw [aD (by simp [k3]),h0]; simp [k3]
   ·rw [aO (by simp [k3]),h0]; rw [show (r.kind==3)=false by simp [k3]]; rfl
  | some j =>
   have hj:=Gw hf
   have hops:(s.held.getD j default).ops.length<=400000:=(hs.held.2 _ (Kq hj)).1
   simp only [T.ak,hw j (by omega),lV]
   rw [aH (by omega),aiI (by omega) s.held j hj,show Int.toNat (j:Int)=j from rfl,aiB s.held hj]
   simp only [r2,T.ah]
   rw [agv (by omega) s.map (s.held.getD j default).ops (by omega)]
   simp only [T.ah,aiI (by omega:1<=m) s.held j hj]
   by_cases k2:r.kind=2
   ·rw [aD (by simp [k2]),au (by omega),au hj,h1,if_pos k2,xS,aj2]
   ·rw [aO (by simp [k2]),h0,if_neg k2,xS,aj2]
theorem Ho (m:Nat) (hm:3200010<=m) : ∀ (post pre:List bK) (k:Nat) (s:St),RInv pre s->GSt k s->k+post.length<=20000->(∀ r∈post,OO r)->pre.length+post.length<=1048576->∀ n,post.length<n->∀ k0 k1,
  eP m n (.l (rR (pre++post))) (.i 0) (.l (rR (pre++post))) (.i ((pre++post).length:Nat)) (.i pre.length) (.l (rP s.map)) (.l (rR s.held)) k0 k1=match fK s post with
   | none=>k0 (.b false) (.l []) (.l [])
   | some s'=>k1 (.i 0) (.l (rP s'.map)) (.l (rR s'.held))
 | [],pre,k,s,hI,hg,hk,hr,hs,n,hn,k0,k1=>by
  obtain ⟨n,rfl⟩ : ∃ m',n=m'+1:=⟨n-1,by omega⟩
  simp only [eP,T.ak,T.ah,fK]
  rw [aH (by simp)]
  rfl
 | x::post,pre,k,s,hI,hg,hk,hr,hs,n,hn,k0,k1=>by
  obtain ⟨n,rfl⟩ : ∃ m',n=m'+1:=⟨n-1,by omega⟩
  simp only [List.length_cons] at hs hn hk
  have hx:=hr x (by simp)
  simp only [eP,T.ak,T.ah,ixR,bA pre (by omega),r0,r1,r2,lV]
  rw [au (by simp <;> omega),au (by simp <;> omega),agw (by omega) x hx]
  simp only [T.aT]
  have htk:(rR (pre++x::post)).take (Int.toNat (pre.length:Int))=rR pre:=by
   rw [show Int.toNat (pre.length:Int)=pre.length from rfl]
   simp [rR]
  unfold fK
  cases hok:p8 x with
  | false =>
   have:(uJ s x).1=false:=by unfold uJ; rw [if_pos hok]
   rw [this,aO (by decide)]; rfl
  | true =>
   rw [aD (by decide),au (by simp <;> omega),au (by omega),htk]
   refine (aj9 (by omega) hI (hg.b (by omega)) (by omega) hx hok (fun b p q=>cond (!b) (k0 (.b false) (.l []) (.l [])) (eP m n (.l (rR (pre++x::post))) (T.i (((0:Int).toNat:Nat):Int)) (.l (rR (pre++x::post))) (.i ((pre++x::post).length:Nat)) (T.i ((pre.length:Int)+1)) (T.l p) (T.l q) k0 k1)) _ _ (fun b p q=>rfl) (fun b z p q=>rfl)).trans ?_
   cases h:(uJ s x).1 with
   | false=>rfl
   | true =>
    have hI':=hI.step hok (YH h).2
    have ih:=Ho m hm post (pre++[x]) (k+1) (uJ s x).2 hI' (aix hg hx.2) (by omega) (fun r h=>hr r (by simp [h])) (by simp; omega) n (by omega) k0 k1
    rw [aG,List.append_assoc,List.singleton_append] at ih
    exact ih
theorem anU:RInv [] st0:=⟨fun x=>by simp [st0],fun h hh=>(nomatch hh),fun r hr=>(nomatch hr),fun r hr=>(nomatch hr),List.Pairwise.nil⟩
theorem aeb {m:Nat} (hm:3200020<=m) (l:List bK) (hl:l.length<=10000) (hr : ∀ r∈l,OO r) (K:T->T->T->An) :
  qZ m (.l (rR l)) K=K (.l (rP (mapOf (fO l)))) (.l (rR (DU (fO l)))) (.b (fO l).isSome):=by
 obtain ⟨m,rfl⟩ : ∃ m',m=m'+1:=⟨m-1,by omega⟩
 simp only [qZ,T.ah,lV]
 refine (Ho m (by omega) l [] 0 st0 anU ⟨by simp [st0],by simp [st0],by simp [st0],by simp [st0]⟩ (by omega) hr (by simp; omega) m (by omega) _ _).trans ?_
 unfold fO
 cases fK st0 l <;> rfl
end Go.Proofs.YtpmbniddgaecpaaGreat

namespace Go.Proofs.YtpmbniddgaecpaaGreat
open Go Go.E Go.Proofs
def AR {α:Type} (f:α->α->Bool):List α->List α->Bool
 | [],[]=>true
 | x::a,y::b=>f x y&&AR f a b
 | _,_=>false
def oC (p q:bI):Bool:=keq p.key q.key&&(keq p.val q.val&&true)
def vJ (o q:iC):Bool:=(o.kind==q.kind)&&(keq o.key q.key&&(keq o.val q.val&&true))
def uF (r q:bK):Bool:=(r.kind==q.kind)&&((r.tx==q.tx)&&AR vJ r.ops q.ops)
theorem aaO {α:Type} {f:α->α->Bool} : ∀ {a b:List α},AR f a b=true->a.length=b.length
 | [],[],_=>rfl
 | x::a,y::b,h=>by
  unfold AR at h
  simp only [Bool.and_eq_true] at h
  simp [aaO h.2]
 | [],_::_,h=>by cases h
 | _::_,[],h=>by cases h
theorem acV {α:Type} {f:α->α->Bool} : ∀ (a:List α),(∀ x∈a,f x x=true)->AR f a a=true
 | [],_=>rfl
 | x::a,h=>by
  unfold AR
  rw [h x (by simp),acV a fun y hy=>h y (by simp [hy])]
  rfl
theorem acW (a:ByteArray):keq a a=true:=by unfold keq; simp
theorem agx (o:iC):vJ o o=true:=by unfold vJ; simp [acW]
theorem akW (o:bI):oC o o=true:=by unfold oC; simp [acW]
theorem amd (r:bK):uF r r=true:=by unfold uF; simp [acV r.ops fun o _=>agx o]
theorem anV (pre pre':List bI) (x:bI) (post:List bI) (h:pre.length=pre'.length):(rP (pre'++x::post)).getD (Int.toNat (pre.length:Int)) []=x.r:=by rw [h]; exact ixP _ _ _
theorem anW (pre pre':List iC) (x:iC) (post:List iC) (h:pre.length=pre'.length):(rO (pre'++x::post)).getD (Int.toNat (pre.length:Int)) []=x.r:=by rw [h]; exact ixO _ _ _
theorem anX (pre pre':List bK) (x:bK) (post:List bK) (h:pre.length=pre'.length):(rR (pre'++x::post)).getD (Int.toNat (pre.length:Int)) []=x.r:=by rw [h]; exact ixR _ _ _
theorem MI {α β:Type} {a:List α} {b:List β} (h:a.length≠b.length):((a.length:Int) != (b.length:Int))=true:=by simp; omega
theorem Qb {α β:Type} {a:List α} {b:List β} (h:a.length=b.length):((a.length:Int) != (b.length:Int))=false:=by simp [h]
theorem YJ (m:Nat) : ∀ (post post' pre pre':List bI),pre.length=pre'.length->post.length=post'.length->pre.length+post.length<=1048576->∀ n,post.length<n->∀ k0 k1,
  bH m n (.l (rP (pre++post))) (.l (rP (pre'++post'))) (.i ((pre++post).length:Nat)) (.i pre.length) k0 k1=cond (AR oC post post') k1 (k0 (.b false))
 | [],[],pre,pre',h1,h2,hs,n,hn,k0,k1=>by
  obtain ⟨n,rfl⟩ : ∃ m',n=m'+1:=⟨n-1,by omega⟩
  simp only [bH,T.ak,T.ah]
  rw [aH (by simp)]
  rfl
 | x::post,y::post',pre,pre',h1,h2,hs,n,hn,k0,k1=>by
  obtain ⟨n,rfl⟩ : ∃ m',n=m'+1:=⟨n-1,by omega⟩
  simp only [List.length_cons] at hs hn h2
  have ih:=YJ m post post' (pre++[x]) (pre'++[y]) (by simp [h1]) (by omega) (by simp; omega) n (by omega) k0 k1
  rw [aG,List.append_assoc,List.singleton_append,List.append_assoc,List.singleton_append] at ih
  simp only [bH,T.ak,T.ah,ixP,anV pre pre' y post' h1,bA pre (by omega),p0,p1,T.dR]
  rw [au (by simp <;> omega),au (by simp <;> omega),au (by simp <;> omega),ih]
  show cond (!(oC x y)) _ _=cond (oC x y&&AR oC post post') _ _
  cases oC x y <;> rfl
 | [],_::_,_,_,_,h2,_,_,_,_,_=>by simp at h2
 | _::_,[],_,_,_,h2,_,_,_,_,_=>by simp at h2
theorem MJ {α:Type} {f:α->α->Bool} {a b:List α} (h:a.length≠b.length):AR f a b=false:=by
 cases h2:AR f a b with
 | false=>rfl
 | true=>exact absurd (aaO h2) h
theorem apT {m:Nat} (hm:1048590<=m) (a b:List bI) (ha:a.length<=1048576) (K:T->An):dH m (.l (rP a)) (.l (rP b)) K=K (.b (AR oC a b)):=by
 obtain ⟨m,rfl⟩ : ∃ m',m=m'+1:=⟨m-1,by omega⟩
 simp only [dH,T.ah,xS]
 by_cases h:a.length=b.length
 ·rw [aO (Qb h)]
  refine (YJ m a b [] [] rfl h (by simpa using ha) m (by omega) _ _).trans ?_
  cases AR oC a b <;> rfl
 ·rw [aD (MI h),MJ h]
theorem YK (m:Nat) : ∀ (post post' pre pre':List iC),pre.length=pre'.length->post.length=post'.length->pre.length+post.length<=1048576->∀ n,post.length<n->∀ k0 k1,
  bN m n (.l (rO (pre++post))) (.l (rO (pre'++post'))) (.i ((pre++post).length:Nat)) (.i pre.length) k0 k1=cond (AR vJ post post') k1 (k0 (.b false))
 | [],[],pre,pre',h1,h2,hs,n,hn,k0,k1=>by
  obtain ⟨n,rfl⟩ : ∃ m',n=m'+1:=⟨n-1,by omega⟩
  simp only [bN,T.ak,T.ah]
  rw [aH (by simp)]
  rfl
 | x::post,y::post',pre,pre',h1,h2,hs,n,hn,k0,k1=>by
  obtain ⟨n,rfl⟩ : ∃ m',n=m'+1:=⟨n-1,by omega⟩
  simp only [List.length_cons] at hs hn h2
  have ih:=YK m post post' (pre++[x]) (pre'++[y]) (by simp [h1]) (by omega) (by simp; omega) n (by omega) k0 k1
  rw [aG,List.append_assoc,List.singleton_append,List.append_assoc,List.singleton_append] at ih
  simp only [bN,T.ak,T.ah,ixO,anW pre pre' y post' h1,bA pre (by omega),o0,o1,o2,T.dR]
  rw [au (by simp <;> omega),au (by simp <;> omega),au (by simp <;> omega),ih]
  show cond (!(vJ x y)) _ _=cond (vJ x y&&AR vJ post post') _ _
  cases vJ x y <;> rfl
 | [],_::_,_,_,_,h2,_,_,_,_,_=>by simp at h2
 | _::_,[],_,_,_,h2,_,_,_,_,_=>by simp at h2
theorem ame {m:Nat} (hm:1048590<=m) (a b:List iC) (ha:a.length<=1048576) (K:T->An):bR m (.l (rO a)) (.l (rO b)) K=K (.b (AR vJ a b)):=by
 obtain ⟨m,rfl⟩ : ∃ m',m=m'+1:=⟨m-1,by omega⟩
 simp only [bR,T.ah,nD]
 by_cases h:a.length=b.length
 ·rw [aO (Qb h)]
  refine (YK m a b [] [] rfl h (by simpa using ha) m (by omega) _ _).trans ?_
  cases AR vJ a b <;> rfl
 ·rw [aD (MI h),MJ h]
theorem acX {m:Nat} (hm:1048600<=m) (r q:bK) (h:r.ops.length<=1048576) (K:T->An):yP m (.i r.kind) (.i r.tx) (.l (rO r.ops)) (.i q.kind) (.i q.tx) (.l (rO q.ops)) K=K (.b (uF r q)):=by
 obtain ⟨m,rfl⟩ : ∃ m',m=m'+1:=⟨m-1,by omega⟩
 simp only [yP,T.ah,T.ak]
 rw [ame (by omega) r.ops q.ops h]
 simp only [T.aT]
 unfold uF
 cases h1:r.kind==q.kind with
 | false=>rfl
 | true =>
  cases h2:r.tx==q.tx with
  | false=>rfl
  | true=>rfl
theorem YL (m:Nat) (hm:1048600<=m) : ∀ (post post' pre pre':List bK),pre.length=pre'.length->post.length=post'.length->pre.length+post.length<=1048576->(∀ r∈post,r.ops.length<=1048576)->∀ n,post.length<n->∀ k0 k1,
  aL m n (.l (rR (pre'++post'))) (.l (rR (pre++post))) (.i ((pre++post).length:Nat)) (.i pre.length) k0 k1=cond (AR uF post post') k1 (k0 (.b false))
 | [],[],pre,pre',h1,h2,hs,ho,n,hn,k0,k1=>by
  obtain ⟨n,rfl⟩ : ∃ m',n=m'+1:=⟨n-1,by omega⟩
  simp only [aL,T.ak,T.ah]
  rw [aH (by simp)]
  rfl
 | x::post,y::post',pre,pre',h1,h2,hs,ho,n,hn,k0,k1=>by
  obtain ⟨n,rfl⟩ : ∃ m',n=m'+1:=⟨n-1,by omega⟩
  simp only [List.length_cons] at hs hn h2
  have ih:=YL m hm post post' (pre++[x]) (pre'++[y]) (by simp [h1]) (by omega) (by simp; omega) (fun r hr=>ho r (by simp [hr])) n (by omega) k0 k1
  rw [aG,List.append_assoc,List.singleton_append,List.append_assoc,List.singleton_append] at ih
  simp only [aL,T.ak,T.ah,ixR,anX pre pre' y post' h1,bA pre (by omega),r0,r1,r2]
  rw [au (by simp <;> omega),au (by simp <;> omega),au (by simp <;> omega),acX hm x y (ho x (by simp)),ih]
  simp only [T.aT]
  show cond (!(uF x y)) _ _=cond (uF x y&&AR uF post post') _ _
  cases uF x y <;> rfl
 | [],_::_,_,_,_,h2,_,_,_,_,_,_=>by simp at h2
 | _::_,[],_,_,_,h2,_,_,_,_,_,_=>by simp at h2
theorem apU {m:Nat} (hm:1048610<=m) (a b:List bK) (ha:a.length<=1048576) (ho : ∀ r∈a,r.ops.length<=1048576) (K:T->An):bG m (.l (rR a)) (.l (rR b)) K=K (.b (AR uF a b)):=by
 obtain ⟨m,rfl⟩ : ∃ m',m=m'+1:=⟨m-1,by omega⟩
 simp only [bG,T.ah,lV]
 by_cases h:a.length=b.length
 ·rw [aO (Qb h)]
  refine (YL m (by omega) a b [] [] rfl h (by simpa using ha) ho m (by omega) _ _).trans ?_
  cases AR uF a b <;> rfl
 ·rw [aD (MI h),MJ h]
theorem YM (m:Nat) : ∀ (post post' pre pre':List bI),pre.length=pre'.length->post.length=post'.length->pre.length+post.length<=1048576->∀ n,post.length<n->∀ k0 k1,
  fI m n (.l (rP (pre++post))) (.l (rP (pre'++post'))) (.i pre.length) k0 k1=cond (AR oC post post') k1 (k0 (.b false))
 | [],[],pre,pre',h1,h2,hs,n,hn,k0,k1=>by
  obtain ⟨n,rfl⟩ : ∃ m',n=m'+1:=⟨n-1,by omega⟩
  simp only [fI,T.ak,T.ah]
  rw [aH (by simp)]
  rfl
 | x::post,y::post',pre,pre',h1,h2,hs,n,hn,k0,k1=>by
  obtain ⟨n,rfl⟩ : ∃ m',n=m'+1:=⟨n-1,by omega⟩
  simp only [List.length_cons] at hs hn h2
  have ih:=YM m post post' (pre++[x]) (pre'++[y]) (by simp [h1]) (by omega) (by simp; omega) n (by omega) k0 k1
  rw [aG,List.append_assoc,List.singleton_append,List.append_assoc,List.singleton_append] at ih
  simp only [fI,T.ak,T.ah,ixP,anV pre pre' y post' h1,bA pre (by omega),p0,p1,T.dR]
  rw [au (by simp <;> omega),au (by simp <;> omega),au (by simp <;> omega),ih]
  show cond (!(oC x y)) _ _=cond (oC x y&&AR oC post post') _ _
  cases oC x y <;> rfl
 | [],_::_,_,_,_,h2,_,_,_,_,_=>by simp at h2
 | _::_,[],_,_,_,h2,_,_,_,_,_=>by simp at h2
theorem apV {m:Nat} (hm:1048590<=m) (a b:List bI) (ha:a.length<=1048576) (K:T->An):qz m (.l (rP a)) (.l (rP b)) K=K (.b (AR oC a b)):=by
 obtain ⟨m,rfl⟩ : ∃ m',m=m'+1:=⟨m-1,by omega⟩
 simp only [qz,T.ah,xS]
 by_cases h:a.length=b.length
 ·rw [aO (Qb h)]
  refine (YM m a b [] [] rfl h (by simpa using ha) m (by omega) _ _).trans ?_
  cases AR oC a b <;> rfl
 ·rw [aD (MI h),MJ h]
theorem YN (m:Nat) : ∀ (post post' pre pre':List iC),pre.length=pre'.length->post.length=post'.length->pre.length+post.length<=1048576->∀ n,post.length<n->∀ k0 k1,
  gP m n (.l (rO (pre++post))) (.l (rO (pre'++post'))) (.i pre.length) k0 k1=cond (AR vJ post post') k1 (k0 (.b false))
 | [],[],pre,pre',h1,h2,hs,n,hn,k0,k1=>by
  obtain ⟨n,rfl⟩ : ∃ m',n=m'+1:=⟨n-1,by omega⟩
  simp only [gP,T.ak,T.ah]
  rw [aH (by simp)]
  rfl
 | x::post,y::post',pre,pre',h1,h2,hs,n,hn,k0,k1=>by
  obtain ⟨n,rfl⟩ : ∃ m',n=m'+1:=⟨n-1,by omega⟩
  simp only [List.length_cons] at hs hn h2
  have ih:=YN m post post' (pre++[x]) (pre'++[y]) (by simp [h1]) (by omega) (by simp; omega) n (by omega) k0 k1
  rw [aG,List.append_assoc,List.singleton_append,List.append_assoc,List.singleton_append] at ih
  simp only [gP,T.ak,T.ah,ixO,anW pre pre' y post' h1,bA pre (by omega),o0,o1,o2,T.dR]
  rw [au (by simp <;> omega),au (by simp <;> omega),au (by simp <;> omega),ih]
  show cond (!(vJ x y)) _ _=cond (vJ x y&&AR vJ post post') _ _
  cases vJ x y <;> rfl
 | [],_::_,_,_,_,h2,_,_,_,_,_=>by simp at h2
 | _::_,[],_,_,_,h2,_,_,_,_,_=>by simp at h2
theorem amf {m:Nat} (hm:1048590<=m) (a b:List iC) (ha:a.length<=1048576) (K:T->An):lT m (.l (rO a)) (.l (rO b)) K=K (.b (AR vJ a b)):=by
 obtain ⟨m,rfl⟩ : ∃ m',m=m'+1:=⟨m-1,by omega⟩
 simp only [lT,T.ah,nD]
 by_cases h:a.length=b.length
 ·rw [aO (Qb h)]
  refine (YN m a b [] [] rfl h (by simpa using ha) m (by omega) _ _).trans ?_
  cases AR vJ a b <;> rfl
 ·rw [aD (MI h),MJ h]
theorem YO (m:Nat) (hm:1048600<=m) : ∀ (post post' pre pre':List bK),pre.length=pre'.length->post.length=post'.length->pre.length+post.length<=1048576->(∀ r∈post,r.ops.length<=1048576)->∀ n,post.length<n->∀ k0 k1,
  fV m n (.l (rR (pre++post))) (.l (rR (pre'++post'))) (.i pre.length) k0 k1=cond (AR uF post post') k1 (k0 (.b false))
 | [],[],pre,pre',h1,h2,hs,ho,n,hn,k0,k1=>by
  obtain ⟨n,rfl⟩ : ∃ m',n=m'+1:=⟨n-1,by omega⟩
  simp only [fV,T.ak,T.ah]
  rw [aH (by simp)]
  rfl
 | x::post,y::post',pre,pre',h1,h2,hs,ho,n,hn,k0,k1=>by
  obtain ⟨n,rfl⟩ : ∃ m',n=m'+1:=⟨n-1,by omega⟩
  simp only [List.length_cons] at hs hn h2
  have ih:=YO m hm post post' (pre++[x]) (pre'++[y]) (by simp [h1]) (by omega) (by simp; omega) (fun r hr=>ho r (by simp [hr])) n (by omega) k0 k1
  rw [aG,List.append_assoc,List.singleton_append,List.append_assoc,List.singleton_append] at ih
  have d1:decide ((0:Int)<=(pre.length:Int)/\(pre.length:Int)<((rR (pre++x::post)).length:Int))=true:=decide_eq_true (by simp; omega)
  have d2:decide ((0:Int)<=(pre.length:Int)/\(pre.length:Int)<((rR (pre'++y::post')).length:Int))=true:=decide_eq_true (by simp; omega)
  simp only [fV,T.ak,T.ah,ixR,anX pre pre' y post' h1,bA pre (by omega),r0,rd1,rd2,d1,d2,cond_true]
  rw [au (by simp <;> omega),amf (by omega) x.ops y.ops (ho x (by simp)),ih]
  simp only [T.aT]
  show _=cond (uF x y&&AR uF post post') _ _
  unfold uF
  by_cases e1:x.kind=y.kind
  ·rw [aD (by simp [e1])]
   by_cases e2:x.tx=y.tx
   ·rw [aD (by simp [e2])]
    simp only [e1,e2,beq_self_eq_true,Bool.true_and]
    cases AR vJ x.ops y.ops <;> rfl
   ·rw [aO (by simp [e2])]; rw [show (x.tx==y.tx)=false by simp [e2],Bool.false_and,Bool.and_false,Bool.false_and]; rfl
  ·rw [aO (by simp [e1])]; rw [show (x.kind==y.kind)=false by simp [e1],Bool.false_and,Bool.false_and]; rfl
 | [],_::_,_,_,_,h2,_,_,_,_,_,_=>by simp at h2
 | _::_,[],_,_,_,h2,_,_,_,_,_,_=>by simp at h2
theorem apW {m:Nat} (hm:1048610<=m) (a b:List bK) (ha:a.length<=1048576) (ho : ∀ r∈a,r.ops.length<=1048576) (K:T->An):qX m (.l (rR a)) (.l (rR b)) K=K (.b (AR uF a b)):=by
 obtain ⟨m,rfl⟩ : ∃ m',m=m'+1:=⟨m-1,by omega⟩
 simp only [qX,T.ah,lV]
 by_cases h:a.length=b.length
 ·rw [aO (Qb h)]
  refine (YO m (by omega) a b [] [] rfl h (by simpa using ha) ho m (by omega) _ _).trans ?_
  cases AR uF a b <;> rfl
 ·rw [aD (MI h),MJ h]
end Go.Proofs.YtpmbniddgaecpaaGreat

namespace Go.Proofs.YtpmbniddgaecpaaGreat
open Go Go.E Go.Proofs
theorem aiK : ∀ {l:List bK} {k:Nat} {s s':St},GSt k s->(∀ r∈l,∀ o∈r.ops,BOp o)->fK s l=some s'->GSt (k+l.length) s'
 | [],k,s,s',h,ho,e=>by unfold fK at e; cases e; exact h
 | r::l,k,s,s',h,ho,e=>by
  unfold fK at e
  split at e
  ·have:=aiK (aix h (ho r (by simp))) (fun q hq=>ho q (by simp [hq])) e
   rw [List.length_cons]
   exact this.mono (by omega)
  ·cases e
def uG (s:aQ):Bool:=decide (0<=s.id/\s.id<=7)&&(decide (0<=s.sure/\s.sure<=(s.log.length:Int))&&(decide (s.log.length+s.held.length<=300)&&((fO s.log).isSome&&(AR oC (mapOf (fO s.log)) s.map&&AR uF (DU (fO s.log)) s.held))))
structure V3 (s:aQ):Prop where
 log:s.log.length<=1048576
 held:s.held.length<=1048576
 map:s.map.length<=1048576
 recs : ∀ r∈s.log,OO r
theorem V4 {l:List bK} (hl:l.length<=300) (hr : ∀ r∈l,OO r):(mapOf (fO l)).length<=1048576/\(DU (fO l)).length<=1048576 /\ ∀ r∈DU (fO l),r.ops.length<=1048576:=by
 cases h:fO l with
 | none=>exact ⟨by simp [mapOf],by simp [DU],fun r hr=>(nomatch hr)⟩
 | some s =>
  have:=aiK (k:=0) (s:=st0) ⟨by simp [st0],by simp [st0],by simp [st0],by simp [st0]⟩ (fun r h=>(hr r h).2) h
  refine ⟨by show s.map.length<=_; have:=this.map; omega,by show s.held.length<=_; have:=this.YG; omega,fun r hr=>?_⟩
  have:=(this.held r hr).1
  omega
theorem agy {m:Nat} (hm:3200100<=m) (s:aQ) (h:V3 s) (K:T->An):yQ m (.i s.id) (.l (rR s.log)) (.i s.sure) (.l (rP s.map)) (.l (rR s.held)) K=K (.b (uG s)):=by
 obtain ⟨m,rfl⟩ : ∃ m',m=m'+1:=⟨m-1,by omega⟩
 have hl:=h.log
 have hh:=h.held
 have hw:IntKind.i64.wrap ((s.log.length:Int)+(s.held.length:Int))=(s.log.length:Int)+(s.held.length:Int):=by rw [IntKind.wrap_i64]; omega
 have hid : ∀ k,vE m (.i s.id) k=k (.b (decide (0<=s.id/\s.id<=7))):=fun k=>by
  obtain ⟨q,rfl⟩ : ∃ q,m=q+1:=⟨m-1,by omega⟩
  simp only [vE]
  exact gK (by omega) _ _ _ _
 simp only [yQ,jn,T.ah,T.ak,hid,lV,hw]
 rw [gK (by omega)]
 simp only [T.aT]
 unfold uG
 cases decide (0<=s.id/\s.id<=7) with
 | false=>rfl
 | true =>
  rw [aD (by decide)]
  cases decide (0<=s.sure/\s.sure<=(s.log.length:Int)) with
  | false=>rfl
  | true =>
   rw [aD (by decide)]
   by_cases h3:s.log.length+s.held.length<=300
   ·obtain ⟨b1,b2,b3⟩:=V4 (l:=s.log) (by omega) h.recs
    rw [aH (by omega),aeb (by omega) s.log (by omega) h.recs,decide_eq_true h3]
    simp only [T.aT,T.ah,apT (show 1048590<=m by omega) _ s.map b1,apU (show 1048610<=m by omega) _ s.held b2 b3]
    cases (fO s.log).isSome with
    | false=>rfl
    | true=>cases AR oC (mapOf (fO s.log)) s.map <;> rfl
   ·rw [au (by omega),decide_eq_false h3]; rfl
theorem agz {m:Nat} (hm:3200100<=m) (s:aQ) (h:V3 s) (K:T->An):yK m (.i s.id) (.l (rR s.log)) (.i s.sure) (.l (rP s.map)) (.l (rR s.held)) K=K (.b (uG s)):=by
 obtain ⟨m,rfl⟩ : ∃ m',m=m'+1:=⟨m-1,by omega⟩
 have hl:=h.log
 have hh:=h.held
 simp only [yK,jn,T.ah,T.ak,lV]
 rw [nM (by omega),nM (by omega)]
 simp only [T.aT]
 unfold uG
 cases decide (0<=s.id/\s.id<=7) with
 | false=>rfl
 | true =>
  rw [aD (by decide)]
  by_cases h4:s.log.length<=300
  ·rw [aD (by simp; omega)]
   cases decide (0<=s.sure/\s.sure<=(s.log.length:Int)) with
   | false=>rfl
   | true =>
    obtain ⟨b1,b2,b3⟩:=V4 (l:=s.log) h4 h.recs
    rw [aO (by decide),agn (by omega) s.log (by omega) h.recs]
    have hw:IntKind.i64.wrap ((s.log.length:Int)+((DU (fO s.log)).length:Int))=(s.log.length:Int)+((DU (fO s.log)).length:Int):=by rw [IntKind.wrap_i64]; omega
    simp only [T.aT,T.ah,apV (show 1048590<=m by omega) _ s.map b1,apW (show 1048610<=m by omega) _ s.held b2 b3,lV,hw]
    cases (fO s.log).isSome with
    | false=>simp only [Bool.and_false,Bool.false_and,Bool.true_and]; rfl
    | true =>
     cases h5:AR oC (mapOf (fO s.log)) s.map with
     | false=>simp only [Bool.and_false,Bool.false_and,Bool.true_and]; rfl
     | true =>
      cases h6:AR uF (DU (fO s.log)) s.held with
      | false=>simp only [Bool.and_false,Bool.false_and,Bool.true_and]; rfl
      | true =>
       rw [aaO h6]
       simp only [Bool.and_true,Bool.true_and]
       show K (.b _)=_
       congr 2
       exact decide_eq_decide.2 (by omega)
  ·rw [aO (by simp; omega),decide_eq_false (show ¬ s.log.length+s.held.length<=300 by omega)]
   simp only [Bool.and_false,Bool.false_and,Bool.true_and]
def Gy (x:cB):Bool:=decide (0<=x.nG/\x.nG<=7)&&(decide (1<=x.tx/\x.tx<=1000000)&&(if x.kind=1 then mK x.ops && !x.yes else if x.kind=2\/x.kind=3 then x.ops.length==0 else if x.kind=4 then (x.ops.length==0) && !x.yes else false))
theorem aiL {m:Nat} (hm:1048700<=m) (x:cB) (h:qQ x.ops) (K:T->An):Ce m (.i x.kind) (.i x.nG) (.i x.tx) (.l (rO x.ops)) (.b x.yes) K=K (.b (Gy x)):=by
 obtain ⟨m,rfl⟩ : ∃ m',m=m'+1:=⟨m-1,by omega⟩
 have e0:(((rO x.ops).length:Int)==0)=(x.ops.length==0):=by rw [nD]; cases x.ops <;> simp <;> omega
 have hid : ∀ k,vE m (.i x.nG) k=k (.b (decide (0<=x.nG/\x.nG<=7))):=fun k=>by
  obtain ⟨q,rfl⟩ : ∃ q,m=q+1:=⟨m-1,by omega⟩
  simp only [vE]
  exact gK (by omega) _ _ _ _
 have aiG : ∀ k,qC m (.i x.tx) k=k (.b (decide (1<=x.tx/\x.tx<=1000000))):=fun k=>by
  obtain ⟨q,rfl⟩ : ∃ q,m=q+1:=⟨m-1,by omega⟩
  simp only [qC]
  exact gK (by omega) _ _ _ _
 simp only [Ce,jn,T.ah,T.ak,hid,aiG,T.aT,e0]
 rw [Gv (by omega) x.ops h]
 simp only [T.aT]
 unfold Gy
 cases decide (0<=x.nG/\x.nG<=7) with
 | false=>rfl
 | true =>
  rw [aD (by decide)]
  cases decide (1<=x.tx/\x.tx<=1000000) with
  | false=>rfl
  | true =>
   rw [aO (by decide),Bool.true_and,Bool.true_and]
   by_cases k1:x.kind=1
   ·rw [aD (by simp [k1]),if_pos k1]; cases mK x.ops <;> rfl
   ·rw [aO (by simp [k1]),if_neg k1]
    by_cases k2:x.kind=2
    ·rw [aD (by simp [k2]),if_pos (.inl k2)]; rfl
    ·rw [aO (by simp [k2])]
     by_cases k3:x.kind=3
     ·rw [if_pos (.inr k3),aD (by simp [k3])]
     ·rw [if_neg (by simp [k2,k3]),aO (by simp [k3])]
      by_cases k4:x.kind=4
      ·rw [aD (by simp [k4]),if_pos k4]; cases x.ops.length==0 <;> rfl
      ·rw [aO (by simp [k4]),if_neg k4]
theorem aiM {m:Nat} (hm:1048700<=m) (x:cB) (h:qQ x.ops) (K:T->An):BM m (.i x.kind) (.i x.nG) (.i x.tx) (.l (rO x.ops)) (.b x.yes) K=K (.b (Gy x)):=by
 obtain ⟨m,rfl⟩ : ∃ m',m=m'+1:=⟨m-1,by omega⟩
 have e0:(((rO x.ops).length:Int)==0)=(x.ops.length==0):=by rw [nD]; cases x.ops <;> simp <;> omega
 simp only [BM,jn,T.ah,T.ak,T.aT,e0]
 rw [nM (by omega),nM (by omega),Gu (by omega) x.ops h]
 simp only [T.aT]
 unfold Gy
 cases decide (0<=x.nG/\x.nG<=7) with
 | false=>rfl
 | true =>
  rw [aD (by decide)]
  cases decide (1<=x.tx/\x.tx<=1000000) with
  | false=>rfl
  | true =>
   rw [aO (by decide),Bool.true_and,Bool.true_and]
   by_cases k1:x.kind=1
   ·rw [aD (by simp [k1]),if_pos k1]; cases mK x.ops <;> rfl
   ·rw [aO (by simp [k1]),if_neg k1]
    by_cases k2:x.kind=2
    ·rw [aD (by simp [k2]),if_pos (.inl k2)]; rfl
    ·rw [aO (by simp [k2])]
     by_cases k3:x.kind=3
     ·rw [if_pos (.inr k3),aD (by simp [k3])]
     ·rw [if_neg (by simp [k2,k3]),aO (by simp [k3])]
      by_cases k4:x.kind=4
      ·rw [aD (by simp [k4]),if_pos k4]; cases x.ops.length==0 <;> rfl
      ·rw [aO (by simp [k4]),if_neg k4]
end Go.Proofs.YtpmbniddgaecpaaGreat

namespace Go.Proofs.YtpmbniddgaecpaaGreat
open Go Go.E Go.Proofs
abbrev za (w:bO):List T:=[.i w.c.n,.i w.c.life,.i w.c.next,.l (rJ w.c.jobs),.l (rC w.c.log),.i w.c.sure,.l (rS w.aI),.l (rW w.net),.l (rW w.outs),.l (rB w.begun)]
structure CW (w:bO):Prop where
 jobs:aif w.c.jobs
 log:w.c.log.length<=1048576
 shl:w.aI.length<=1048576
 sh : ∀ s∈w.aI,V3 s
 al6:w.net.length<=1048576
 net : ∀ x∈w.net,qQ x.ops
 al7:w.outs.length<=1048576
 outs : ∀ x∈w.outs,qQ x.ops
 ad8:w.begun.length<=1048576
 ze : ∀ o∈w.begun,qQ o.ops
theorem qL (r:List T):bY (.l [r])=r:=rfl
theorem wr3 (w:bO):((za w).drop 3).getD 0 dflt = .l (rJ w.c.jobs):=rfl
theorem wr4 (w:bO):((za w).drop 4).getD 0 dflt = .l (rC w.c.log):=rfl
theorem wr5 (w:bO):((za w).drop 5).getD 0 dflt = .i w.c.sure:=rfl
theorem wr6 (w:bO):((za w).drop 6).getD 0 dflt = .l (rS w.aI):=rfl
theorem wr9 (w:bO):((za w).drop 9).getD 0 dflt = .l (rB w.begun):=rfl
theorem wt6 (w:bO):(za w).take 6=P7 w.c.n w.c.life w.c.next (rJ w.c.jobs) (rC w.c.log) (.i w.c.sure):=rfl
theorem amg (w:bO):(za w).take 10=za w:=rfl
theorem wo0 (x:cB):x.r.getD 0 dflt = .i x.kind:=rfl
theorem wo1 (x:cB):x.r.getD 1 dflt = .i x.nG:=rfl
theorem wo2 (x:cB):x.r.getD 2 dflt = .i x.tx:=rfl
theorem wo3 (x:cB):x.r.getD 3 dflt = .l (rO x.ops):=rfl
theorem wo4 (x:cB):x.r.getD 4 dflt = .b x.yes:=rfl
theorem apX (x:cB):(x.r.drop 1).getD 0 dflt = .i x.nG:=rfl
theorem ixB (pre:List dQ) (x:dQ) (post:List dQ):(rB (pre++x::post)).getD (Int.toNat (pre.length:Int)) []=x.r:=by simp [List.getD]
theorem b0 (x:dQ):x.r.getD 0 dflt = .i x.tx:=rfl
theorem b1' (x:dQ):x.r.getD 1 dflt = .l (rO x.ops):=rfl
theorem bd1 (x:dQ):(x.r.drop 1).getD 0 dflt = .l (rO x.ops):=rfl
theorem jd1 (x:iD):(x.r.drop 1).getD 0 dflt = .l (rO x.ops):=rfl
theorem Qc (l:List dQ) {j:Nat} (h:j<l.length):(rB l).getD j []=(l.getD j default).r:=by simp [List.getD,h]
def V5 (k:Nat) (x:cB):Bool:=Gy x&&decide (x.nG<(k:Int))
def DV (k:Nat) (l:List cB):Bool:=l.all (V5 k)&&decide (l.length<=400)
theorem akX (n:Nat):decide ((n:Int)<=400)=decide (n<=400):=decide_eq_decide.2 (by omega)
theorem aiN (a b:Int):decide (a>=b) = !decide (a<b):=by
 by_cases h:a<b
 ·rw [decide_eq_true h,decide_eq_false (by omega)]; rfl
 ·rw [decide_eq_false h,decide_eq_true (by omega)]; rfl
theorem Q5 (m:Nat) (hm:1048700<=m) (w:bO) (x1:T) : ∀ (post pre:List cB),(∀ x∈post,qQ x.ops)->pre.length+post.length<=1048576->∀ n,post.length<n->∀ k0 k1,
  dY m n (.l [za w]) x1 (.l (rW (pre++post))) (.i ((pre++post).length:Nat)) (.i pre.length) k0 k1=cond (post.all (V5 w.aI.length)) (k1 x1) (k0 (.b false))
 | [],pre,ho,hs,n,hn,k0,k1=>by
  obtain ⟨n,rfl⟩ : ∃ m',n=m'+1:=⟨n-1,by omega⟩
  simp only [dY,T.ak,T.ah]
  rw [aH (by simp)]
  rfl
 | x::post,pre,ho,hs,n,hn,k0,k1=>by
  obtain ⟨n,rfl⟩ : ∃ m',n=m'+1:=⟨n-1,by omega⟩
  simp only [List.length_cons] at hs hn
  have ih:=Q5 m hm w x1 post (pre++[x]) (fun y hy=>ho y (by simp [hy])) (by simp; omega) n (by omega) k0 k1
  rw [aG,List.append_assoc,List.singleton_append] at ih
  simp only [dY,T.ak,T.ah,ixW,bA pre (by omega),wo0,wo1,wo2,wo3,wo4,qL,wr6,p9]
  rw [au (by simp <;> omega),au (by simp <;> omega),aiL hm x (ho x (by simp)),ih,aiN]
  simp only [T.aT,List.all_cons]
  unfold V5
  cases Gy x with
  | false=>rfl
  | true=>cases decide (x.nG<(w.aI.length:Int)) <;> rfl
theorem YP {m:Nat} (hm:1048710<=m) (w:bO) (l:List cB) (hl:l.length<=1048576) (ho : ∀ x∈l,qQ x.ops) (K:T->An):lU m (.l [za w]) (.l (rW l)) K=K (.b (DV w.aI.length l)):=by
 obtain ⟨m,rfl⟩ : ∃ m',m=m'+1:=⟨m-1,by omega⟩
 simp only [lU,T.ah,ad6,qL]
 refine (Q5 m (by omega) w (.l (rW l)) l [] ho (by simpa using hl) m (by omega) _ _).trans ?_
 unfold DV
 simp only [T.ah,ad6,akX]
 cases l.all (V5 w.aI.length) <;> rfl
theorem Q6 (m:Nat) (hm:1048700<=m) (x3 x4 x5 x6 x7 x8 x10 gy o9:T) (sh:List aQ) : ∀ (post pre:List cB),(∀ x∈post,qQ x.ops)->pre.length+post.length<=1048576->∀ n,post.length<n->∀ k0 k1,
  iT m n (.l (rW (pre++post))) (.i 0) (.i pre.length) x3 x4 x5 x6 x7 x8 (.l (rS sh)) x10 gy o9 k0 k1=cond (post.all (V5 sh.length)) (k1 (.l (rW (pre++post)))) (k0 (.b false))
 | [],pre,ho,hs,n,hn,k0,k1=>by
  obtain ⟨n,rfl⟩ : ∃ m',n=m'+1:=⟨n-1,by omega⟩
  simp only [iT,T.ak,T.ah]
  rw [aH (by simp)]
  rfl
 | x::post,pre,ho,hs,n,hn,k0,k1=>by
  obtain ⟨n,rfl⟩ : ∃ m',n=m'+1:=⟨n-1,by omega⟩
  simp only [List.length_cons] at hs hn
  have ih:=Q6 m hm x3 x4 x5 x6 x7 x8 x10 gy o9 sh post (pre++[x]) (fun y hy=>ho y (by simp [hy])) (by simp; omega) n (by omega) k0 k1
  rw [aG,List.append_assoc,List.singleton_append] at ih
  have d1:decide ((0:Int)<=(pre.length:Int)/\(pre.length:Int)<((rW (pre++x::post)).length:Int))=true:=decide_eq_true (by simp; omega)
  have hz:((((0:Int).toNat:Nat)):Int)=0:=rfl
  simp only [iT,T.ak,T.ah,ixW,bA pre (by omega),wo0,wo1,wo2,wo3,wo4,apX,p9,d1,cond_true,hz]
  rw [au (by simp <;> omega),aiM hm x (ho x (by simp)),ih,aiN]
  simp only [T.aT,List.all_cons]
  unfold V5
  cases Gy x with
  | false=>rfl
  | true=>cases decide (x.nG<(sh.length:Int)) <;> rfl
theorem YQ {m:Nat} (hm:1048710<=m) (x0 x1 x2 x5:T) (l3 l4 l7 l8 l9:List (List T)) (sh:List aQ) (l:List cB) (hl:l.length<=1048576) (ho : ∀ x∈l,qQ x.ops) (K:T->An) :
  qO m x0 x1 x2 (.l l3) (.l l4) x5 (.l (rS sh)) (.l l7) (.l l8) (.l l9) (.l (rW l)) K=K (.b (DV sh.length l)):=by
 obtain ⟨m,rfl⟩ : ∃ m',m=m'+1:=⟨m-1,by omega⟩
 simp only [qO,T.ah]
 refine (Q6 m (by omega) x0 x1 x2 (.l l3) (.l l4) x5 (.l l7) (.l l8) (.l l9) sh l [] ho (by simpa using hl) m (by omega) _ _).trans ?_
 unfold DV
 simp only [T.ah,ad6,akX,List.nil_append]
 cases l.all (V5 sh.length) <;> rfl
def uO (tx:Int):List dQ->Option Nat
 | []=>none
 | o::l=>if o.tx=tx then some 0 else (uO tx l).map (· + 1)
theorem acY {tx:Int} : ∀ {l:List dQ} {j:Nat},uO tx l=some j->j<l.length
 | [],j,h=>by cases h
 | r::l,j,h=>by
  unfold uO at h
  split at h
  ·cases h; simp
  ·cases h2:uO tx l with
   | none=>rw [h2] at h; cases h
   | some i=>rw [h2] at h; cases h; have:=acY h2; simp; omega
def uK (tx:Int) (l:List dQ):Int:=match uO tx l with | some j=>(j:Int) | none=>-1
theorem YR (m:Nat) (hm:1<=m) (tx:Int) : ∀ (post pre:List dQ),pre.length+post.length<=1048576->∀ n,post.length<n->∀ k0 k1,
  bq m n (.l (rB (pre++post))) (.l [[.i tx]]) (.i ((pre++post).length:Nat)) (.i pre.length) k0 k1=(match uO tx post with | some j=>k0 (.i ((pre.length+j:Nat):Int)) | none=>k1)
 | [],pre,hs,n,hn,k0,k1=>by
  obtain ⟨n,rfl⟩ : ∃ m',n=m'+1:=⟨n-1,by omega⟩
  simp only [bq,T.ak,T.ah]
  rw [aH (by simp)]
  rfl
 | x::post,pre,hs,n,hn,k0,k1=>by
  obtain ⟨n,rfl⟩ : ∃ m',n=m'+1:=⟨n-1,by omega⟩
  obtain ⟨m,rfl⟩ : ∃ m',m=m'+1:=⟨m-1,by omega⟩
  simp only [List.length_cons] at hs hn
  have ih:=YR (m+1) hm tx post (pre++[x]) (by simp; omega) n (by omega) k0 k1
  rw [aG,List.append_assoc,List.singleton_append] at ih
  have r1:bY (.l [[T.i tx]])=[T.i tx]:=rfl
  simp only [bq,pW,T.ak,T.ah,ixB,bA pre (by omega),r1,List.getD_cons_zero,T.aT,b0]
  rw [au (by simp; omega),au (by simp; omega)]
  unfold uO
  by_cases h:x.tx=tx
  ·rw [aD (by simp [h]),if_pos h]; rfl
  ·rw [aO (by simp [h]),if_neg h]
   refine Eq.trans ih ?_
   cases uO tx post with
   | none=>rfl
   | some j=>simp only [Option.map_some]; congr 3; simp; omega
theorem Ey {m:Nat} (hm:1048600<=m) (w:bO) (tx:Int) (hl:w.begun.length<=1048576) (K:T->An):eT m (.l [za w]) (.i tx) K=K (.i (uK tx w.begun)):=by
 obtain ⟨m,rfl⟩ : ∃ m',m=m'+1:=⟨m-1,by omega⟩
 obtain ⟨m,rfl⟩ : ∃ m',m=m'+1:=⟨m-1,by omega⟩
 simp only [eT,dM,qL,wr9,T.ah,uE]
 refine (YR m (by omega) tx w.begun [] (by simp; omega) m (by omega) _ _).trans ?_
 unfold uK
 cases uO tx w.begun <;> simp
theorem YS (m:Nat) (tx:Int) (x3 x4 x5 x6 x7 x8 x9 x10 gy:T) : ∀ (post pre:List dQ),pre.length+post.length<=1048576->∀ n,post.length<n->∀ k0 k1,
  iU m n (.i tx) (.i 0) (.i pre.length) x3 x4 x5 x6 x7 x8 x9 x10 gy (.l (rB (pre++post))) k0 k1=(match uO tx post with | some j=>k0 (.i ((pre.length+j:Nat):Int)) | none=>k1)
 | [],pre,hs,n,hn,k0,k1=>by
  obtain ⟨n,rfl⟩ : ∃ m',n=m'+1:=⟨n-1,by omega⟩
  simp only [iU,T.ak,T.ah]
  rw [aH (by simp)]
  rfl
 | x::post,pre,hs,n,hn,k0,k1=>by
  obtain ⟨n,rfl⟩ : ∃ m',n=m'+1:=⟨n-1,by omega⟩
  simp only [List.length_cons] at hs hn
  have ih:=YS m tx x3 x4 x5 x6 x7 x8 x9 x10 gy post (pre++[x]) (by simp; omega) n (by omega) k0 k1
  rw [aG,List.append_assoc,List.singleton_append] at ih
  have hz:((((0:Int).toNat:Nat)):Int)=0:=rfl
  simp only [iU,T.ak,T.ah,ixB,bA pre (by omega),b0,hz]
  rw [au (by simp; omega),au (by simp; omega)]
  unfold uO
  by_cases h:x.tx=tx
  ·rw [aD (by simp [h]),if_pos h]; rfl
  ·rw [aO (by simp [h]),if_neg h]
   refine Eq.trans ih ?_
   cases uO tx post with
   | none=>rfl
   | some j=>simp only [Option.map_some]; congr 3; simp; omega
theorem Ez {m:Nat} (hm:1048600<=m) (x0 x1 x2 x5:T) (l3 l4 l6 l7 l8:List (List T)) (l:List dQ) (tx:Int) (hl:l.length<=1048576) (K:T->An) :
  kM m x0 x1 x2 (.l l3) (.l l4) x5 (.l l6) (.l l7) (.l l8) (.l (rB l)) (.i tx) K=K (.i (uK tx l)):=by
 obtain ⟨m,rfl⟩ : ∃ m',m=m'+1:=⟨m-1,by omega⟩
 simp only [kM,T.ah]
 refine (YS m tx x0 x1 x2 (.l l3) (.l l4) x5 (.l l6) (.l l7) (.l l8) l [] (by simp; omega) m (by omega) _ _).trans ?_
 unfold uK
 cases uO tx l <;> simp
end Go.Proofs.YtpmbniddgaecpaaGreat

namespace Go.Proofs.YtpmbniddgaecpaaGreat
open Go Go.E Go.Proofs
def aiO (life next:Int) (full:List dQ) (i:Nat) (o:dQ):Bool:=mK o.ops&&(decide (1000<=o.tx/\o.tx<=life * 1000+next-1)&&(uK o.tx full==(i:Int)))
def Q7 (life next:Int) (full:List dQ):Nat->List dQ->Bool
 | _,[]=>true
 | i,o::l=>aiO life next full i o&&Q7 life next full (i+1) l
def aaP (full:List dQ) (c:aZ):Bool:=!decide (uK c.tx full<0)
def aaQ (full:List dQ) (j:iD):Bool:=!decide (uK j.tx full<0)&&AR vJ (full.getD (uK j.tx full).toNat default).ops j.ops
def V6 (w:bO):Bool:=Q7 w.c.life w.c.next w.begun 0 w.begun&&(w.c.log.all (aaP w.begun)&&(w.c.jobs.all (aaQ w.begun)&&decide (w.begun.length<=1000)))
theorem EA {tx:Int} {l:List dQ} (h : ¬ uK tx l<0) : ∃ j:Nat,uK tx l=j/\j<l.length:=by
 unfold uK at h ⊢
 cases h2:uO tx l with
 | none=>rw [h2] at h; simp at h
 | some j=>exact ⟨j,rfl,acY h2⟩
theorem EB {l:List dQ} {j:Nat} (h:j<l.length):l.getD j default∈l:=by simp [List.getD,h]
section
variable (m:Nat) (w:bO) (h1:1<=w.c.life/\w.c.life<=900) (h2:0<=w.c.next/\w.c.next<=999) (hb:w.begun.length<=1048576) (Rm : ∀ o∈w.begun,qQ o.ops)
include hb
theorem akY (hm:1048700<=m) (h1:1<=w.c.life/\w.c.life<=900) (h2:0<=w.c.next/\w.c.next<=999) : ∀ (post pre:List dQ),(∀ o∈post,qQ o.ops)->pre.length+post.length<=1048576->∀ n,post.length<n->∀ k0 k1,
  eu m n (.l [za w]) (.l (rB (pre++post))) (.i ((pre++post).length:Nat)) (.i pre.length) k0 k1=cond (Q7 w.c.life w.c.next w.begun pre.length post) (k1 (.l [za w])) (k0 (.b false))
 | [],pre,ho,hs,n,hn,k0,k1=>by
  obtain ⟨n,rfl⟩ : ∃ m',n=m'+1:=⟨n-1,by omega⟩
  simp only [eu,T.ak,T.ah,qL]
  rw [aH (by simp)]
  rfl
 | x::post,pre,ho,hs,n,hn,k0,k1=>by
  obtain ⟨n,rfl⟩ : ∃ m',n=m'+1:=⟨n-1,by omega⟩
  simp only [List.length_cons] at hs hn
  have ih:=akY hm h1 h2 post (pre++[x]) (fun y hy=>ho y (by simp [hy])) (by simp; omega) n (by omega) k0 k1
  rw [aG,List.append_assoc,List.singleton_append,show (pre++[x]).length=pre.length+1 by simp] at ih
  simp only [eu,T.ak,T.ah,ixB,bA pre (by omega),b0,b1',qL,wt6,amg]
  rw [au (by simp <;> omega),au (by simp <;> omega),Gv (by omega) x.ops (ho x (by simp)),ad2 (by omega) _ _ _ _ _ _ h1 h2]
  simp only [T.ak,T.aT]
  rw [wrap_i64 (by omega) (by omega),gK (by omega)]
  simp only [T.aT]
  rw [Ey (by omega) w x.tx hb,ih]
  simp only [T.ak]
  show _=cond (aiO _ _ _ _ _&&_) _ _
  unfold aiO
  cases mK x.ops with
  | false=>rfl
  | true =>
   rw [aD (by decide)]
   cases decide (1000<=x.tx/\x.tx<=w.c.life * 1000+w.c.next-1) with
   | false=>rfl
   | true =>
    rw [aD (by decide)]
    by_cases h:uK x.tx w.begun=(pre.length:Int)
    ·rw [aO (by simp [h])]; simp [h]
    ·rw [aD (by simp [h]),show (uK x.tx w.begun==(pre.length:Int))=false by simp [h]]; rfl
theorem akZ (hm:1048700<=m) : ∀ (post pre:List aZ),pre.length+post.length<=1048576->∀ n,post.length<n->∀ k0 k1,
  d9 m n (.l [za w]) (.l (rC (pre++post))) (.i ((pre++post).length:Nat)) (.i pre.length) k0 k1=cond (post.all (aaP w.begun)) (k1 (.l [za w])) (k0 (.b false))
 | [],pre,hs,n,hn,k0,k1=>by
  obtain ⟨n,rfl⟩ : ∃ m',n=m'+1:=⟨n-1,by omega⟩
  simp only [d9,T.ak,T.ah,qL]
  rw [aH (by simp)]
  rfl
 | x::post,pre,hs,n,hn,k0,k1=>by
  obtain ⟨n,rfl⟩ : ∃ m',n=m'+1:=⟨n-1,by omega⟩
  simp only [List.length_cons] at hs hn
  have ih:=akZ hm post (pre++[x]) (by simp; omega) n (by omega) k0 k1
  rw [aG,List.append_assoc,List.singleton_append] at ih
  simp only [d9,T.ak,T.ah,ixC,bA pre (by omega),c0,qL,amg]
  rw [au (by simp <;> omega),au (by simp <;> omega),Ey (by omega) w x.tx hb,ih]
  simp only [T.ak,List.all_cons,aaP]
  cases decide (uK x.tx w.begun<0) <;> rfl
theorem ak0 (hm:1048700<=m) (Rm : ∀ o∈w.begun,qQ o.ops) : ∀ (post pre:List iD),pre.length+post.length<=1048576->∀ n,post.length<n->∀ k0 k1,
  dZ m n (.l [za w]) (.l (rJ (pre++post))) (.i ((pre++post).length:Nat)) (.i pre.length) k0 k1=cond (post.all (aaQ w.begun)) (k1 (.l [za w])) (k0 (.b false))
 | [],pre,hs,n,hn,k0,k1=>by
  obtain ⟨n,rfl⟩ : ∃ m',n=m'+1:=⟨n-1,by omega⟩
  simp only [dZ,T.ak,T.ah,qL]
  rw [aH (by simp)]
  rfl
 | x::post,pre,hs,n,hn,k0,k1=>by
  obtain ⟨n,rfl⟩ : ∃ m',n=m'+1:=⟨n-1,by omega⟩
  simp only [List.length_cons] at hs hn
  have ih:=ak0 hm Rm post (pre++[x]) (by simp; omega) n (by omega) k0 k1
  rw [aG,List.append_assoc,List.singleton_append] at ih
  simp only [dZ,T.ak,T.ah,ixJ,bA pre (by omega),j0,j1,qL,amg,wr9,uE]
  rw [au (by simp <;> omega),au (by simp <;> omega),Ey (by omega) w x.tx hb,ih]
  simp only [T.ak,List.all_cons,aaQ]
  by_cases h:uK x.tx w.begun<0
  ·rw [decide_eq_true h]; rfl
  ·obtain ⟨j,hj,hjl⟩:=EA h
   rw [decide_eq_false h,hj,aD (by decide),au (by omega),show Int.toNat (j:Int)=j from rfl,Qc w.begun hjl,bd1]
   simp only [T.ah]
   rw [ame (by omega) _ x.ops (Rm _ (EB hjl)).1]
   simp only [T.aT,Bool.not_false,Bool.true_and]
   cases AR vJ (w.begun.getD j default).ops x.ops <;> rfl
theorem agA (hm:1048710<=m) (h1:1<=w.c.life/\w.c.life<=900) (h2:0<=w.c.next/\w.c.next<=999) (Rm : ∀ o∈w.begun,qQ o.ops) (hj:w.c.jobs.length<=1048576) (hl:w.c.log.length<=1048576) (K:T->An) :
  ow m (.l [za w]) K=K (.b (V6 w)):=by
 obtain ⟨m,rfl⟩ : ∃ m',m=m'+1:=⟨m-1,by omega⟩
 simp only [ow,qL,wr9,T.ah,uE]
 refine (akY m w hb (by omega) h1 h2 w.begun [] Rm (by simpa using hb) m (by omega) _ _).trans ?_
 unfold V6
 simp only [List.length_nil]
 cases Q7 w.c.life w.c.next w.begun 0 w.begun with
 | false=>rfl
 | true =>
  simp only [cond_true,qL,wr4,wr3,wr9,T.ah,vI,VF,uE,Bool.true_and]
  refine (akZ m w hb (by omega) w.c.log [] (by simpa using hl) m (by omega) _ _).trans ?_
  cases w.c.log.all (aaP w.begun) with
  | false=>rfl
  | true =>
   simp only [cond_true,qL,wr4,wr3,wr9,T.ah,vI,VF,uE,Bool.true_and]
   refine (ak0 m w hb (by omega) Rm w.c.jobs [] (by simpa using hj) m (by omega) _ _).trans ?_
   cases w.c.jobs.all (aaQ w.begun) with
   | false=>rfl
   | true=>simp only [cond_true,qL,wr9,T.ah,uE,Bool.true_and]; congr 2; exact decide_eq_decide.2 (by omega)
end
section
variable (m:Nat) (N life next sure:Int) (jobs:List iD) (log:List aZ) (l8 l9 l10:List (List T)) (ze:List dQ) (hb:ze.length<=1048576)
include hb
theorem ak1 (hm:1048700<=m) (h1:1<=life/\life<=900) (h2:0<=next/\next<=999) : ∀ (post pre:List dQ),ze=pre++post->(∀ o∈post,qQ o.ops)->∀ n,post.length<n->∀ k0 k1,
  gU m n (.i 0) (.i pre.length) (.i N) (.i life) (.i next) (.l (rJ jobs)) (.l (rC log)) (.i sure) (.l l8) (.l l9) (.l l10) (.l (rB ze)) k0 k1=cond (Q7 life next ze pre.length post) (k1 (.i 0) (.i N) (.i life) (.i next) (.l (rJ jobs)) (.l (rC log)) (.i sure) (.l l8) (.l l9) (.l l10) (.l (rB ze))) (k0 (.b false))
 | [],pre,e,ho,n,hn,k0,k1=>by
  obtain ⟨n,rfl⟩ : ∃ m',n=m'+1:=⟨n-1,by omega⟩
  simp only [gU,T.ak,T.ah,uE]
  rw [aH (by rw [e]; simp)]
  rfl
 | x::post,pre,e,ho,n,hn,k0,k1=>by
  obtain ⟨n,rfl⟩ : ∃ m',n=m'+1:=⟨n-1,by omega⟩
  simp only [List.length_cons] at hn
  have hlen:ze.length=pre.length+(post.length+1):=by rw [e]; simp
  have ih:=ak1 hm h1 h2 post (pre++[x]) (by rw [e]; simp) (fun y hy=>ho y (by simp [hy])) n (by omega) k0 k1
  rw [aG,show (pre++[x]).length=pre.length+1 by simp] at ih
  have hx:(rB ze).getD (Int.toNat (pre.length:Int)) []=x.r:=by rw [e]; exact ixB _ _ _
  have d1:decide ((0:Int)<=(pre.length:Int)/\(pre.length:Int)<(ze.length:Int))=true:=decide_eq_true (by omega)
  have hz:((((0:Int).toNat:Nat)):Int)=0:=rfl
  simp only [gU,T.ak,T.ah,hx,bA pre (by omega),b0,bd1,uE,d1,cond_true,hz]
  rw [au (by omega),Gu (by omega) x.ops (ho x (by simp)),Ez (by omega) _ _ _ _ _ _ _ _ _ ze x.tx hb,wrap_i64 (x:=life * 1000) (by omega) (by omega),wrap_i64 (x:=life * 1000+next) (by omega) (by omega),wrap_i64 (by omega) (by omega),nM (by omega),ih]
  simp only [T.ak,T.aT]
  show _=cond (aiO _ _ _ _ _&&_) _ _
  unfold aiO
  cases mK x.ops with
  | false=>rfl
  | true =>
   rw [aD (by decide)]
   by_cases h:uK x.tx ze=(pre.length:Int)
   ·rw [aD (by simp [h])]
    simp only [h,beq_self_eq_true,Bool.and_true,Bool.true_and]
    cases decide (1000<=x.tx/\x.tx<=life * 1000+next-1) <;> rfl
   ·rw [aO (by simp [h]),show (uK x.tx ze==(pre.length:Int))=false by simp [h],Bool.and_false,Bool.and_false,Bool.false_and]; rfl
theorem ak2 (hm:1048700<=m) : ∀ (post pre:List aZ),log=pre++post->log.length<=1048576->∀ n,post.length<n->∀ k0 k1,
  gQ m n (.i 0) (.i pre.length) (.i N) (.i life) (.i next) (.l (rJ jobs)) (.l (rC log)) (.i sure) (.l l8) (.l l9) (.l l10) (.l (rB ze)) k0 k1=cond (post.all (aaP ze)) (k1 (.i 0) (.i N) (.i life) (.i next) (.l (rJ jobs)) (.l (rC log)) (.i sure) (.l l8) (.l l9) (.l l10) (.l (rB ze))) (k0 (.b false))
 | [],pre,e,hl,n,hn,k0,k1=>by
  obtain ⟨n,rfl⟩ : ∃ m',n=m'+1:=⟨n-1,by omega⟩
  simp only [gQ,T.ak,T.ah,vI]
  rw [aH (by rw [e]; simp)]
  rfl
 | x::post,pre,e,hl,n,hn,k0,k1=>by
  obtain ⟨n,rfl⟩ : ∃ m',n=m'+1:=⟨n-1,by omega⟩
  simp only [List.length_cons] at hn
  have hlen:log.length=pre.length+(post.length+1):=by rw [e]; simp
  have ih:=ak2 hm post (pre++[x]) (by rw [e]; simp) hl n (by omega) k0 k1
  rw [aG] at ih
  have hx:(rC log).getD (Int.toNat (pre.length:Int)) []=x.r:=by rw [e]; exact ixC _ _ _
  have hz:((((0:Int).toNat:Nat)):Int)=0:=rfl
  simp only [gQ,T.ak,T.ah,hx,bA pre (by omega),c0,vI,hz]
  rw [au (by omega),au (by omega),Ez (by omega) _ _ _ _ _ _ _ _ _ ze x.tx hb,ih]
  simp only [T.ak,List.all_cons,aaP]
  cases decide (uK x.tx ze<0) <;> rfl
theorem ak3 (hm:1048700<=m) (Rm : ∀ o∈ze,qQ o.ops) : ∀ (post pre:List iD),jobs=pre++post->jobs.length<=1048576->∀ n,post.length<n->∀ k0 k1,
  gT m n (.i 0) (.i pre.length) (.i N) (.i life) (.i next) (.l (rJ jobs)) (.l (rC log)) (.i sure) (.l l8) (.l l9) (.l l10) (.l (rB ze)) k0 k1=cond (post.all (aaQ ze)) (k1 (.i 0) (.i N) (.i life) (.i next) (.l (rJ jobs)) (.l (rC log)) (.i sure) (.l l8) (.l l9) (.l l10) (.l (rB ze))) (k0 (.b false))
 | [],pre,e,hl,n,hn,k0,k1=>by
  obtain ⟨n,rfl⟩ : ∃ m',n=m'+1:=⟨n-1,by omega⟩
  simp only [gT,T.ak,T.ah,VF]
  rw [aH (by rw [e]; simp)]
  rfl
 | x::post,pre,e,hl,n,hn,k0,k1=>by
  obtain ⟨n,rfl⟩ : ∃ m',n=m'+1:=⟨n-1,by omega⟩
  simp only [List.length_cons] at hn
  have hlen:jobs.length=pre.length+(post.length+1):=by rw [e]; simp
  have ih:=ak3 hm Rm post (pre++[x]) (by rw [e]; simp) hl n (by omega) k0 k1
  rw [aG] at ih
  have hx:(rJ jobs).getD (Int.toNat (pre.length:Int)) []=x.r:=by rw [e]; exact ixJ _ _ _
  have d1:decide ((0:Int)<=(pre.length:Int)/\(pre.length:Int)<(jobs.length:Int))=true:=decide_eq_true (by omega)
  have hz:((((0:Int).toNat:Nat)):Int)=0:=rfl
  simp only [gT,T.ak,T.ah,hx,bA pre (by omega),j0,jd1,VF,uE,d1,cond_true,hz]
  rw [au (by omega),Ez (by omega) _ _ _ _ _ _ _ _ _ ze x.tx hb,ih]
  simp only [T.ak,List.all_cons,aaQ]
  by_cases h:uK x.tx ze<0
  ·rw [decide_eq_true h]; rfl
  ·obtain ⟨j,hj,hjl⟩:=EA h
   rw [decide_eq_false h,hj,aD (by decide),au (by omega),show Int.toNat (j:Int)=j from rfl,Qc ze hjl,bd1]
   simp only [T.ah]
   rw [amf (by omega) _ x.ops (Rm _ (EB hjl)).1]
   simp only [T.aT,Bool.not_false,Bool.true_and]
   cases AR vJ (ze.getD j default).ops x.ops <;> rfl
theorem agB (hm:1048710<=m) (h1:1<=life/\life<=900) (h2:0<=next/\next<=999) (Rm : ∀ o∈ze,qQ o.ops) (hj:jobs.length<=1048576) (hl:log.length<=1048576) (K:T->An) :
  tQ m (.i N) (.i life) (.i next) (.l (rJ jobs)) (.l (rC log)) (.i sure) (.l l8) (.l l9) (.l l10) (.l (rB ze)) K=K (.b (Q7 life next ze 0 ze&&(log.all (aaP ze)&&(jobs.all (aaQ ze)&&decide (ze.length<=1000))))):=by
 obtain ⟨m,rfl⟩ : ∃ m',m=m'+1:=⟨m-1,by omega⟩
 have hz:((((0:Int).toNat:Nat)):Int)=0:=rfl
 simp only [tQ,T.ah]
 refine (ak1 m N life next sure jobs log l8 l9 l10 ze hb (by omega) h1 h2 ze [] rfl Rm m (by omega) _ _).trans ?_
 simp only [List.length_nil]
 cases Q7 life next ze 0 ze with
 | false=>rfl
 | true =>
  simp only [cond_true,T.ak,hz,Bool.true_and]
  refine (ak3 m N life next sure jobs log l8 l9 l10 ze hb (by omega) Rm jobs [] rfl hj m (by omega) _ _).trans ?_
  cases jobs.all (aaQ ze) with
  | false=>simp only [Bool.false_and,Bool.and_false]; rfl
  | true =>
   simp only [cond_true,T.ak,hz,Bool.true_and]
   refine (ak2 m N life next sure jobs log l8 l9 l10 ze hb (by omega) log [] rfl hl m (by omega) _ _).trans ?_
   cases log.all (aaP ze) with
   | false=>rfl
   | true=>simp only [cond_true,T.ah,uE,Bool.true_and]; congr 2; exact decide_eq_decide.2 (by omega)
end
end Go.Proofs.YtpmbniddgaecpaaGreat

namespace Go.Proofs.YtpmbniddgaecpaaGreat
open Go Go.E Go.Proofs
def wT:Nat->List aQ->Bool
 | _,[]=>true
 | i,s::l=>(s.id==(i:Int))&&(uG s&&wT (i+1) l)
def AU (w:bO):Bool:=uD w.c.n w.c.life w.c.next w.c.jobs w.c.log w.c.sure&&(((w.aI.length:Int)==w.c.n)&&(wT 0 w.aI&&(DV w.aI.length w.net&&(DV w.aI.length w.outs&&V6 w))))
theorem LM {N life next sure:Int} {jobs:List iD} {log:List aZ} (h:uD N life next jobs log sure=true):(1<=life/\life<=900)/\(0<=next/\next<=999):=by
 unfold uD at h
 simp only [Bool.and_eq_true,decide_eq_true_eq] at h
 exact ⟨h.2.1,h.2.2.1⟩
theorem aaR (pre:List aQ) (x:aQ) (post:List aQ):(rS (pre++x::post)).getD (Int.toNat (pre.length:Int)) []=x.r:=by simp [List.getD]
theorem s0' (x:aQ):x.r.getD 0 dflt = .i x.id:=rfl
theorem s1' (x:aQ):x.r.getD 1 dflt = .l (rR x.log):=rfl
theorem s2' (x:aQ):x.r.getD 2 dflt = .i x.sure:=rfl
theorem s3' (x:aQ):x.r.getD 3 dflt = .l (rP x.map):=rfl
theorem s4' (x:aQ):x.r.getD 4 dflt = .l (rR x.held):=rfl
theorem akb (x:aQ):(x.r.drop 1).getD 0 dflt = .l (rR x.log):=rfl
theorem YT (m:Nat) (hm:3200100<=m) (x4 x5 x6 x7 x8 x9 x10 gy o9 pU:T) : ∀ (post pre:List aQ),(∀ s∈post,V3 s)->pre.length+post.length<=1048576->∀ n,post.length<n->∀ k0 k1,
  jW m n (.i 0) (.l (rS (pre++post))) (.i ((pre++post).length:Nat)) (.i pre.length) x4 x5 x6 x7 x8 x9 x10 gy o9 pU k0 k1=cond (wT pre.length post) (k1 (.i 0) x4 x5 x6 x7 x8 x9 x10 gy o9 pU) (k0 (.b false))
 | [],pre,ho,hs,n,hn,k0,k1=>by
  obtain ⟨n,rfl⟩ : ∃ m',n=m'+1:=⟨n-1,by omega⟩
  simp only [jW,T.ak,T.ah]
  rw [aH (by simp)]
  rfl
 | x::post,pre,ho,hs,n,hn,k0,k1=>by
  obtain ⟨n,rfl⟩ : ∃ m',n=m'+1:=⟨n-1,by omega⟩
  simp only [List.length_cons] at hs hn
  have ih:=YT m hm x4 x5 x6 x7 x8 x9 x10 gy o9 pU post (pre++[x]) (fun y hy=>ho y (by simp [hy])) (by simp; omega) n (by omega) k0 k1
  rw [aG,List.append_assoc,List.singleton_append,show (pre++[x]).length=pre.length+1 by simp] at ih
  have hz:((((0:Int).toNat:Nat)):Int)=0:=rfl
  simp only [jW,T.ak,T.ah,aaR,bA pre (by omega),s0',s1',s2',s3',s4',hz]
  rw [au (by simp <;> omega),au (by simp <;> omega),agy (by omega) x (ho x (by simp)),ih]
  simp only [T.aT]
  show _=cond ((x.id==(pre.length:Int))&&(uG x&&wT (pre.length+1) post)) _ _
  by_cases h:x.id=(pre.length:Int)
  ·rw [aD (by simp [h]),show (x.id==(pre.length:Int))=true by simp [h]]
   cases uG x <;> rfl
  ·rw [aO (by simp [h]),show (x.id==(pre.length:Int))=false by simp [h]]; rfl
theorem agC {m:Nat} (hm:3200200<=m) (w:bO) (h:CW w) (K:T->An) :
  yR m (.i w.c.n) (.i w.c.life) (.i w.c.next) (.l (rJ w.c.jobs)) (.l (rC w.c.log)) (.i w.c.sure) (.l (rS w.aI)) (.l (rW w.net)) (.l (rW w.outs)) (.l (rB w.begun)) K=K (.b (AU w)):=by
 obtain ⟨m,rfl⟩ : ∃ m',m=m'+1:=⟨m-1,by omega⟩
 simp only [yR,jn,T.ah,T.ak,p9]
 rw [agl (by omega) w.c.n w.c.life w.c.next w.c.sure w.c.jobs w.c.log h.jobs h.log]
 unfold AU
 cases hc:uD w.c.n w.c.life w.c.next w.c.jobs w.c.log w.c.sure with
 | false=>rfl
 | true =>
  obtain ⟨h1,h2⟩:=LM hc
  simp only [T.aT]
  rw [aD (by decide)]
  by_cases hn:(w.aI.length:Int)=w.c.n
  ·rw [aO (by simp [hn]),show ((w.aI.length:Int)==w.c.n)=true by simp [hn]]
   refine (YT m (by omega) _ _ _ _ _ _ _ _ _ _ w.aI [] h.sh (by simpa using h.shl) m (by have:=h.shl; omega) _ _).trans ?_
   simp only [List.length_nil]
   cases wT 0 w.aI with
   | false=>rfl
   | true =>
    simp only [cond_true,T.ah,Bool.true_and]
    rw [show (T.l [[.i w.c.n,.i w.c.life,.i w.c.next,.l (rJ w.c.jobs),.l (rC w.c.log),.i w.c.sure,.l (rS w.aI),.l (rW w.net),.l (rW w.outs),.l (rB w.begun)]])=T.l [za w] from rfl,YP (by omega) w w.net h.al6 h.net,YP (by omega) w w.outs h.al7 h.outs,agA m w h.ad8 (by omega) h1 h2 h.ze h.jobs.1 h.log]
    simp only [T.aT]
    cases DV w.aI.length w.net with
    | false=>rfl
    | true=>cases DV w.aI.length w.outs <;> rfl
  ·rw [aD (by simp [hn]),show ((w.aI.length:Int)==w.c.n)=false by simp [hn]]; rfl
theorem YU (m:Nat) (hm:3200100<=m) (x2 x3 x4 x5 x6 x7 x9 x10 gy:T) : ∀ (post pre:List aQ),(∀ s∈post,V3 s)->pre.length+post.length<=1048576->∀ n,post.length<n->∀ k0 k1,
  jO m n (.i 0) (.i pre.length) x2 x3 x4 x5 x6 x7 (.l (rS (pre++post))) x9 x10 gy k0 k1=cond (wT pre.length post) k1 (k0 (.b false))
 | [],pre,ho,hs,n,hn,k0,k1=>by
  obtain ⟨n,rfl⟩ : ∃ m',n=m'+1:=⟨n-1,by omega⟩
  simp only [jO,T.ak,T.ah]
  rw [aH (by simp)]
  rfl
 | x::post,pre,ho,hs,n,hn,k0,k1=>by
  obtain ⟨n,rfl⟩ : ∃ m',n=m'+1:=⟨n-1,by omega⟩
  simp only [List.length_cons] at hs hn
  have ih:=YU m hm x2 x3 x4 x5 x6 x7 x9 x10 gy post (pre++[x]) (fun y hy=>ho y (by simp [hy])) (by simp; omega) n (by omega) k0 k1
  rw [aG,List.append_assoc,List.singleton_append,show (pre++[x]).length=pre.length+1 by simp] at ih
  have hz:((((0:Int).toNat:Nat)):Int)=0:=rfl
  have d1:decide ((0:Int)<=(pre.length:Int)/\(pre.length:Int)<((rS (pre++x::post)).length:Int))=true:=decide_eq_true (by simp; omega)
  simp only [jO,T.ak,T.ah,aaR,bA pre (by omega),s0',s1',s2',s3',s4',hz,d1,cond_true]
  rw [au (by simp <;> omega),agz (by omega) x (ho x (by simp)),ih]
  simp only [T.aT]
  show _=cond ((x.id==(pre.length:Int))&&(uG x&&wT (pre.length+1) post)) _ _
  by_cases h:x.id=(pre.length:Int)
  ·rw [aD (by simp [h]),show (x.id==(pre.length:Int))=true by simp [h]]
   cases uG x <;> rfl
  ·rw [aO (by simp [h]),show (x.id==(pre.length:Int))=false by simp [h]]; rfl
theorem agD {m:Nat} (hm:3200200<=m) (w:bO) (h:CW w) (K:T->An) :
  yL m (.i w.c.n) (.i w.c.life) (.i w.c.next) (.l (rJ w.c.jobs)) (.l (rC w.c.log)) (.i w.c.sure) (.l (rS w.aI)) (.l (rW w.net)) (.l (rW w.outs)) (.l (rB w.begun)) K=K (.b (AU w)):=by
 obtain ⟨m,rfl⟩ : ∃ m',m=m'+1:=⟨m-1,by omega⟩
 simp only [yL,jn,T.ah,T.ak,p9]
 rw [agk (by omega) w.c.n w.c.life w.c.next w.c.sure w.c.jobs w.c.log h.jobs h.log]
 unfold AU
 cases hc:uD w.c.n w.c.life w.c.next w.c.jobs w.c.log w.c.sure with
 | false=>rfl
 | true =>
  obtain ⟨h1,h2⟩:=LM hc
  simp only [T.aT]
  rw [aD (by decide)]
  by_cases hn:(w.aI.length:Int)=w.c.n
  ·rw [aD (by simp [hn]),show ((w.aI.length:Int)==w.c.n)=true by simp [hn],YQ (by omega) _ _ _ _ _ _ _ _ _ w.aI w.net h.al6 h.net,YQ (by omega) _ _ _ _ _ _ _ _ _ w.aI w.outs h.al7 h.outs,
    agB m w.c.n w.c.life w.c.next w.c.sure w.c.jobs w.c.log _ _ _ w.begun h.ad8 (by omega) h1 h2 h.ze h.jobs.1 h.log]
   have e:(Q7 w.c.life w.c.next w.begun 0 w.begun&&(w.c.log.all (aaP w.begun)&&(w.c.jobs.all (aaQ w.begun)&&decide (w.begun.length<=1000))))=V6 w:=rfl
   rw [e]
   have hl:=YU m (by omega) (.i w.c.n) (.i w.c.life) (.i w.c.next) (.l (rJ w.c.jobs)) (.l (rC w.c.log)) (.i w.c.sure) (.l (rW w.net)) (.l (rW w.outs)) (.l (rB w.begun)) w.aI [] h.sh (by simpa using h.shl) m (by have:=h.shl; omega) (fun y8=>K y8) (K (.b true))
   simp only [T.aT]
   cases DV w.aI.length w.net with
   | false=>simp only [Bool.false_and,Bool.and_false,Bool.true_and]; rfl
   | true =>
    cases DV w.aI.length w.outs with
    | false=>simp only [Bool.false_and,Bool.and_false,Bool.true_and]; rfl
    | true =>
     cases V6 w with
     | false=>simp only [Bool.false_and,Bool.and_false,Bool.true_and]; rfl
     | true =>
      refine hl.trans ?_
      simp only [List.length_nil]
      cases wT 0 w.aI <;> rfl
  ·rw [aO (by simp [hn]),show ((w.aI.length:Int)==w.c.n)=false by simp [hn]]; rfl
end Go.Proofs.YtpmbniddgaecpaaGreat

namespace Go.Proofs.YtpmbniddgaecpaaGreat
open Go Go.E Go.Proofs
theorem hz0:((((0:Int).toNat:Nat)):Int)=0:=rfl
def DW (first kind tx:Int):Nat->List bK->Bool
 | _,[]=>false
 | i,r::l=>decide ((i:Int)<first)&&(((r.kind==kind)&&(r.tx==tx))||DW first kind tx (i+1) l)
theorem YV (m:Nat) (first kind tx:Int) : ∀ (post pre:List bK),pre.length+post.length<=1048576->∀ n,post.length<n->∀ k0 k1,
  gH m n (.l (rR (pre++post))) (.i first) (.i kind) (.i tx) (.i pre.length) k0 k1=cond (DW first kind tx pre.length post) (k0 (.b true)) k1
 | [],pre,hs,n,hn,k0,k1=>by
  obtain ⟨n,rfl⟩ : ∃ m',n=m'+1:=⟨n-1,by omega⟩
  simp only [gH,jn,T.ak,T.ah]
  by_cases h:(pre.length:Int)<first
  ·rw [aD (by simp [h]),aH (by simp)]; rfl
  ·rw [aO (by simp [h])]; rfl
 | x::post,pre,hs,n,hn,k0,k1=>by
  obtain ⟨n,rfl⟩ : ∃ m',n=m'+1:=⟨n-1,by omega⟩
  simp only [List.length_cons] at hs hn
  have ih:=YV m first kind tx post (pre++[x]) (by simp; omega) n (by omega) k0 k1
  rw [aG,List.append_assoc,List.singleton_append,show (pre++[x]).length=pre.length+1 by simp] at ih
  have d1:decide ((0:Int)<=(pre.length:Int)/\(pre.length:Int)<((rR (pre++x::post)).length:Int))=true:=decide_eq_true (by simp; omega)
  simp only [gH,jn,T.ak,T.ah,ixR,bA pre (by omega),r0,rd1,d1,cond_true]
  show _=cond (decide ((pre.length:Int)<first)&&(((x.kind==kind)&&(x.tx==tx))||DW first kind tx (pre.length+1) post)) _ _
  by_cases h:(pre.length:Int)<first
  ·rw [aD (by simp [h]),au (by simp; omega),decide_eq_true h,ih]
   by_cases h1:x.kind=kind
   ·rw [aD (by simp [h1]),show (x.kind==kind)=true by simp [h1]]
    by_cases h2:x.tx=tx
    ·rw [aD (by simp [h2]),show (x.tx==tx)=true by simp [h2]]; rfl
    ·rw [aO (by simp [h2]),show (x.tx==tx)=false by simp [h2]]; rfl
   ·rw [aO (by simp [h1]),show (x.kind==kind)=false by simp [h1]]; rfl
  ·rw [aO (by simp [h]),decide_eq_false h]; rfl
def Hq (l:List bK) (first kind tx:Int):Bool:=DW first kind tx 0 l
theorem MK {m:Nat} (hm:1048600<=m) (l:List bK) (first kind tx:Int) (hl:l.length<=1048576) (K:T->An):qA m (.l (rR l)) (.i first) (.i kind) (.i tx) K=K (.b (Hq l first kind tx)):=by
 obtain ⟨m,rfl⟩ : ∃ m',m=m'+1:=⟨m-1,by omega⟩
 simp only [qA,T.ah]
 refine (YV m first kind tx l [] (by simpa using hl) m (by omega) _ _).trans ?_
 unfold Hq
 simp only [List.length_nil]
 cases DW first kind tx 0 l <;> rfl
def YW (sh:List aQ) (tx:Int):Bool:=sh.any fun s=>Hq s.log s.log.length 3 tx
def aec (sh:List aQ) (r:bK):Bool:=!(r.kind==2) || !YW sh r.tx
def wU (sh:List aQ):Bool:=sh.all fun s=>s.log.all (aec sh)
theorem ns2 (m:Nat) (hm:1048600<=m) (x1 x5 x6 x7 x8 x9 x10 o9 pU PO:T) (rp rq:List bK) (r:bK) (sh:List aQ) (hrl:rp.length<=1048576) : ∀ (post pre:List aQ),sh=pre++post->(∀ s∈post,s.log.length<=1048576)->sh.length<=1048576->∀ n,post.length<n->∀ k0 k1,
  jP m n (.i 0) x1 (.l (rR (rp++r::rq))) (.i rp.length) (.i pre.length) x5 x6 x7 x8 x9 x10 (.l (rS sh)) o9 pU PO k0 k1=cond ((r.kind==2)&&YW post r.tx) (k0 (.b false)) (k1 (.i 0) x1 (.l (rR (rp++r::rq))) (.i rp.length) x5 x6 x7 x8 x9 x10 (.l (rS sh)) o9 pU PO)
 | [],pre,e,ho,hs,n,hn,k0,k1=>by
  obtain ⟨n,rfl⟩ : ∃ m',n=m'+1:=⟨n-1,by omega⟩
  simp only [jP,jn,T.ak,T.ah,p9]
  rw [aO (by rw [e]; simp)]
  simp [YW]
 | x::post,pre,e,ho,hs,n,hn,k0,k1=>by
  obtain ⟨n,rfl⟩ : ∃ m',n=m'+1:=⟨n-1,by omega⟩
  simp only [List.length_cons] at hn
  have hlen:sh.length=pre.length+(post.length+1):=by rw [e]; simp
  have ih:=ns2 m hm x1 x5 x6 x7 x8 x9 x10 o9 pU PO rp rq r sh hrl post (pre++[x]) (by rw [e]; simp) (fun s h=>ho s (by simp [h])) hs n (by omega) k0 k1
  rw [aG] at ih
  have hx:(rS sh).getD (Int.toNat (pre.length:Int)) []=x.r:=by rw [e]; exact aaR _ _ _
  have d1:decide ((0:Int)<=(pre.length:Int)/\(pre.length:Int)<(sh.length:Int))=true:=decide_eq_true (by omega)
  have d2:decide ((0:Int)<=(rp.length:Int)/\(rp.length:Int)<((rp++r::rq).length:Int))=true:=decide_eq_true (by simp; omega)
  have dd:decide ((pre.length:Int)<(sh.length:Int))=true:=decide_eq_true (by omega)
  simp only [jP,jn,T.ak,T.ah,hx,ixR,bA pre (by omega),r0,rd1,akb,p9,d1,d2,dd,cond_true,hz0,lV]
  rw [aD (by rfl),MK (by omega) x.log _ _ _ (ho x (by simp)),ih]
  simp only [T.aT]
  by_cases h:r.kind=2
  ·rw [aD (by simp [h]),show (r.kind==2)=true by simp [h]]
   show cond (Hq x.log x.log.length 3 r.tx) _ _=cond (true&&(Hq x.log x.log.length 3 r.tx||YW post r.tx)) _ _
   cases Hq x.log x.log.length 3 r.tx <;> rfl
  ·rw [aO (by simp [h]),show (r.kind==2)=false by simp [h]]; rfl
theorem ns1 (m:Nat) (hm:1048600<=m) (x1 x4 x5 x6 x7 x8 x9 gy o9 pU:T) (sh:List aQ) (hs:sh.length<=1048576) (ho : ∀ s∈sh,s.log.length<=1048576) : ∀ (post pre:List bK),pre.length+post.length<=1048576->∀ n,post.length+sh.length+1<n->∀ k0 k1,
  jQ m n (.i 0) x1 (.l (rR (pre++post))) (.i pre.length) x4 x5 x6 x7 x8 x9 (.l (rS sh)) gy o9 pU k0 k1=cond (post.all (aec sh)) (k1 (.i 0) x1 x4 x5 x6 x7 x8 x9 (.l (rS sh)) gy o9 pU) (k0 (.b false))
 | [],pre,hl,n,hn,k0,k1=>by
  obtain ⟨n,rfl⟩ : ∃ m',n=m'+1:=⟨n-1,by omega⟩
  simp only [jQ,T.ak,T.ah]
  rw [aH (by simp)]
  rfl
 | r::post,pre,hl,n,hn,k0,k1=>by
  obtain ⟨n,rfl⟩ : ∃ m',n=m'+1:=⟨n-1,by omega⟩
  simp only [List.length_cons] at hn hl
  have ih:=ns1 m hm x1 x4 x5 x6 x7 x8 x9 gy o9 pU sh hs ho post (pre++[r]) (by simp; omega) n (by omega) k0 k1
  rw [aG,List.append_assoc,List.singleton_append] at ih
  simp only [jQ,T.ak,T.ah,hz0]
  rw [au (by simp; omega)]
  have l2:=ns2 m hm x1 x4 x5 x6 x7 x8 x9 gy o9 pU pre post r sh (by omega) sh [] rfl ho hs n (by omega) k0
  simp only [List.length_nil,Int.natCast_zero] at l2
  refine (l2 _).trans ?_
  simp only [T.ak,hz0,bA pre (by omega),List.all_cons]
  rw [ih]
  unfold aec
  cases (r.kind==2) <;> cases YW sh r.tx <;> rfl
theorem ns0 (m:Nat) (hm:1048600<=m) (x2 x3 x4 x5 x6 x7 x9 x10 gy:T) (sh:List aQ) (hs:sh.length<=1048576) (ho : ∀ s∈sh,s.log.length<=1048576) : ∀ (post pre:List aQ),sh=pre++post->∀ n,post.length+1048576+sh.length+2<n->∀ k0 k1,
  jR m n (.i 0) (.i pre.length) x2 x3 x4 x5 x6 x7 (.l (rS sh)) x9 x10 gy k0 k1=cond (post.all fun s=>s.log.all (aec sh)) k1 (k0 (.b false))
 | [],pre,e,n,hn,k0,k1=>by
  obtain ⟨n,rfl⟩ : ∃ m',n=m'+1:=⟨n-1,by omega⟩
  simp only [jR,T.ak,T.ah,p9]
  rw [aH (by rw [e]; simp)]
  rfl
 | x::post,pre,e,n,hn,k0,k1=>by
  obtain ⟨n,rfl⟩ : ∃ m',n=m'+1:=⟨n-1,by omega⟩
  simp only [List.length_cons] at hn
  have hlen:sh.length=pre.length+(post.length+1):=by rw [e]; simp
  have ih:=ns0 m hm x2 x3 x4 x5 x6 x7 x9 x10 gy sh hs ho post (pre++[x]) (by rw [e]; simp) n (by omega) k0 k1
  rw [aG] at ih
  have hx:(rS sh).getD (Int.toNat (pre.length:Int)) []=x.r:=by rw [e]; exact aaR _ _ _
  have hxl:x.log.length<=1048576:=ho x (by rw [e]; simp)
  simp only [jR,T.ak,T.ah,hx,akb,p9,hz0]
  rw [au (by omega),au (by omega)]
  have l1:=ns1 m hm (.i pre.length) x2 x3 x4 x5 x6 x7 x9 x10 gy sh hs ho x.log [] (by simpa using hxl) n (by omega) k0
  simp only [List.length_nil,Int.natCast_zero,List.nil_append] at l1
  refine (l1 _).trans ?_
  simp only [T.ak,hz0,bA pre (by omega),List.all_cons]
  rw [ih]
  cases x.log.all (aec sh) <;> rfl
theorem acZ {m:Nat} (hm:4000000<=m) (x0 x1 x2 x5:T) (l3 l4 l7 l8 l9:List (List T)) (sh:List aQ) (hs:sh.length<=1048576) (ho : ∀ s∈sh,s.log.length<=1048576) (K:T->An) :
  yM m x0 x1 x2 (.l l3) (.l l4) x5 (.l (rS sh)) (.l l7) (.l l8) (.l l9) K=K (.b (wU sh)):=by
 obtain ⟨m,rfl⟩ : ∃ m',m=m'+1:=⟨m-1,by omega⟩
 simp only [yM,T.ah]
 refine (ns0 m (by omega) x0 x1 x2 (.l l3) (.l l4) x5 (.l l7) (.l l8) (.l l9) sh hs ho sh [] rfl m (by omega) _ _).trans ?_
 unfold wU
 cases sh.all fun s=>s.log.all (aec sh) <;> rfl
theorem V7 (first kind tx:Int) : ∀ (l:List bK) (i:Nat),((i+l.length:Nat):Int)<=first->DW first kind tx i l=l.any fun r=>(r.kind==kind)&&(r.tx==tx)
 | [],i,h=>rfl
 | r::l,i,h=>by
  simp only [List.length_cons] at h
  unfold DW
  rw [decide_eq_true (by omega),V7 first kind tx l (i+1) (by omega)]
  rfl
theorem aiP (l:List bK) (kind tx:Int):Hq l l.length kind tx=l.any fun r=>(r.kind==kind)&&(r.tx==tx):=V7 _ _ _ l 0 (by simp)
def nsP (sh:List aQ):List (Int×Int):=sh.flatMap fun s=>s.log.map fun r=>(r.kind,r.tx)
theorem agE (sh:List aQ):uX (rS sh)=nsP sh:=by
 unfold uX nsP
 rw [List.flatMap_map]
 congr 1
 funext s
 show Ms s.r=_
 show (rR s.log).map abS=_
 rw [List.map_map]
 rfl
theorem amh (sh:List aQ):nsB (nsP sh)=wU sh:=by
 rw [Bool.eq_iff_iff]
 unfold nsB wU aec YW YA nsP
 simp only [List.all_eq_true,List.mem_map,List.mem_filter,List.mem_flatMap,Bool.or_eq_true,Bool.not_eq_true',List.any_eq_false,aiP,Bool.and_eq_true,beq_iff_eq,beq_eq_false_iff_ne]
 constructor
 ·intro h s hs r hr
  by_cases hk:r.kind=2
  ·right
   intro s' hs' h2
   rw [List.any_eq_true] at h2
   obtain ⟨r',hr',h3⟩:=h2
   simp only [Bool.and_eq_true,beq_iff_eq] at h3
   have:=h r.tx ⟨(r.kind,r.tx),⟨⟨s,hs,r,hr,rfl⟩,hk⟩,rfl⟩
   rw [<-Bool.not_eq_true] at this
   exact this (by rw [List.contains_iff_mem]; exact List.mem_map.2 ⟨(r'.kind,r'.tx),by simp only [List.mem_filter,List.mem_flatMap,List.mem_map,beq_iff_eq]; exact ⟨⟨s',hs',r',hr',rfl⟩,h3.1⟩,h3.2⟩)
  ·exact .inl hk
 ·rintro h x ⟨⟨k,t⟩,⟨⟨s,hs,r,hr,e⟩,hk⟩,rfl⟩
  cases e
  rcases h s hs r hr with h1 | h1
  ·exact absurd hk h1
  ·rw [<-Bool.not_eq_true,List.contains_iff_mem]
   intro hx
   obtain ⟨⟨k',t'⟩,h2,h3⟩:=List.mem_map.1 hx
   simp only [List.mem_filter,List.mem_flatMap,List.mem_map,beq_iff_eq] at h2
   obtain ⟨⟨s',hs',r',hr',e'⟩,hk'⟩:=h2
   cases e'
   exact h1 s' hs' (by rw [List.any_eq_true]; exact ⟨r',hr',by simp only [Bool.and_eq_true,beq_iff_eq]; exact ⟨hk',h3⟩⟩)
theorem ac0 {m:Nat} (hm:1<=m) (x0 x1 x2 x3 x4 x5 x7 x8 x9:T) (sh:List aQ) (hl:(nsP sh).length<=aS) (K:T->An):yx m x0 x1 x2 x3 x4 x5 (.l (rS sh)) x7 x8 x9 K=K (.b (wU sh)):=by
 obtain ⟨m,rfl⟩ : ∃ m',m=m'+1:=⟨m-1,by omega⟩
 simp only [yx,T.ah,agE,amh]
 rw [au hl]
end Go.Proofs.YtpmbniddgaecpaaGreat

namespace Go.Proofs.YtpmbniddgaecpaaGreat
open Go Go.E Go.Proofs
def Qd (sure tx:Int):Nat->List aZ->Bool
 | _,[]=>false
 | i,c::l=>((c.tx==tx)&&(c.yes&&decide ((i:Int)<sure)))||Qd sure tx (i+1) l
theorem ac1 (sure tx:Int) : ∀ (l:List aZ) (i:Nat),¬ (i:Int)<sure->Qd sure tx i l=false
 | [],i,h=>rfl
 | c::l,i,h=>by
  unfold Qd
  rw [decide_eq_false h,ac1 sure tx l (i+1) (by omega),Bool.and_false,Bool.and_false]
  rfl
theorem cd1 (x:aZ):(x.r.drop 1).getD 0 dflt = .b x.yes:=rfl
theorem afx (m:Nat) (w:bO) (tx:Int) : ∀ (post pre:List aZ),pre.length+post.length<=1048576->∀ n,post.length<n->∀ k0 k1,
  bT m n (.l [za w]) (.i tx) (.l (rC (pre++post))) (.i ((pre++post).length:Nat)) (.i pre.length) k0 k1=cond (Qd w.c.sure tx pre.length post) (k0 (.b true)) k1
 | [],pre,hs,n,hn,k0,k1=>by
  obtain ⟨n,rfl⟩ : ∃ m',n=m'+1:=⟨n-1,by omega⟩
  simp only [bT,T.ak,T.ah]
  rw [aH (by simp)]
  rfl
 | x::post,pre,hs,n,hn,k0,k1=>by
  obtain ⟨n,rfl⟩ : ∃ m',n=m'+1:=⟨n-1,by omega⟩
  simp only [List.length_cons] at hs hn
  have ih:=afx m w tx post (pre++[x]) (by simp; omega) n (by omega) k0 k1
  rw [aG,List.append_assoc,List.singleton_append,show (pre++[x]).length=pre.length+1 by simp] at ih
  simp only [bT,T.ak,T.ah,ixC,bA pre (by omega),c0,c1,T.aT,qL,wr5]
  rw [au (by simp; omega),au (by simp; omega),ih]
  show _=cond (((x.tx==tx)&&(x.yes&&decide ((pre.length:Int)<w.c.sure)))||Qd w.c.sure tx (pre.length+1) post) _ _
  cases (x.tx==tx) <;> cases x.yes <;> cases decide ((pre.length:Int)<w.c.sure) <;> rfl
def SG (w:bO) (tx:Int):Bool:=Qd w.c.sure tx 0 w.c.log
theorem aed {m:Nat} (hm:1048600<=m) (w:bO) (tx:Int) (hl:w.c.log.length<=1048576) (K:T->An):nL m (.l [za w]) (.i tx) K=K (.b (SG w tx)):=by
 obtain ⟨m,rfl⟩ : ∃ m',m=m'+1:=⟨m-1,by omega⟩
 simp only [nL,qL,wr4,T.ah,vI]
 refine (afx m w tx w.c.log [] (by simpa using hl) m (by omega) _ _).trans ?_
 unfold SG
 simp only [List.length_nil]
 cases Qd w.c.sure tx 0 w.c.log <;> rfl
theorem anY (m:Nat) (x3 x4 x5 x6:T) (sure tx:Int) : ∀ (post pre:List aZ),pre.length+post.length<=1048576->∀ n,post.length<n->∀ k0 k1,
  iZ m n (.i tx) (.i 0) (.i pre.length) x3 x4 x5 x6 (.l (rC (pre++post))) (.i sure) k0 k1=cond (Qd sure tx pre.length post) (k0 (.b true)) k1
 | [],pre,hs,n,hn,k0,k1=>by
  obtain ⟨n,rfl⟩ : ∃ m',n=m'+1:=⟨n-1,by omega⟩
  simp only [iZ,jn,T.ak,T.ah]
  rw [aO (by simp)]
  rfl
 | x::post,pre,hs,n,hn,k0,k1=>by
  obtain ⟨n,rfl⟩ : ∃ m',n=m'+1:=⟨n-1,by omega⟩
  simp only [List.length_cons] at hs hn
  have ih:=anY m x3 x4 x5 x6 sure tx post (pre++[x]) (by simp; omega) n (by omega) k0 k1
  rw [aG,List.append_assoc,List.singleton_append,show (pre++[x]).length=pre.length+1 by simp] at ih
  have d1:decide ((0:Int)<=(pre.length:Int)/\(pre.length:Int)<((rC (pre++x::post)).length:Int))=true:=decide_eq_true (by simp; omega)
  simp only [iZ,jn,T.ak,T.ah,ixC,bA pre (by omega),c0,cd1,T.aT,hz0,d1,cond_true]
  rw [aD (by simp; omega),ih]
  by_cases h:(pre.length:Int)<sure
  ·rw [au h]
   show _=cond (((x.tx==tx)&&(x.yes&&decide ((pre.length:Int)<sure)))||Qd sure tx (pre.length+1) post) _ _
   rw [decide_eq_true h]
   cases (x.tx==tx) <;> cases x.yes <;> rfl
  ·rw [aH h,ac1 _ _ _ _ h]; rfl
theorem aiQ {m:Nat} (hm:1048600<=m) (x0 x1 x2:T) (l3:List (List T)) (log:List aZ) (sure tx:Int) (hl:log.length<=1048576) (K:T->An):BS m x0 x1 x2 (.l l3) (.l (rC log)) (.i sure) (.i tx) K=K (.b (Qd sure tx 0 log)):=by
 obtain ⟨m,rfl⟩ : ∃ m',m=m'+1:=⟨m-1,by omega⟩
 simp only [BS,T.ah]
 refine (anY m x0 x1 x2 (.l l3) sure tx log [] (by simpa using hl) m (by omega) _ _).trans ?_
 simp only [List.length_nil]
 cases Qd sure tx 0 log <;> rfl
def bk1 (w:bO) (r:bK):Bool:=!(r.kind==2)||SG w r.tx
def Gz (w:bO):Bool:=w.aI.all fun s=>s.log.all (bk1 w)
section
variable (m:Nat) (hm:1048700<=m) (w:bO) (hw:CW w)
include hm hw
theorem aiR (x1 x2 x3:T) : ∀ (post pre:List bK),pre.length+post.length<=1048576->∀ n,post.length<n->∀ k0 k1,
  lC m n (.i 0) x1 x2 x3 (.l (rR (pre++post))) (.i ((pre++post).length:Nat)) (.i pre.length) (.i w.c.n) (.i w.c.life) (.i w.c.next) (.l (rJ w.c.jobs)) (.l (rC w.c.log)) (.i w.c.sure) (.l (rS w.aI)) (.l (rW w.net)) (.l (rW w.outs)) (.l (rB w.begun)) k0 k1 =
   cond (post.all (bk1 w)) (k1 (.i 0) x1 x2 x3 (.i w.c.n) (.i w.c.life) (.i w.c.next) (.l (rJ w.c.jobs)) (.l (rC w.c.log)) (.i w.c.sure) (.l (rS w.aI)) (.l (rW w.net)) (.l (rW w.outs)) (.l (rB w.begun))) (k0 (.b false))
 | [],pre,hs,n,hn,k0,k1=>by
  obtain ⟨n,rfl⟩ : ∃ m',n=m'+1:=⟨n-1,by omega⟩
  simp only [lC,T.ak,T.ah]
  rw [aH (by simp)]
  rfl
 | x::post,pre,hs,n,hn,k0,k1=>by
  obtain ⟨n,rfl⟩ : ∃ m',n=m'+1:=⟨n-1,by omega⟩
  simp only [List.length_cons] at hs hn
  have ih:=aiR x1 x2 x3 post (pre++[x]) (by simp; omega) n (by omega) k0 k1
  rw [aG,List.append_assoc,List.singleton_append] at ih
  simp only [lC,T.ak,T.ah,ixR,bA pre (by omega),r0,r1,hz0]
  rw [au (by simp; omega),au (by simp; omega),show (T.l [[.i w.c.n,.i w.c.life,.i w.c.next,.l (rJ w.c.jobs),.l (rC w.c.log),.i w.c.sure,.l (rS w.aI),.l (rW w.net),.l (rW w.outs),.l (rB w.begun)]])=T.l [za w] from rfl,aed (by omega) w x.tx hw.log,ih]
  simp only [T.aT,List.all_cons,bk1]
  cases (x.kind==2) <;> cases SG w x.tx <;> rfl
theorem aiS : ∀ (post pre:List aQ),(∀ s∈post,s.log.length<=1048576)->pre.length+post.length<=1048576->∀ n,post.length+1048576+1<n->∀ k0 k1,
  lD m n (.i 0) (.l (rS (pre++post))) (.i ((pre++post).length:Nat)) (.i pre.length) (.i w.c.n) (.i w.c.life) (.i w.c.next) (.l (rJ w.c.jobs)) (.l (rC w.c.log)) (.i w.c.sure) (.l (rS w.aI)) (.l (rW w.net)) (.l (rW w.outs)) (.l (rB w.begun)) k0 k1 =
   cond (post.all fun s=>s.log.all (bk1 w)) k1 (k0 (.b false))
 | [],pre,ho,hs,n,hn,k0,k1=>by
  obtain ⟨n,rfl⟩ : ∃ m',n=m'+1:=⟨n-1,by omega⟩
  simp only [lD,T.ak,T.ah]
  rw [aH (by simp)]
  rfl
 | x::post,pre,ho,hs,n,hn,k0,k1=>by
  obtain ⟨n,rfl⟩ : ∃ m',n=m'+1:=⟨n-1,by omega⟩
  simp only [List.length_cons] at hs hn
  have hx:=ho x (by simp)
  have ih:=aiS post (pre++[x]) (fun s h=>ho s (by simp [h])) (by simp; omega) n (by omega) k0 k1
  rw [aG,List.append_assoc,List.singleton_append] at ih
  simp only [lD,T.ak,T.ah,aaR,s1',hz0,lV]
  rw [au (by simp; omega),au (by simp; omega)]
  have l1:=aiR m hm w hw (.l (rS (pre++x::post))) (.i ((pre++x::post).length:Nat)) (.i pre.length) x.log [] (by simpa using hx) n (by omega) k0
  simp only [List.nil_append,List.length_nil,Int.natCast_zero] at l1
  refine (l1 _).trans ?_
  simp only [T.ak,hz0,bA pre (by omega),List.all_cons]
  rw [ih]
  cases x.log.all (bk1 w) <;> rfl
end
theorem aee {m:Nat} (hm:2200000<=m) (w:bO) (hw:CW w) (K:T->An) :
  Cg m (.i w.c.n) (.i w.c.life) (.i w.c.next) (.l (rJ w.c.jobs)) (.l (rC w.c.log)) (.i w.c.sure) (.l (rS w.aI)) (.l (rW w.net)) (.l (rW w.outs)) (.l (rB w.begun)) K=K (.b (Gz w)):=by
 obtain ⟨m,rfl⟩ : ∃ m',m=m'+1:=⟨m-1,by omega⟩
 simp only [Cg,T.ah,p9]
 refine (aiS m (by omega) w hw w.aI [] (fun s h=>(hw.sh s h).log) (by simpa using hw.shl) m (by have:=hw.shl; omega) _ _).trans ?_
 unfold Gz
 cases w.aI.all fun s=>s.log.all (bk1 w) <;> rfl
section
variable (m:Nat) (hm:1048700<=m) (w:bO) (hw:CW w)
include hm hw
theorem aiT (x1:T) : ∀ (post pre:List bK),pre.length+post.length<=1048576->∀ n,post.length<n->∀ k0 k1,
  kZ m n (.i 0) x1 (.l (rR (pre++post))) (.i pre.length) (.i w.c.n) (.i w.c.life) (.i w.c.next) (.l (rJ w.c.jobs)) (.l (rC w.c.log)) (.i w.c.sure) (.l (rS w.aI)) (.l (rW w.net)) (.l (rW w.outs)) (.l (rB w.begun)) k0 k1 =
   cond (post.all (bk1 w)) (k1 (.i 0) x1 (.i w.c.n) (.i w.c.life) (.i w.c.next) (.l (rJ w.c.jobs)) (.l (rC w.c.log)) (.i w.c.sure) (.l (rS w.aI)) (.l (rW w.net)) (.l (rW w.outs)) (.l (rB w.begun))) (k0 (.b false))
 | [],pre,hs,n,hn,k0,k1=>by
  obtain ⟨n,rfl⟩ : ∃ m',n=m'+1:=⟨n-1,by omega⟩
  simp only [kZ,T.ak,T.ah]
  rw [aH (by simp)]
  rfl
 | x::post,pre,hs,n,hn,k0,k1=>by
  obtain ⟨n,rfl⟩ : ∃ m',n=m'+1:=⟨n-1,by omega⟩
  simp only [List.length_cons] at hs hn
  have ih:=aiT x1 post (pre++[x]) (by simp; omega) n (by omega) k0 k1
  rw [aG,List.append_assoc,List.singleton_append] at ih
  have d1:decide ((0:Int)<=(pre.length:Int)/\(pre.length:Int)<((rR (pre++x::post)).length:Int))=true:=decide_eq_true (by simp; omega)
  simp only [kZ,T.ak,T.ah,ixR,bA pre (by omega),r0,rd1,hz0,d1,cond_true]
  rw [au (by simp; omega),aiQ (by omega) _ _ _ _ w.c.log w.c.sure x.tx hw.log,ih]
  simp only [T.aT,List.all_cons,bk1]
  show _=cond ((!(x.kind==2)||Qd w.c.sure x.tx 0 w.c.log)&&_) _ _
  cases (x.kind==2) <;> cases Qd w.c.sure x.tx 0 w.c.log <;> rfl
theorem aiU : ∀ (post pre:List aQ),w.aI=pre++post->∀ n,post.length+1048576+1<n->∀ k0 k1,
  lg m n (.i 0) (.i pre.length) (.i w.c.n) (.i w.c.life) (.i w.c.next) (.l (rJ w.c.jobs)) (.l (rC w.c.log)) (.i w.c.sure) (.l (rS w.aI)) (.l (rW w.net)) (.l (rW w.outs)) (.l (rB w.begun)) k0 k1 =
   cond (post.all fun s=>s.log.all (bk1 w)) k1 (k0 (.b false))
 | [],pre,e,n,hn,k0,k1=>by
  obtain ⟨n,rfl⟩ : ∃ m',n=m'+1:=⟨n-1,by omega⟩
  simp only [lg,T.ak,T.ah,p9]
  rw [aH (by rw [e]; simp)]
  rfl
 | x::post,pre,e,n,hn,k0,k1=>by
  obtain ⟨n,rfl⟩ : ∃ m',n=m'+1:=⟨n-1,by omega⟩
  simp only [List.length_cons] at hn
  have hlen:w.aI.length=pre.length+(post.length+1):=by rw [e]; simp
  have hsl:=hw.shl
  have hx:=(hw.sh x (by rw [e]; simp)).log
  have ih:=aiU post (pre++[x]) (by rw [e]; simp) n (by omega) k0 k1
  rw [aG] at ih
  have hxx:(rS w.aI).getD (Int.toNat (pre.length:Int)) []=x.r:=by rw [e]; exact aaR _ _ _
  simp only [lg,T.ak,T.ah,hxx,akb,hz0,p9]
  rw [au (by omega),au (by omega)]
  have l1:=aiT m hm w hw (.i pre.length) x.log [] (by simpa using hx) n (by omega) k0
  simp only [List.nil_append,List.length_nil,Int.natCast_zero] at l1
  refine (l1 _).trans ?_
  simp only [T.ak,hz0,bA pre (by omega),List.all_cons]
  rw [ih]
  cases x.log.all (bk1 w) <;> rfl
end
theorem aef {m:Nat} (hm:2200000<=m) (w:bO) (hw:CW w) (K:T->An) :
  BU m (.i w.c.n) (.i w.c.life) (.i w.c.next) (.l (rJ w.c.jobs)) (.l (rC w.c.log)) (.i w.c.sure) (.l (rS w.aI)) (.l (rW w.net)) (.l (rW w.outs)) (.l (rB w.begun)) K=K (.b (Gz w)):=by
 obtain ⟨m,rfl⟩ : ∃ m',m=m'+1:=⟨m-1,by omega⟩
 simp only [BU,T.ah]
 refine (aiU m (by omega) w hw w.aI [] rfl m (by have:=hw.shl; omega) _ _).trans ?_
 unfold Gz
 cases w.aI.all fun s=>s.log.all (bk1 w) <;> rfl
end Go.Proofs.YtpmbniddgaecpaaGreat

namespace Go.Proofs.YtpmbniddgaecpaaGreat
open Go Go.E Go.Proofs
theorem ac2 {α:Type} {f:α->α->Bool} (hf : ∀ x y,f x y=f y x) : ∀ a b:List α,AR f a b=AR f b a
 | [],[]=>rfl
 | x::a,y::b=>by unfold AR; rw [hf x y,ac2 hf a b]
 | [],_::_=>rfl
 | _::_,[]=>rfl
theorem agF (a b:Int):(a==b)=(b==a):=by
 rw [Bool.eq_iff_iff]; simp only [beq_iff_eq]; exact ⟨Eq.symm,Eq.symm⟩
theorem agG (x y:iC):vJ x y=vJ y x:=by
 unfold vJ
 rw [agF x.kind,VZ x.key,VZ x.val]
def wh1 (w:bO) (id:Int) (r:bK):Bool:=(r.kind != 1)||(!decide (uK r.tx w.begun<0)&&AR vJ (qK (w.begun.getD (uK r.tx w.begun).toNat default).ops id w.c.n) r.ops)
def ML (w:bO):Bool:=w.aI.all fun s=>s.log.all (wh1 w s.id)
section
variable (m:Nat) (hm:1048700<=m) (w:bO) (hw:CW w)
include hm hw
theorem anZ (x2 x3 x4 x19 x20 x21 x22:T) (id:Int) : ∀ (post pre:List bK),pre.length+post.length<=1048576->∀ n,post.length<n->∀ k0 k1,
  mW m n (.i 0) (.i 0) x2 x3 x4 (.l (rR (pre++post))) (.i ((pre++post).length:Nat)) (.i pre.length) (.i w.c.n) (.i w.c.life) (.i w.c.next) (.l (rJ w.c.jobs)) (.l (rC w.c.log)) (.i w.c.sure) (.l (rS w.aI)) (.l (rW w.net)) (.l (rW w.outs)) (.l (rB w.begun)) (.i id) x19 x20 x21 x22 k0 k1 =
   cond (post.all (wh1 w id)) (k1 (.i 0) x2 x3 x4 (.i w.c.n) (.i w.c.life) (.i w.c.next) (.l (rJ w.c.jobs)) (.l (rC w.c.log)) (.i w.c.sure) (.l (rS w.aI)) (.l (rW w.net)) (.l (rW w.outs)) (.l (rB w.begun))) (k0 (.b false))
 | [],pre,hs,n,hn,k0,k1=>by
  obtain ⟨n,rfl⟩ : ∃ m',n=m'+1:=⟨n-1,by omega⟩
  simp only [mW,T.ak,T.ah]
  rw [aH (by simp)]
  rfl
 | x::post,pre,hs,n,hn,k0,k1=>by
  obtain ⟨n,rfl⟩ : ∃ m',n=m'+1:=⟨n-1,by omega⟩
  simp only [List.length_cons] at hs hn
  have ih:=anZ x2 x3 x4 x19 x20 x21 x22 id post (pre++[x]) (by simp; omega) n (by omega) k0 k1
  rw [aG,List.append_assoc,List.singleton_append] at ih
  have hbl:=hw.ad8
  simp only [mW,T.ak,T.ah,ixR,bA pre (by omega),r0,r1,r2,hz0,uE]
  rw [au (by simp; omega),au (by simp; omega),show (T.l [[.i w.c.n,.i w.c.life,.i w.c.next,.l (rJ w.c.jobs),.l (rC w.c.log),.i w.c.sure,.l (rS w.aI),.l (rW w.net),.l (rW w.outs),.l (rB w.begun)]])=T.l [za w] from rfl,Ey (by omega) w x.tx hbl,ih]
  simp only [T.ak,List.all_cons]
  unfold wh1
  by_cases hk:x.kind=1
  ·rw [aO (by simp [hk]),show (x.kind != 1)=false by simp [hk]]
   by_cases h:uK x.tx w.begun<0
   ·rw [decide_eq_true h]; rfl
   ·obtain ⟨j,hj,hjl⟩:=EA h
    have Hz:=hw.ze _ (EB hjl)
    rw [decide_eq_false h,hj,aD (by decide),au (by omega),show Int.toNat (j:Int)=j from rfl,Qc w.begun hjl,bd1]
    simp only [T.ah]
    rw [ad1 (by omega) _ id w.c.n Hz]
    simp only [T.ah]
    rw [ame (by omega) _ x.ops (by have:=MH (w.begun.getD j default).ops id w.c.n; have:=Hz.1; omega)]
    simp only [T.aT,Bool.not_false,Bool.true_and,Bool.false_or]
    cases AR vJ (qK (w.begun.getD j default).ops id w.c.n) x.ops <;> rfl
  ·rw [aD (by simp [hk]),show (x.kind != 1)=true by simp [hk]]; rfl
theorem an0 : ∀ (post pre:List aQ),(∀ s∈post,s.log.length<=1048576)->pre.length+post.length<=1048576->∀ n,post.length+1048576+1<n->∀ k0 k1,
  mX m n (.i 0) (.l (rS (pre++post))) (.i ((pre++post).length:Nat)) (.i pre.length) (.i w.c.n) (.i w.c.life) (.i w.c.next) (.l (rJ w.c.jobs)) (.l (rC w.c.log)) (.i w.c.sure) (.l (rS w.aI)) (.l (rW w.net)) (.l (rW w.outs)) (.l (rB w.begun)) k0 k1 =
   cond (post.all fun s=>s.log.all (wh1 w s.id)) k1 (k0 (.b false))
 | [],pre,ho,hs,n,hn,k0,k1=>by
  obtain ⟨n,rfl⟩ : ∃ m',n=m'+1:=⟨n-1,by omega⟩
  simp only [mX,T.ak,T.ah]
  rw [aH (by simp)]
  rfl
 | x::post,pre,ho,hs,n,hn,k0,k1=>by
  obtain ⟨n,rfl⟩ : ∃ m',n=m'+1:=⟨n-1,by omega⟩
  simp only [List.length_cons] at hs hn
  have hx:=ho x (by simp)
  have ih:=an0 post (pre++[x]) (fun s h=>ho s (by simp [h])) (by simp; omega) n (by omega) k0 k1
  rw [aG,List.append_assoc,List.singleton_append] at ih
  simp only [mX,T.ak,T.ah,aaR,s0',s1',s2',s3',s4',hz0,lV]
  rw [au (by simp; omega),au (by simp; omega)]
  have l1:=anZ m hm w hw (.l (rS (pre++x::post))) (.i ((pre++x::post).length:Nat)) (.i pre.length) (.l (rR x.log)) (.i x.sure) (.l (rP x.map)) (.l (rR x.held)) x.id x.log [] (by simpa using hx) n (by omega) k0
  simp only [List.nil_append,List.length_nil,Int.natCast_zero] at l1
  refine (l1 _).trans ?_
  simp only [T.ak,hz0,bA pre (by omega),List.all_cons]
  rw [ih]
  cases x.log.all (wh1 w x.id) <;> rfl
end
theorem agH {m:Nat} (hm:2200000<=m) (w:bO) (hw:CW w) (K:T->An) :
  Gj m (.i w.c.n) (.i w.c.life) (.i w.c.next) (.l (rJ w.c.jobs)) (.l (rC w.c.log)) (.i w.c.sure) (.l (rS w.aI)) (.l (rW w.net)) (.l (rW w.outs)) (.l (rB w.begun)) K=K (.b (ML w)):=by
 obtain ⟨m,rfl⟩ : ∃ m',m=m'+1:=⟨m-1,by omega⟩
 simp only [Gj,T.ah,p9]
 refine (an0 m (by omega) w hw w.aI [] (fun s h=>(hw.sh s h).log) (by simpa using hw.shl) m (by have:=hw.shl; omega) _ _).trans ?_
 unfold ML
 cases w.aI.all fun s=>s.log.all (wh1 w s.id) <;> rfl
section
variable (m:Nat) (hm:1048700<=m) (w:bO) (hw:CW w)
include hm hw
theorem an1 (sp sq:List aQ) (s:aQ) (e:w.aI=sp++s::sq) : ∀ (post pre:List bK),pre.length+post.length<=1048576->∀ n,post.length<n->∀ k0 k1,
  mR m n (.i 0) (.i sp.length) (.l (rR (pre++post))) (.i pre.length) (.i w.c.n) (.i w.c.life) (.i w.c.next) (.l (rJ w.c.jobs)) (.l (rC w.c.log)) (.i w.c.sure) (.l (rS w.aI)) (.l (rW w.net)) (.l (rW w.outs)) (.l (rB w.begun)) k0 k1 =
   cond (post.all (wh1 w s.id)) (k1 (.i 0) (.i sp.length) (.i w.c.n) (.i w.c.life) (.i w.c.next) (.l (rJ w.c.jobs)) (.l (rC w.c.log)) (.i w.c.sure) (.l (rS w.aI)) (.l (rW w.net)) (.l (rW w.outs)) (.l (rB w.begun))) (k0 (.b false))
 | [],pre,hs,n,hn,k0,k1=>by
  obtain ⟨n,rfl⟩ : ∃ m',n=m'+1:=⟨n-1,by omega⟩
  simp only [mR,T.ak,T.ah]
  rw [aH (by simp)]
  rfl
 | x::post,pre,hs,n,hn,k0,k1=>by
  obtain ⟨n,rfl⟩ : ∃ m',n=m'+1:=⟨n-1,by omega⟩
  simp only [List.length_cons] at hs hn
  have ih:=an1 sp sq s e post (pre++[x]) (by simp; omega) n (by omega) k0 k1
  rw [aG,List.append_assoc,List.singleton_append] at ih
  have hbl:=hw.ad8
  have hsl:w.aI.length=sp.length+(sq.length+1):=by rw [e]; simp
  have hsx:(rS w.aI).getD (Int.toNat (sp.length:Int)) []=s.r:=by rw [e]; exact aaR _ _ _
  have d1:decide ((0:Int)<=(pre.length:Int)/\(pre.length:Int)<((rR (pre++x::post)).length:Int))=true:=decide_eq_true (by simp; omega)
  have d2:decide ((0:Int)<=(sp.length:Int)/\(sp.length:Int)<(w.aI.length:Int))=true:=decide_eq_true (by omega)
  simp only [mR,T.ak,T.ah,ixR,bA pre (by omega),r0,rd1,rd2,hz0,uE,p9,d1,d2,hsx,s0',cond_true]
  rw [au (by simp; omega),Ez (by omega) _ _ _ _ _ _ _ _ _ w.begun x.tx hbl,ih]
  simp only [T.ak,List.all_cons]
  unfold wh1
  by_cases hk:x.kind=1
  ·rw [aO (by simp [hk]),show (x.kind != 1)=false by simp [hk]]
   by_cases h:uK x.tx w.begun<0
   ·rw [decide_eq_true h]; rfl
   ·obtain ⟨j,hj,hjl⟩:=EA h
    have Hz:=hw.ze _ (EB hjl)
    rw [decide_eq_false h,hj,aD (by decide),au (by omega),show Int.toNat (j:Int)=j from rfl,Qc w.begun hjl,bd1]
    simp only [T.ah]
    rw [adZ (by omega) _ s.id w.c.n Hz]
    simp only [T.ah]
    by_cases hxl:x.ops.length<=1048576
    ·rw [amf (by omega) x.ops _ hxl,ac2 agG]
     simp only [T.aT,Bool.not_false,Bool.true_and,Bool.false_or]
     cases AR vJ (qK (w.begun.getD j default).ops s.id w.c.n) x.ops <;> rfl
    ·have hne:(qK (w.begun.getD j default).ops s.id w.c.n).length≠x.ops.length:=by have:=MH (w.begun.getD j default).ops s.id w.c.n; have:=Hz.1; omega
     obtain ⟨q,rfl⟩ : ∃ q,m=q+1:=⟨m-1,by omega⟩
     rw [MJ hne]
     simp only [lT,T.ah,nD]
     rw [aD (MI (fun h=>hne h.symm))]
     rfl
  ·rw [aD (by simp [hk]),show (x.kind != 1)=true by simp [hk]]; rfl
theorem an2 : ∀ (post pre:List aQ),w.aI=pre++post->∀ n,post.length+1048576+1<n->∀ k0 k1,
  mU m n (.i 0) (.i pre.length) (.i w.c.n) (.i w.c.life) (.i w.c.next) (.l (rJ w.c.jobs)) (.l (rC w.c.log)) (.i w.c.sure) (.l (rS w.aI)) (.l (rW w.net)) (.l (rW w.outs)) (.l (rB w.begun)) k0 k1 =
   cond (post.all fun s=>s.log.all (wh1 w s.id)) k1 (k0 (.b false))
 | [],pre,e,n,hn,k0,k1=>by
  obtain ⟨n,rfl⟩ : ∃ m',n=m'+1:=⟨n-1,by omega⟩
  simp only [mU,T.ak,T.ah,p9]
  rw [aH (by rw [e]; simp)]
  rfl
 | x::post,pre,e,n,hn,k0,k1=>by
  obtain ⟨n,rfl⟩ : ∃ m',n=m'+1:=⟨n-1,by omega⟩
  simp only [List.length_cons] at hn
  have hlen:w.aI.length=pre.length+(post.length+1):=by rw [e]; simp
  have hsl:=hw.shl
  have hx:=(hw.sh x (by rw [e]; simp)).log
  have ih:=an2 post (pre++[x]) (by rw [e]; simp) n (by omega) k0 k1
  rw [aG] at ih
  have hxx:(rS w.aI).getD (Int.toNat (pre.length:Int)) []=x.r:=by rw [e]; exact aaR _ _ _
  simp only [mU,T.ak,T.ah,hxx,akb,hz0,p9]
  rw [au (by omega),au (by omega)]
  have l1:=an1 m hm w hw pre post x e x.log [] (by simpa using hx) n (by omega) k0
  simp only [List.nil_append,List.length_nil,Int.natCast_zero] at l1
  refine (l1 _).trans ?_
  simp only [T.ak,hz0,bA pre (by omega),List.all_cons]
  rw [ih]
  cases x.log.all (wh1 w x.id) <;> rfl
end
theorem agI {m:Nat} (hm:2200000<=m) (w:bO) (hw:CW w) (K:T->An) :
  F5 m (.i w.c.n) (.i w.c.life) (.i w.c.next) (.l (rJ w.c.jobs)) (.l (rC w.c.log)) (.i w.c.sure) (.l (rS w.aI)) (.l (rW w.net)) (.l (rW w.outs)) (.l (rB w.begun)) K=K (.b (ML w)):=by
 obtain ⟨m,rfl⟩ : ∃ m',m=m'+1:=⟨m-1,by omega⟩
 simp only [F5,T.ah]
 refine (an2 m (by omega) w hw w.aI [] rfl m (by have:=hw.shl; omega) _ _).trans ?_
 unfold ML
 cases w.aI.all fun s=>s.log.all (wh1 w s.id) <;> rfl
end Go.Proofs.YtpmbniddgaecpaaGreat

namespace Go.Proofs.YtpmbniddgaecpaaGreat
open Go Go.E Go.Proofs
def ac3 (tx:Int) (r:bK):Bool:=(r.tx==tx)&&((r.kind==1)||(r.kind==2))
def EC (s:aQ):Nat:=(M5 0 (M4 s.sure (s.log.length:Int))).toNat
def YX (s:aQ) (tx:Int):Bool:=(s.log.take (EC s)).any (ac3 tx)
theorem ac4 (s:aQ):EC s<=s.log.length:=by
 unfold EC M5 M4
 split <;> split <;> omega
theorem ak4 (s:aQ):M5 0 (M4 s.sure (s.log.length:Int))=(EC s:Int):=by
 unfold EC M5 M4
 split <;> split <;> omega
theorem V8 (m:Nat) (tx:Int) : ∀ (post pre:List bK),pre.length+post.length<=1048576->∀ n,post.length<n->∀ k0 k1,
  bV m n (.i tx) (.l (rR (pre++post))) (.i ((pre++post).length:Nat)) (.i pre.length) k0 k1=cond (post.any (ac3 tx)) (k0 (.b true)) k1
 | [],pre,hs,n,hn,k0,k1=>by
  obtain ⟨n,rfl⟩ : ∃ m',n=m'+1:=⟨n-1,by omega⟩
  simp only [bV,T.ak,T.ah]
  rw [aH (by simp)]
  rfl
 | x::post,pre,hs,n,hn,k0,k1=>by
  obtain ⟨n,rfl⟩ : ∃ m',n=m'+1:=⟨n-1,by omega⟩
  simp only [List.length_cons] at hs hn
  have ih:=V8 m tx post (pre++[x]) (by simp; omega) n (by omega) k0 k1
  rw [aG,List.append_assoc,List.singleton_append] at ih
  simp only [bV,T.ak,T.ah,ixR,bA pre (by omega),r0,r1]
  rw [au (by simp; omega),au (by simp; omega),ih]
  simp only [List.any_cons,ac3]
  cases (x.tx==tx) <;> cases (x.kind==1) <;> cases (x.kind==2) <;> rfl
theorem aiW {m:Nat} (hm:1048600<=m) (s:aQ) (tx:Int) (hl:s.log.length<=1048576) (K:T->An):lZ m (.l [s.r]) (.i tx) K=K (.b (YX s tx)):=by
 obtain ⟨m,rfl⟩ : ∃ m',m=m'+1:=⟨m-1,by omega⟩
 have e1:(s.r.drop 1).getD 0 dflt = .l (rR s.log):=rfl
 have e2:(s.r.drop 2).getD 0 dflt = .i s.sure:=rfl
 have hle:=ac4 s
 have e3:(rR s.log).take (Int.toNat (EC s:Int))=rR (s.log.take (EC s)):=by
  rw [show Int.toNat (EC s:Int)=EC s from rfl]; simp [rR]
 simp only [lZ,qL,e1,e2,T.ah,T.ak,lV,ak4,e3]
 rw [au (by omega),au (by omega)]
 refine (V8 m tx (s.log.take (EC s)) [] (by rw [List.length_take]; simp; omega) m (by rw [List.length_take]; omega) _ _).trans ?_
 unfold YX
 cases (s.log.take (EC s)).any (ac3 tx) <;> rfl
theorem JX (first kind tx:Int) : ∀ (l:List bK) (i:Nat),DW first kind tx i l=(l.take (first-i).toNat).any fun r=>(r.kind==kind)&&(r.tx==tx)
 | [],i=>by simp [DW]
 | r::l,i=>by
  unfold DW
  rw [JX first kind tx l (i+1)]
  by_cases h:(i:Int)<first
  ·obtain ⟨q,hq⟩ : ∃ q,(first-i).toNat=q+1:=⟨(first-i).toNat-1,by omega⟩
   rw [hq,decide_eq_true h,List.take_succ_cons,show (first-((i+1:Nat):Int)).toNat=q by omega]
   rfl
  ·rw [decide_eq_false h,show (first-(i:Int)).toNat=0 by omega]; rfl
theorem aiX {α:Type} (f g:α->Bool) : ∀ l:List α,l.any (fun x=>f x||g x)=(l.any f||l.any g)
 | []=>rfl
 | x::l=>by
  simp only [List.any_cons,aiX f g l]
  cases f x <;> cases g x <;> cases l.any f <;> cases l.any g <;> rfl
theorem agJ (s:aQ) (tx:Int):YX s tx=(Hq s.log s.sure 1 tx||Hq s.log s.sure 2 tx):=by
 unfold Hq YX
 rw [JX,JX,<-aiX]
 have e:s.log.take (s.sure-((0:Nat):Int)).toNat=s.log.take (EC s):=by
  rw [Int.natCast_zero,Int.sub_zero]
  have hs:=ac4 s
  have hI:=ak4 s
  unfold M5 M4 at hI
  by_cases h1:(s.log.length:Int)<s.sure
  ·rw [if_pos h1] at hI
   have:EC s=s.log.length:=by split at hI <;> omega
   rw [this,List.take_of_length_le (by omega),List.take_of_length_le (Nat.le_refl _)]
  ·rw [if_neg h1] at hI
   congr 1
   split at hI <;> omega
 rw [e]
 congr 1
 funext r
 unfold ac3
 cases (r.tx==tx) <;> cases (r.kind==1) <;> cases (r.kind==2) <;> rfl
def pr1 (w:bO) (tx s:Int):Bool:=decide (s<(w.aI.length:Int))&&YX (w.aI.getD s.toNat default) tx
def pr (w:bO) (c:aZ):Bool:=!c.yes||(!decide (uK c.tx w.begun<0)&&(dS (w.begun.getD (uK c.tx w.begun).toNat default).ops w.c.n).all (pr1 w c.tx))
def vK (w:bO):Bool:=w.c.log.all (pr w)
theorem YZ {ops:List iC} {n s:Int} (h:s∈dS ops n):0<=s:=by
 unfold dS at h
 rw [P5] at h
 rcases h with h | h
 ·cases h
 ·obtain ⟨o,-,rfl⟩:=List.mem_map.1 h; omega
theorem aiY (l:List aQ) {j:Nat} (h:j<l.length):(rS l).getD j []=(l.getD j default).r:=by simp [List.getD,h]
theorem ac5 {l:List aQ} {j:Nat} (h:j<l.length):l.getD j default∈l:=by simp [List.getD,h]
theorem ac6 {tx:Int} : ∀ {l:List dQ} {j:Nat},uO tx l=some j->(l.getD j default).tx=tx
 | [],j,h=>by cases h
 | r::l,j,h=>by
  unfold uO at h
  split at h
  ·cases h; simpa using ‹r.tx=tx›
  ·cases h2:uO tx l with
   | none=>rw [h2] at h; cases h
   | some i=>rw [h2] at h; cases h; simpa using ac6 h2
section
variable (m:Nat) (hm:1048800<=m) (w:bO) (hw:CW w)
include hm hw
theorem an3 (x2 x3 x4 x19:T) (tx:Int) : ∀ (post pre:List Int),(∀ s∈post,0<=s)->pre.length+post.length<=1048576->∀ n,post.length<n->∀ k0 k1,
  jg m n (.i 0) (.i 0) x2 x3 x4 (.l (ir (pre++post))) (.i ((pre++post).length:Nat)) (.i pre.length) (.i w.c.n) (.i w.c.life) (.i w.c.next) (.l (rJ w.c.jobs)) (.l (rC w.c.log)) (.i w.c.sure) (.l (rS w.aI)) (.l (rW w.net)) (.l (rW w.outs)) (.l (rB w.begun)) (.i tx) x19 k0 k1 =
   cond (post.all (pr1 w tx)) (k1 (.i 0) x2 x3 x4 (.i w.c.n) (.i w.c.life) (.i w.c.next) (.l (rJ w.c.jobs)) (.l (rC w.c.log)) (.i w.c.sure) (.l (rS w.aI)) (.l (rW w.net)) (.l (rW w.outs)) (.l (rB w.begun))) (k0 (.b false))
 | [],pre,hp,hs,n,hn,k0,k1=>by
  obtain ⟨n,rfl⟩ : ∃ m',n=m'+1:=⟨n-1,by omega⟩
  simp only [jg,T.ak,T.ah]
  rw [aH (by simp)]
  rfl
 | x::post,pre,hp,hs,n,hn,k0,k1=>by
  obtain ⟨n,rfl⟩ : ∃ m',n=m'+1:=⟨n-1,by omega⟩
  simp only [List.length_cons] at hs hn
  have hx:=hp x (by simp)
  have ih:=an3 x2 x3 x4 x19 tx post (pre++[x]) (fun s h=>hp s (by simp [h])) (by simp; omega) n (by omega) k0 k1
  rw [aG,List.append_assoc,List.singleton_append] at ih
  simp only [jg,T.ak,T.ah,ixI,bA pre (by omega),hz0,p9]
  rw [au (by simp; omega),au (by simp [ir]; omega),ih]
  simp only [List.all_cons,pr1]
  by_cases h:x<(w.aI.length:Int)
  ·have hxl:x.toNat<w.aI.length:=by omega
   rw [aD (by simp; omega),au (by omega),aiY w.aI hxl,show (w.aI.getD x.toNat default).r.take 5=(w.aI.getD x.toNat default).r from rfl,aiW (by omega) _ tx (hw.sh _ (ac5 hxl)).log,decide_eq_true h]
   simp only [T.aT,Bool.true_and]
   cases YX (w.aI.getD x.toNat default) tx <;> rfl
  ·rw [aO (by simp; omega),decide_eq_false h]; rfl
theorem an4 : ∀ (post pre:List aZ),pre.length+post.length<=1048576->∀ n,post.length+1048576+1<n->∀ k0 k1,
  jh m n (.i 0) (.l (rC (pre++post))) (.i ((pre++post).length:Nat)) (.i pre.length) (.i w.c.n) (.i w.c.life) (.i w.c.next) (.l (rJ w.c.jobs)) (.l (rC w.c.log)) (.i w.c.sure) (.l (rS w.aI)) (.l (rW w.net)) (.l (rW w.outs)) (.l (rB w.begun)) k0 k1 =
   cond (post.all (pr w)) k1 (k0 (.b false))
 | [],pre,hs,n,hn,k0,k1=>by
  obtain ⟨n,rfl⟩ : ∃ m',n=m'+1:=⟨n-1,by omega⟩
  simp only [jh,T.ak,T.ah]
  rw [aH (by simp)]
  rfl
 | x::post,pre,hs,n,hn,k0,k1=>by
  obtain ⟨n,rfl⟩ : ∃ m',n=m'+1:=⟨n-1,by omega⟩
  simp only [List.length_cons] at hs hn
  have ih:=an4 post (pre++[x]) (by simp; omega) n (by omega) k0 k1
  rw [aG,List.append_assoc,List.singleton_append] at ih
  have hbl:=hw.ad8
  simp only [jh,T.ak,T.ah,ixC,bA pre (by omega),c0,c1,T.aT,hz0,uE]
  rw [au (by simp; omega),au (by simp; omega),show (T.l [[.i w.c.n,.i w.c.life,.i w.c.next,.l (rJ w.c.jobs),.l (rC w.c.log),.i w.c.sure,.l (rS w.aI),.l (rW w.net),.l (rW w.outs),.l (rB w.begun)]])=T.l [za w] from rfl,Ey (by omega) w x.tx hbl,ih]
  simp only [T.ak,List.all_cons]
  unfold pr
  cases hy:x.yes with
  | false=>rfl
  | true =>
   rw [aO (by decide)]
   by_cases h:uK x.tx w.begun<0
   ·rw [decide_eq_true h]; rfl
   ·obtain ⟨j,hj,hjl⟩:=EA h
    have Hz:=hw.ze _ (EB hjl)
    rw [decide_eq_false h,hj,cond_false,au (by omega),show Int.toNat (j:Int)=j from rfl,Qc w.begun hjl,bd1]
    simp only [T.ah]
    rw [VD (by omega) _ w.c.n Hz]
    simp only [T.ah,Bool.not_true,Bool.false_or,Bool.not_false,Bool.true_and]
    have hsl:=sI (w.begun.getD j default).ops w.c.n
    have hol:=Hz.1
    have l1:=an3 m hm w hw (.l (rC (pre++x::post))) (.i ((pre++x::post).length:Nat)) (.i pre.length) (.b true) x.tx (dS (w.begun.getD j default).ops w.c.n) [] (fun s hs=>YZ hs) (by rw [List.length_nil,Nat.zero_add]; omega) n (by omega) k0
    simp only [List.nil_append,List.length_nil,Int.natCast_zero] at l1
    rw [show ((ir (dS (w.begun.getD j default).ops w.c.n)).length:Int)=((dS (w.begun.getD j default).ops w.c.n).length:Int) by simp [ir]]
    refine (l1 _).trans ?_
    simp only [T.ak,hz0,bA pre (by omega)]
    rw [ih]
    cases (dS (w.begun.getD j default).ops w.c.n).all (pr1 w x.tx) <;> rfl
end
theorem aaS {m:Nat} (hm:2200000<=m) (w:bO) (hw:CW w) (K:T->An) :
  vV m (.i w.c.n) (.i w.c.life) (.i w.c.next) (.l (rJ w.c.jobs)) (.l (rC w.c.log)) (.i w.c.sure) (.l (rS w.aI)) (.l (rW w.net)) (.l (rW w.outs)) (.l (rB w.begun)) K=K (.b (vK w)):=by
 obtain ⟨m,rfl⟩ : ∃ m',m=m'+1:=⟨m-1,by omega⟩
 simp only [vV,T.ah,vI]
 refine (an4 m (by omega) w hw w.c.log [] (by simpa using hw.log) m (by have:=hw.log; omega) _ _).trans ?_
 unfold vK
 cases w.c.log.all (pr w) <;> rfl
section
variable (m:Nat) (hm:1048800<=m) (w:bO) (hw:CW w)
include hm hw
theorem an5 (x15:T) (tx:Int) : ∀ (post pre:List Int),(∀ s∈post,0<=s)->pre.length+post.length<=1048576->∀ n,post.length<n->∀ k0 k1,
  jS m n (.i 0) (.i 0) (.l (ir (pre++post))) (.i pre.length) (.i w.c.n) (.i w.c.life) (.i w.c.next) (.l (rJ w.c.jobs)) (.l (rC w.c.log)) (.i w.c.sure) (.l (rS w.aI)) (.l (rW w.net)) (.l (rW w.outs)) (.l (rB w.begun)) (.i tx) x15 k0 k1 =
   cond (post.all (pr1 w tx)) k1 (k0 (.b false))
 | [],pre,hp,hs,n,hn,k0,k1=>by
  obtain ⟨n,rfl⟩ : ∃ m',n=m'+1:=⟨n-1,by omega⟩
  simp only [jS,T.ak,T.ah]
  rw [aH (by simp [ir])]
  rfl
 | x::post,pre,hp,hs,n,hn,k0,k1=>by
  obtain ⟨n,rfl⟩ : ∃ m',n=m'+1:=⟨n-1,by omega⟩
  simp only [List.length_cons] at hs hn
  have hx:=hp x (by simp)
  have ih:=an5 x15 tx post (pre++[x]) (fun s h=>hp s (by simp [h])) (by simp; omega) n (by omega) k0 k1
  rw [aG,List.append_assoc,List.singleton_append] at ih
  have d1:decide ((0:Int)<=(pre.length:Int)/\(pre.length:Int)<((ir (pre++x::post)).length:Int))=true:=decide_eq_true (by simp [ir]; omega)
  simp only [jS,T.ak,T.ah,ixI,bA pre (by omega),hz0,p9,d1,cond_true]
  rw [au (by simp [ir]; omega),ih,aiN]
  simp only [List.all_cons,pr1]
  by_cases h:x<(w.aI.length:Int)
  ·have hxl:x.toNat<w.aI.length:=by omega
   have e1:(w.aI.getD x.toNat default).r.getD 1 dflt = .l (rR (w.aI.getD x.toNat default).log):=rfl
   have e2:(w.aI.getD x.toNat default).r.getD 2 dflt = .i (w.aI.getD x.toNat default).sure:=rfl
   have hlg:=(hw.sh _ (ac5 hxl)).log
   rw [decide_eq_true h,aO (by decide),au (by omega),aiY w.aI hxl,e1,e2,agJ]
   simp only [T.ah]
   rw [MK (by omega) _ _ _ _ hlg,MK (by omega) _ _ _ _ hlg]
   simp only [T.aT,Bool.true_and]
   cases Hq (w.aI.getD x.toNat default).log (w.aI.getD x.toNat default).sure 1 tx <;> cases Hq (w.aI.getD x.toNat default).log (w.aI.getD x.toNat default).sure 2 tx <;> rfl
  ·rw [decide_eq_false h,aD (by decide)]; rfl
theorem aiZ (ops:List iC) (Hz:qQ ops) (tx:Int) (hm:1048801<=m) (K:T->An) :
  yN m (.i w.c.n) (.i w.c.life) (.i w.c.next) (.l (rJ w.c.jobs)) (.l (rC w.c.log)) (.i w.c.sure) (.l (rS w.aI)) (.l (rW w.net)) (.l (rW w.outs)) (.l (rB w.begun)) (.i tx) (.l (rO ops)) K=K (.b ((dS ops w.c.n).all (pr1 w tx))):=by
 obtain ⟨m,rfl⟩ : ∃ m',m=m'+1:=⟨m-1,by omega⟩
 have hsl:=sI ops w.c.n
 have hol:=Hz.1
 simp only [yN,T.ah]
 rw [VB (by omega) ops w.c.n Hz]
 simp only [T.ah]
 refine (an5 m (by omega) w hw (.l (rO ops)) tx (dS ops w.c.n) [] (fun s hs=>YZ hs) (by rw [List.length_nil,Nat.zero_add]; omega) m (by omega) _ _).trans ?_
 cases (dS ops w.c.n).all (pr1 w tx) <;> rfl
theorem an6 (hm2:1048802<=m) : ∀ (post pre:List aZ),w.c.log=pre++post->∀ n,post.length<n->∀ k0 k1,
  jd m n (.i 0) (.i pre.length) (.i w.c.n) (.i w.c.life) (.i w.c.next) (.l (rJ w.c.jobs)) (.l (rC w.c.log)) (.i w.c.sure) (.l (rS w.aI)) (.l (rW w.net)) (.l (rW w.outs)) (.l (rB w.begun)) k0 k1 =
   cond (post.all (pr w)) k1 (k0 (.b false))
 | [],pre,e,n,hn,k0,k1=>by
  obtain ⟨n,rfl⟩ : ∃ m',n=m'+1:=⟨n-1,by omega⟩
  simp only [jd,T.ak,T.ah,vI]
  rw [aH (by rw [e]; simp)]
  rfl
 | x::post,pre,e,n,hn,k0,k1=>by
  obtain ⟨n,rfl⟩ : ∃ m',n=m'+1:=⟨n-1,by omega⟩
  simp only [List.length_cons] at hn
  have hlen:w.c.log.length=pre.length+(post.length+1):=by rw [e]; simp
  have hll:=hw.log
  have ih:=an6 hm2 post (pre++[x]) (by rw [e]; simp) n (by omega) k0 k1
  rw [aG] at ih
  have hbl:=hw.ad8
  have hx:(rC w.c.log).getD (Int.toNat (pre.length:Int)) []=x.r:=by rw [e]; exact ixC _ _ _
  have d1:decide ((0:Int)<=(pre.length:Int)/\(pre.length:Int)<(w.c.log.length:Int))=true:=decide_eq_true (by omega)
  simp only [jd,T.ak,T.ah,hx,bA pre (by omega),c0,cd1,T.aT,hz0,uE,vI,d1,cond_true]
  rw [au (by omega),Ez (by omega) _ _ _ _ _ _ _ _ _ w.begun x.tx hbl,ih]
  simp only [T.ak,List.all_cons]
  unfold pr
  cases hy:x.yes with
  | false=>rfl
  | true =>
   rw [aO (by decide)]
   by_cases h:uK x.tx w.begun<0
   ·rw [decide_eq_true h]; rfl
   ·obtain ⟨j,hj,hjl⟩:=EA h
    have Hz:=hw.ze _ (EB hjl)
    have htx:(w.begun.getD j default).tx=x.tx:=by
     unfold uK at hj
     cases h2:uO x.tx w.begun with
     | none=>rw [h2] at hj; simp only [] at hj; omega
     | some i =>
      have:i=j:=by rw [h2] at hj; simp only [] at hj; omega
      subst this
      exact ac6 h2
    rw [decide_eq_false h,hj,aD (by decide),au (by omega),show Int.toNat (j:Int)=j from rfl,Qc w.begun hjl,b0,b1',htx]
    simp only [T.ah]
    rw [aiZ m (by omega) w hw _ Hz x.tx (by omega)]
    simp only [T.aT,Bool.not_true,Bool.false_or,Bool.not_false,Bool.true_and]
    cases (dS (w.begun.getD j default).ops w.c.n).all (pr1 w x.tx) <;> rfl
end
theorem aaT {m:Nat} (hm:2200000<=m) (w:bO) (hw:CW w) (K:T->An) :
  vU m (.i w.c.n) (.i w.c.life) (.i w.c.next) (.l (rJ w.c.jobs)) (.l (rC w.c.log)) (.i w.c.sure) (.l (rS w.aI)) (.l (rW w.net)) (.l (rW w.outs)) (.l (rB w.begun)) K=K (.b (vK w)):=by
 obtain ⟨m,rfl⟩ : ∃ m',m=m'+1:=⟨m-1,by omega⟩
 simp only [vU,T.ah]
 refine (an6 m (by omega) w hw (by omega) w.c.log [] rfl m (by have:=hw.log; omega) _ _).trans ?_
 unfold vK
 cases w.c.log.all (pr w) <;> rfl
def afy (w:bO):Int:=if AU w=false then 1 else if wU w.aI=false then 2 else if Gz w=false then 3 else if ML w=false then 4 else if vK w=false then 5 else 0
theorem ix5 {m:Nat} (hm:20<=m) (a b c d e:Bool) (K:T->An):mJ m (.l [[.b a],[.b b],[.b c],[.b d],[.b e]]) (.b false) K=K (.i (if a=false then 0 else if b=false then 1 else if c=false then 2 else if d=false then 3 else if e=false then 4 else -1)):=by
 obtain ⟨m,rfl⟩ : ∃ q,m=q+8:=⟨m-8,by omega⟩
 cases a <;> cases b <;> cases c <;> cases d <;> cases e <;> rfl
theorem ai0 {m:Nat} (hm:4000000<=m) (w:bO) (hw:CW w) (hl:(nsP w.aI).length<=aS) (K:T->An) :
  Kn m (.i w.c.n) (.i w.c.life) (.i w.c.next) (.l (rJ w.c.jobs)) (.l (rC w.c.log)) (.i w.c.sure) (.l (rS w.aI)) (.l (rW w.net)) (.l (rW w.outs)) (.l (rB w.begun)) K=K (.i (afy w)):=by
 obtain ⟨m,rfl⟩ : ∃ m',m=m'+1:=⟨m-1,by omega⟩
 simp only [Kn,T.ah]
 rw [agC (by omega) w hw,ac0 (by omega) _ _ _ _ _ _ _ _ _ w.aI hl,aee (by omega) w hw,agH (by omega) w hw,aaS (by omega) w hw,ix5 (by omega)]
 simp only [T.ak]
 congr 2
 unfold afy
 cases AU w <;> cases wU w.aI <;> cases Gz w <;> cases ML w <;> cases vK w <;> rfl
theorem ai1 {m:Nat} (hm:4000001<=m) (w:bO) (hw:CW w) (K:T->An) :
  Kl m (.i w.c.n) (.i w.c.life) (.i w.c.next) (.l (rJ w.c.jobs)) (.l (rC w.c.log)) (.i w.c.sure) (.l (rS w.aI)) (.l (rW w.net)) (.l (rW w.outs)) (.l (rB w.begun)) K=K (.i (afy w)):=by
 obtain ⟨m,rfl⟩ : ∃ m',m=m'+1:=⟨m-1,by omega⟩
 simp only [Kl,T.ah]
 rw [agD (by omega) w hw,acZ (by omega) _ _ _ _ _ _ _ _ _ w.aI hw.shl (fun s h=>(hw.sh s h).log),aef (by omega) w hw,agI (by omega) w hw,aaT (by omega) w hw]
 simp only [T.aT]
 unfold afy
 cases AU w <;> cases wU w.aI <;> cases Gz w <;> cases ML w <;> cases vK w <;> rfl
end Go.Proofs.YtpmbniddgaecpaaGreat

