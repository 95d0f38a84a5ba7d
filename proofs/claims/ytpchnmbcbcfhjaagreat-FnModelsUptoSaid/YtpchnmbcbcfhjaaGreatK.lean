/- A part of the proof: texts UK1, UK2, UK3, UK4, UK5, UK6, UK7, UK8, UK9, UKA, UKB, UKC, UKD, UKE: see the last part's opening words. -/
import Derived.Test.YtpchnmbcbcfhjaaGreatA
set_option linter.unusedVariables false
set_option linter.unusedSimpArgs false
set_option linter.unnecessarySimpa false
namespace Go.Proofs.YtpchnmbcbcfhjaaGreat
open Go Go.E Go.Proofs
def Wu (k:ByteArray):List aX->Option Nat
 | []=>none
 | p::l=>if keq p.key k then some 0 else (Wu k l).map (· + 1)
theorem Yd {k:ByteArray} : ∀ {l:List aX} {j:Nat},Wu k l=some j->j<l.length
 | [],j,h=>by cases h
 | p::l,j,h=>by
  unfold Wu at h
  split at h
  ·cases h; simp
  ·cases h2:Wu k l with
   | none=>rw [h2] at h; cases h
   | some i=>rw [h2] at h; cases h; have:=Yd h2; simp; omega
theorem Wv (k:ByteArray) : ∀ l:List aX,qQ k l=(match Wu k l with | some j=>((l.getD j default).val,true) | none=>(emp,false))
 | []=>rfl
 | p::l=>by
  unfold qQ Wu
  cases hk:keq p.key k with
  | true=>rfl
  | false =>
   simp only [Bool.false_eq_true,if_false]
   rw [Wv k l]
   cases Wu k l <;> rfl
theorem Zq (k v:ByteArray) : ∀ l:List aX,bD k v l=(Wu k l).map fun j=>l.set j ⟨(l.getD j default).key,v⟩
 | []=>rfl
 | p::l=>by
  unfold bD Wu
  cases hk:keq p.key k with
  | true=>rfl
  | false =>
   simp only [Bool.false_eq_true,if_false]
   rw [Zq k v l]
   cases Wu k l <;> rfl
theorem Ww (m:Nat) (hm:1<=m) (k:ByteArray) : ∀ (post pre:List aX),pre.length+post.length<=1048576->∀ n,post.length<n->∀ k0 k1,
  aZ m n (.l (rP (pre++post))) (.l [[.s k]]) (.i ((pre++post).length:Nat)) (.i pre.length) k0 k1=(match Wu k post with | some j=>k0 (.i ((pre.length+j:Nat):Int)) | none=>k1)
 | [],pre,hs,n,hn,k0,k1=>by
  obtain ⟨n,rfl⟩:=aV n
  simp only [aZ,T.aj,T.ah,aM,aY,bq]
  rw [lT]
  rfl
 | x::post,pre,hs,n,hn,k0,k1=>by
  obtain ⟨n,rfl⟩:=aV n
  obtain ⟨m,rfl⟩:=aV m
  simp only [List.length_cons] at hs hn
  have ih:=Ww (m+1) hm k post (pre++[x]) (by simp; omega) n (by omega) k0 k1
  rw [aF,List.append_assoc,List.singleton_append] at ih
  have r1:cO (.l [[T.s k]])=[T.s k]:=rfl
  simp only [aZ,zV,T.aj,T.ah,ixP,bJ pre (by omega),r1,List.getD_cons_zero,T.aI,p0,T.jN,aM,aY,bq]
  rw [bM,bM]
  unfold Wu
  cases h:keq x.key k with
  | true=>rw [aB (show (x.key.toList==k.toList)=true from h)]; rfl
  | false =>
   rw [aD (show (x.key.toList==k.toList)=false from h)]
   refine Eq.trans ih ?_
   simp only [Bool.false_eq_true,if_false]
   cases Wu k post with
   | none=>rfl
   | some j=>simp only [Option.map_some]; congr 3; simp; omega
def pI (k:ByteArray) (l:List aX):Int:=match Wu k l with | some j=>(j:Int) | none=>-1
theorem OU {m:Nat} (hm:1048600<=m) (l:List aX) (k:ByteArray) (hl:l.length<=1048576) (K:T->An):u7 m (.l (rP l)) (.s k) K=K (.i (pI k l)):=by
 obtain ⟨m,rfl⟩:=aV m
 obtain ⟨m,rfl⟩:=aV m
 have r2:cO (.l [[T.s k]])=[T.s k]:=rfl
 simp only [u7,dU,r2,T.ah,tF,wL]
 refine (Ww m (by omega) k l [] (by simp; omega) m (by omega) _ _).trans ?_
 unfold pI
 cases Wu k l <;> simp
theorem ac0 (l:List aX) {j:Nat} (h:j<l.length):(rP l).getD j []=(l.getD j default).r:=by simp [List.getD,h]
theorem aeg {m:Nat} (hm:1048610<=m) (l:List aX) (k:ByteArray) (hl:l.length<=1048576) (K:T->T->An):zn m (.l (rP l)) (.s k) K=K (.s (qQ k l).1) (.b (qQ k l).2):=by
 obtain ⟨m,rfl⟩:=aV m
 simp only [zn,T.ah,qB,aY,wL]
 rw [OU (by omega) l k hl,Wv]
 unfold pI
 cases h:Wu k l with
 | none=>rfl
 | some j =>
  have hj:=Yd h
  simp only [T.aj]
  rw [lT,bM,show Int.toNat (j:Int)=j from rfl,ac0 l hj]
  rfl
theorem D6 (m:Nat) (hm:1048620<=m) (mp:List aX) (hp:mp.length<=1048576) : ∀ (post pre:List eX),pre.length+post.length<=1048576->∀ n,post.length<n->∀ k0 k1,
  jH m n (.l (rP mp)) (.l (rO (pre++post))) (.i ((pre++post).length:Nat)) (.i pre.length) k0 k1=cond (ny mp post) k1 (k0 (.b false))
 | [],pre,hs,n,hn,k0,k1=>by
  obtain ⟨n,rfl⟩:=aV n
  simp only [jH,T.aj,T.ah,aM,aY,wL,bq]
  rw [lT]
  rfl
 | x::post,pre,hs,n,hn,k0,k1=>by
  obtain ⟨n,rfl⟩:=aV n
  simp only [List.length_cons] at hs hn
  have ih:=D6 m hm mp hp post (pre++[x]) (by simp; omega) n (by omega) k0 k1
  rw [aF,List.append_assoc,List.singleton_append] at ih
  simp only [jH,T.aj,T.ah,VP,bJ pre (by omega),o0,o1,o2,T.jN,aM,aY,wL,bq]
  rw [bM,bM]
  have e:ny mp (x::post)=(VZ mp x&&ny mp post):=rfl
  rw [e]
  unfold VZ
  by_cases h3:x.kind=3
  ·rw [aD (by simp [h3]),aeg (by omega) mp x.key hp]
   simp only [T.aI,T.jN,h3,bne_self_eq_false,Bool.false_or]
   rw [show (⟨#[]⟩:ByteArray)=emp from rfl]
   cases h1:((qQ x.key mp).2 == !(x.val.toList==emp.toList)) with
   | false=>rw [aD (by rfl)]; rfl
   | true =>
    rw [aB (by rfl)]
    cases h2:((qQ x.key mp).1.toList==x.val.toList) with
    | false=>rw [aB (by rfl)]; rfl
    | true=>rw [aD (by rfl)]; exact ih
  ·rw [aB (by simp [h3]),ih]
   have:(x.kind != 3)=true:=by simp [h3]
   rw [this]; rfl
theorem aaD {m:Nat} (hm:1048630<=m) (mp:List aX) (l:List eX) (hp:mp.length<=1048576) (hl:l.length<=1048576) (K:T->An):BX m (.l (rP mp)) (.l (rO l)) K=K (.b (ny mp l)):=by
 obtain ⟨m,rfl⟩:=aV m
 simp only [BX,T.ah,kL,wL]
 refine (D6 m (by omega) mp hp l [] (by simp; omega) m (by omega) _ _).trans ?_
 cases ny mp l <;> rfl
theorem Ii (m:Nat) (k v:ByteArray) : ∀ (post pre:List aX),pre.length+post.length<=4611686018427387->∀ n,post.length<n->∀ k0,
  ku m n (.s k) (.s v) (.i pre.length) (.l (rP (pre++post))) k0=k0 (.s k) (.s v) (.i ((pre.length+Ay k post:Nat):Int)) (.l (rP (pre++post)))
 | [],pre,hs,n,hn,k0=>by
  obtain ⟨n,rfl⟩:=aV n
  simp only [ku,T.aj,T.ah,Ay,aM,aY,wL,bq]
  rw [aD (by simp)]
  rfl
 | x::post,pre,hs,n,hn,k0=>by
  obtain ⟨n,rfl⟩:=aV n
  simp only [List.length_cons] at hs hn
  have ih:=Ii m k v post (pre++[x]) (by simp; omega) n (by omega) k0
  rw [aF,List.append_assoc,List.singleton_append] at ih
  simp only [ku,T.aj,T.ah,ixP,bJ pre (by omega),Ay,p0,T.jN,aM,aY,wL,bq]
  rw [aB (by simp <;> omega),bM,bM]
  cases hk:kle x.key k with
  | true =>
   rw [aB (show (Op.bytesLess x.key.toList k.toList||(x.key.toList==k.toList))=true from hk)]
   refine ih.trans ?_
   have e:(pre++[x]).length+Ay k post=pre.length+(Ay k post+1):=by simp; omega
   rw [if_pos rfl,e]
  | false =>
   rw [aD (show (Op.bytesLess x.key.toList k.toList||(x.key.toList==k.toList))=false from hk)]
   rfl
theorem Zr {m:Nat} (hm:1048610<=m) (l:List aX) (k v:ByteArray) (hl:l.length<=1048576) (K:T->An):vg m (.l (rP l)) (.s k) (.s v) K=K (.l (rP (P6 l k v))):=by
 obtain ⟨m,rfl⟩:=aV m
 simp only [vg,T.ah,aY,wL]
 rw [OU (by omega) l k hl]
 unfold P6
 rw [Zq]
 unfold pI
 cases h:Wu k l with
 | none =>
  simp only [T.aj,Option.map_none]
  rw [lT]
  refine (Ii m k v l [] (by simp; omega) m (by omega) _).trans ?_
  have hc:=LH k l
  obtain ⟨m,rfl⟩:=aV m
  simp only [fq,T.ah,T.aj,List.nil_append,List.length_nil,Nat.zero_add,show Int.toNat (Ay k l:Int)=Ay k l from rfl]
  rw [aB (by simp [ay]; omega)]
  simp [rP,List.map_take,List.map_drop,aX.r]
 | some j =>
  have hj:=Yd h
  simp only [T.aj,Option.map_some]
  rw [bM,bM,show Int.toNat (j:Int)=j from rfl,aP (by simpa using hj),ac0 l hj]
  congr 2
  simp [rP,List.map_set,aX.r]
theorem aeh {m:Nat} (hm:1<=m) (l:List aX) (k:ByteArray) (hl:l.length<=1048576) (K:T->An):yX m (.l (rP l)) (.s k) K=K (.l (rP (V5 l k))):=by
 obtain ⟨m,rfl⟩:=aV m
 simp only [yX,T.ah]
 rw [aP (by rw [tF]; unfold ay; omega)]
 congr 2
 unfold yV V5 rP
 rw [List.filter_map]
 rfl
theorem D7 (m:Nat) (hm:1048620<=m) : ∀ (post pre:List eX) (acc:List aX),pre.length+post.length<=1048576->acc.length+post.length<=1048576->∀ n,post.length<n->∀ k0,
  gY m n (.l (rO (pre++post))) (.i ((pre++post).length:Nat)) (.i pre.length) (.l (rP acc)) k0=k0 (.l (rP (nA acc post)))
 | [],pre,acc,hs,ha,n,hn,k0=>by
  obtain ⟨n,rfl⟩:=aV n
  simp only [gY,T.aj,T.ah,aM,aY,wL,bq]
  rw [lT]
  rfl
 | x::post,pre,acc,hs,ha,n,hn,k0=>by
  obtain ⟨n,rfl⟩:=aV n
  simp only [List.length_cons] at hs hn ha
  have h1:=Oz acc x
  have ih:=D7 m hm post (pre++[x]) (app1 acc x) (by simp; omega) (by omega) n (by omega) k0
  rw [aF,List.append_assoc,List.singleton_append] at ih
  simp only [gY,T.aj,T.ah,VP,bJ pre (by omega),o0,o1,o2,aM,aY,wL,bq]
  rw [bM,bM,Zr (by omega) acc x.key x.val (by omega),aeh (by omega) acc x.key (by omega)]
  simp only [T.ah]
  show _=k0 (.l (rP (nA (app1 acc x) post)))
  rw [<-ih]
  unfold app1
  by_cases h1:x.kind=1
  ·rw [aB (by simp [h1]),if_pos h1]
  ·rw [aD (by simp [h1]),if_neg h1]
   by_cases h2:x.kind=2
   ·rw [aB (by simp [h2]),if_pos h2]
   ·rw [aD (by simp [h2]),if_neg h2]
theorem Ra {m:Nat} (hm:1048630<=m) (mp:List aX) (l:List eX) (hs:mp.length+l.length<=1048576) (K:T->An):yg m (.l (rP mp)) (.l (rO l)) K=K (.l (rP (nA mp l))):=by
 obtain ⟨m,rfl⟩:=aV m
 simp only [yg,T.ah,kL,wL]
 obtain ⟨q,rfl⟩ : ∃ q,m=q+1:=⟨m-1,by omega⟩
 rw [show ∀ k,aW (q+1) (.l (rP mp)) k=k (.l (rP mp)) from fun k=>by
  simp only [aW,T.ah,wL]
  rw [aP (by rw [tF]; unfold ay; omega)]]
 exact (D7 (q+1) (by omega) l [] mp (by simp; omega) (by omega) (q+1) (by omega) _).trans rfl
end Go.Proofs.YtpchnmbcbcfhjaaGreat

namespace Go.Proofs.YtpchnmbcbcfhjaaGreat
open Go Go.E Go.Proofs
def yj (tx:Int) (l:List bF):Nat->Option Nat
 | 0=>none
 | i+1=>if (l.getD i default).tx=tx then some i else yj tx l i
theorem ac1 (l:List bF) {j:Nat} (h:j<l.length):(rR l).getD j []=(l.getD j default).r:=by simp [List.getD,h]
theorem OV (m:Nat) (tx:Int) (l:List bF) (hl:l.length<=1048576) : ∀ (i n:Nat),i<=l.length->i<n->∀ k0 k1,
  lC m n (.l (rR l)) (.i tx) (.i ((i:Int)-1)) k0 k1=match yj tx l i with | some j=>k0 (.i (j:Int)) | none=>k1
 | 0,n,hi,hn,k0,k1=>by
  obtain ⟨n,rfl⟩:=aV n
  simp only [lC,T.aj,T.ah,yj,qB,aY]
  rw [lT]
 | i+1,n,hi,hn,k0,k1=>by
  obtain ⟨n,rfl⟩:=aV n
  have ih:=OV m tx l hl i n (by omega) (by omega) k0 k1
  have e:(((i+1:Nat):Int)-1)=(i:Int):=by omega
  have hw:IntKind.i64.wrap ((i:Int)-1)=(i:Int)-1:=by rw [IntKind.wrap_i64]; omega
  rw [e]
  simp only [lC,T.aj,T.ah,yj,qB,aY]
  rw [bM,bM,show Int.toNat (i:Int)=i from rfl,ac1 l (by omega),hw,rd1,ih]
  by_cases h:(l.getD i default).tx=tx
  ·rw [aB (by simpa using h),if_pos h]
  ·rw [aD (by simpa using h),if_neg h]
def ac2 (tx:Int) (l:List bF):Int:=match yj tx l l.length with | some j=>(j:Int) | none=>-1
theorem Rb {m:Nat} (hm:1048590<=m) (l:List bF) (tx:Int) (hl:l.length<=1048576) (K:T->An):yc m (.l (rR l)) (.i tx) K=K (.i (ac2 tx l)):=by
 obtain ⟨m,rfl⟩:=aV m
 have hw:IntKind.i64.wrap ((l.length:Int)-1)=(l.length:Int)-1:=by rw [IntKind.wrap_i64]; omega
 simp only [yc,T.ah,ig,hw,wL]
 refine (OV m tx l hl l.length m (Nat.le_refl _) (by omega) _ _).trans ?_
 unfold ac2
 cases yj tx l l.length <;> rfl
theorem Ct {tx:Int} {l:List bF} : ∀ {i j:Nat},yj tx l i=some j->j<i/\(l.getD j default).tx=tx
 | 0,j,h=>by cases h
 | i+1,j,h=>by
  unfold yj at h
  split at h
  ·cases h; exact ⟨Nat.lt_succ_self _,by assumption⟩
  ·have:=Ct h; exact ⟨by omega,this.2⟩
theorem OX {tx:Int} {l:List bF} : ∀ {i:Nat},yj tx l i=none->∀ j,j<i->(l.getD j default).tx≠tx
 | 0,h,j,hj=>absurd hj (Nat.not_lt_zero _)
 | i+1,h,j,hj=>by
  unfold yj at h
  split at h
  ·cases h
  ·rename_i hne
   by_cases e:j=i
   ·subst e; exact hne
   ·exact OX h j (by omega)
theorem Ew {l:List bF} {j:Nat} (h:j<l.length):l.getD j default∈l:=by simp [List.getD,h]
theorem Wx {tx:Int} {l:List bF} : yj tx l l.length=none ↔ ∀ r∈l,r.tx≠tx:=by
 constructor
 ·intro h r hr
  obtain ⟨j,hj,rfl⟩:=List.getElem_of_mem hr
  have:=OX h j hj
  simpa [List.getD,hj] using this
 ·intro h
  cases h2:yj tx l l.length with
  | none=>rfl
  | some j =>
   obtain ⟨h3,h4⟩:=Ct h2
   exact absurd h4 (h _ (Ew h3))
theorem aei {tx:Int} {l:List bF} (hd:l.Pairwise fun a b=>a.tx≠b.tx):yj tx l l.length=qj tx l:=by
 cases h2:yj tx l l.length with
 | none=>exact (AA.2 (Wx.1 h2)).symm
 | some j =>
  obtain ⟨h3,h4⟩:=Ct h2
  cases h5:qj tx l with
  | none=>exact absurd h4 (AA.1 h5 _ (Ew h3))
  | some i =>
   have h6:=wQ h5
   have h7:=Eu h5
   congr 1
   rw [List.pairwise_iff_getElem] at hd
   rcases Nat.lt_trichotomy i j with h | h | h
   ·exact absurd (by simpa [List.getD,h3,h6] using h7.trans h4.symm) (hd i j h6 h3 h)
   ·exact h.symm
   ·exact absurd (by simpa [List.getD,h3,h6] using h4.trans h7.symm) (hd j i h3 h6 h)
theorem ac3 (a b:ByteArray):keq a b=keq b a:=by
 unfold keq
 rw [Bool.eq_iff_iff]
 simp only [beq_iff_eq]
 exact ⟨Eq.symm,Eq.symm⟩
theorem ac4 (m:Nat) (x2 x3 x4 x5 x6 x7 bT jK x0:T) (o:eX) : ∀ (post pre:List eX) (x1:Nat),pre.length+post.length<=1048576->∀ n,post.length<n->∀ k0 k1,
  gN m n x0 (.i (x1:Int)) x2 x3 x4 x5 x6 x7 (.l (rO (pre++post))) (.i ((pre++post).length:Nat)) (.i pre.length) bT (.s o.key) jK k0 k1=cond (H8 post o) (k0 (.b true)) (k1 x0 x2 x3 x4 x5 x6 x7)
 | [],pre,x1,hs,n,hn,k0,k1=>by
  obtain ⟨n,rfl⟩:=aV n
  simp only [gN,T.aj,T.ah,aM,aY,bq]
  rw [lT]
  rfl
 | x::post,pre,x1,hs,n,hn,k0,k1=>by
  obtain ⟨n,rfl⟩:=aV n
  simp only [List.length_cons] at hs hn
  have ih:=ac4 m x2 x3 x4 x5 x6 x7 bT jK x0 o post (pre++[x]) x1 (by simp; omega) n (by omega) k0 k1
  rw [aF,List.append_assoc,List.singleton_append] at ih
  have hx:(x1:Int).toNat=x1:=rfl
  simp only [gN,T.aj,T.ah,VP,bJ pre (by omega),o1,T.jN,hx,aM,aY,bq]
  rw [bM,bM]
  show _=cond (keq o.key x.key||H8 post o) _ _
  rw [ac3]
  cases h:keq x.key o.key with
  | true=>rw [aB (show (x.key.toList==o.key.toList)=true from h)]; rfl
  | false=>rw [aD (show (x.key.toList==o.key.toList)=false from h),ih]; rfl
theorem ac5 (m:Nat) (x1 x2 x3:T) (ops:List eX) (h3:ops.length<=1048576) : ∀ (oq op:List eX),op.length+oq.length<=1048576->∀ n,oq.length+ops.length+1<n->∀ k0 k1,
  gP m n (.l (rO ops)) x1 x2 x3 (.l (rO (op++oq))) (.i ((op++oq).length:Nat)) (.i op.length) k0 k1=cond (oq.any (H8 ops)) (k0 (.b true)) (k1 (.l (rO ops)) x1 x2 x3)
 | [],op,hs,n,hn,k0,k1=>by
  obtain ⟨n,rfl⟩:=aV n
  simp only [gP,T.aj,T.ah,aM,aY,bq]
  rw [lT]
  rfl
 | o::oq,op,hs,n,hn,k0,k1=>by
  obtain ⟨n,rfl⟩:=aV n
  simp only [List.length_cons] at hn hs
  have ih:=ac5 m x1 x2 x3 ops h3 oq (op++[o]) (by simp; omega) n (by omega) k0 k1
  rw [aF,List.append_assoc,List.singleton_append] at ih
  simp only [gP,T.aj,T.ah,VP,o0,o1,o2,kL,aM,aY,bq]
  rw [bM,bM]
  have l2:=ac4 m x1 x2 x3 (.l (rO (op++o::oq))) (.i ((op++o::oq).length:Nat)) (.i op.length) (.i o.kind) (.s o.val) (.l (rO ops)) o ops [] 0 (by simpa using h3) n (by omega) k0
  simp only [List.nil_append,List.length_nil,Int.natCast_zero] at l2
  refine (l2 _).trans ?_
  simp only [T.aj,bJ op (by omega),List.any_cons]
  rw [ih]
  cases H8 ops o <;> rfl
theorem ac6 (m:Nat) (ops:List eX) (h3:ops.length<=1048576) : ∀ (hq hp:List bF),(∀ r∈hq,r.ops.length<=1048576)->hp.length+hq.length<=1048576->∀ n,hq.length+ops.length+1048580<n->∀ k0 k1,
  gQ m n (.l (rO ops)) (.l (rR (hp++hq))) (.i ((hp++hq).length:Nat)) (.i hp.length) k0 k1=cond (kP hq ops) (k0 (.b true)) k1
 | [],hp,ho,hs,n,hn,k0,k1=>by
  obtain ⟨n,rfl⟩:=aV n
  simp only [gQ,T.aj,T.ah,aM,aY,bq]
  rw [lT]
  rfl
 | r::hq,hp,ho,hs,n,hn,k0,k1=>by
  obtain ⟨n,rfl⟩:=aV n
  simp only [List.length_cons] at hn hs
  have hr:=ho r (by simp)
  have ih:=ac6 m ops h3 hq (hp++[r]) (fun q hq=>ho q (by simp [hq])) (by simp; omega) n (by omega) k0 k1
  rw [aF,List.append_assoc,List.singleton_append] at ih
  simp only [gQ,T.aj,T.ah,V8,r2,kL,aM,aY,bq]
  rw [bM,bM]
  have l1:=ac5 m (.l (rR (hp++r::hq))) (.i ((hp++r::hq).length:Nat)) (.i hp.length) ops h3 r.ops [] (by simpa using hr) n (by omega) k0
  simp only [List.nil_append,List.length_nil,Int.natCast_zero] at l1
  refine (l1 _).trans ?_
  simp only [T.aj,bJ hp (by omega)]
  show cond (OB ops r) _ _=cond (OB ops r||kP hq ops) _ _
  rw [ih]
  cases OB ops r <;> rfl
theorem Wy {m:Nat} (hm:3200000<=m) (held:List bF) (ops:List eX) (h1:held.length<=1048576) (h2 : ∀ r∈held,r.ops.length<=1048576) (h3:ops.length<=1048576) (K:T->An) :
  rV m (.l (rR held)) (.l (rO ops)) K=K (.b (kP held ops)):=by
 obtain ⟨m,rfl⟩:=aV m
 simp only [rV,T.ah,ig,wL]
 refine (ac6 m ops h3 held [] h2 (by simpa using h1) m (by omega) _ _).trans ?_
 cases kP held ops <;> rfl
theorem aaE {m:Nat} (hm:1048620<=m) (r:bF) (h:FR r) (K:T->An):BU m (.i r.kind) (.i r.tx) (.l (rO r.ops)) K=K (.b (kZ r)):=by
 obtain ⟨m,rfl⟩:=aV m
 have e0:(((rO r.ops).length:Int)==0)=(r.ops.length==0):=by rw [kL]; cases r.ops <;> simp <;> omega
 have ac7 : ∀ k,pF m (.i r.tx) k=k (.b (decide (1<=r.tx/\r.tx<=1000000))):=fun k=>by
  obtain ⟨q,rfl⟩ : ∃ q,m=q+1:=⟨m-1,by omega⟩
  simp only [pF]
  exact gF (by omega) _ _ _ _
 simp only [BU,T.ah,T.aj,ac7,T.aI,e0,wL]
 unfold kZ
 by_cases k1:r.kind=1
 ·rw [aB (by simp [k1]),if_pos k1,Ci (by omega) r.ops h.ops]
  cases decide (1<=r.tx/\r.tx<=1000000) <;> rfl
 ·rw [aD (by simp [k1]),if_neg k1]
  by_cases k2:r.kind=2
  ·rw [aB (by simp [k2]),if_pos (.inl k2)]
   cases decide (1<=r.tx/\r.tx<=1000000) <;> rfl
  ·rw [aD (by simp [k2])]
   by_cases k3:r.kind=3
   ·rw [aB (by simp [k3]),if_pos (.inr k3)]
    cases decide (1<=r.tx/\r.tx<=1000000) <;> rfl
   ·rw [aD (by simp [k3]),if_neg (by simp [k2,k3])]
    cases decide (1<=r.tx/\r.tx<=1000000) <;> rfl
end Go.Proofs.YtpchnmbcbcfhjaaGreat

namespace Go.Proofs.YtpchnmbcbcfhjaaGreat
open Go Go.E Go.Proofs
theorem AJ {m:Nat} (hm:1<=m) (l:List eX) (h:l.length<=1048576) (K:T->An):bg m (.l (rO l)) K=K (.l (rO l)):=by
 obtain ⟨m,rfl⟩:=aV m
 simp only [bg,T.ah,wL]
 rw [aP (by rw [kL]; unfold ay; omega)]
theorem ac8 {m:Nat} (hm:1<=m) (l:List bF) (j:Nat) (hj:j<l.length) (K:T->An):bY m (.l (rR l)) (.i j) (.i ((j:Int)+1)) K=K (.l (rR (l.take j++l.drop (j+1)))):=by
 obtain ⟨m,rfl⟩:=aV m
 simp only [bY,T.ah,T.aj,ig]
 rw [bM,show Int.toNat (j:Int)=j from rfl,show Int.toNat ((j:Int)+1)=j+1 from rfl]
 simp [rR,List.map_take,List.map_drop]
theorem ac9 {pre:List bF} {s:St} (hI:RInv pre s) (tx:Int):decide (ac2 tx pre>=0)=decide (tx∈s.seen):=by
 apply decide_eq_decide.2
 rw [hI.seen]
 unfold ac2
 cases h:yj tx pre pre.length with
 | none =>
  have:=Wx.1 h
  constructor
  ·intro h; simp at h
  ·rintro ⟨r,h1,h2⟩; exact absurd h2 (this r h1)
 | some j =>
  obtain ⟨h3,h4⟩:=Ct h
  exact ⟨fun _=>⟨_,Ew h3,h4⟩,fun _=>by simp⟩
theorem aej {m:Nat} (hm:3200010<=m) {pre:List bF} {s:St} (hI:RInv pre s) (hs:BSt s) (hp:pre.length<=1048576) {r:bF} (hr:FR r) (hok:kZ r=true) (J:Bool->List (List T)->List (List T)->An) (k0:T->T->T->An) (k1:T->T->T->T->An)
  (h0 : ∀ b p q,k0 (.b b) (.l p) (.l q)=J b p q) (h1 : ∀ b z p q,k1 (.b b) z (.l p) (.l q)=J b p q) :
  qp m (.l (rP s.map)) (.l (rR s.held)) (.i r.kind) (.i r.tx) (.l (rO r.ops)) (.l (rR pre)) k0 k1=J (jQ s r).1 (rP (jQ s r).2.map) (rR (jQ s r).2.held):=by
 obtain ⟨m,rfl⟩:=aV m
 have hm1:=hs.map
 have hh1:=hs.held.1
 have hw : ∀ j:Nat,j<=400000->IntKind.i64.wrap ((j:Int)+1)=(j:Int)+1:=fun j hj=>by rw [IntKind.wrap_i64]; omega
 simp only [qp,T.ah,T.aj,aM,aY,wL,bq]
 rw [Rb (by omega) pre r.tx hp]
 simp only [T.aj,ac9 hI]
 unfold jQ
 rw [if_neg (by rw [hok]; decide)]
 by_cases k1':r.kind=1
 ·rw [aB (by simp [k1']),if_pos k1',Wy (by omega) s.held r.ops (by omega) (fun q hq=>by have:=(hs.held.2 q hq).1; omega) (by have:=hr.1; omega),aaD (by omega) s.map r.ops (by omega) (by have:=hr.1; omega),AJ (by omega) r.ops (by have:=hr.1; omega)]
  simp only [T.aI,T.ah]
  rw [aP (by rw [ig]; unfold ay; omega)]
  have e:(rR s.held++[[T.i 1,T.i r.tx,T.l (rO r.ops)]])=rR (s.held++[r]):=by simp [rR,bF.r,k1']
  rw [e]
  cases decide (r.tx∈s.seen) with
  | true=>simp only [Bool.true_or,if_true]; rw [aD (by decide),h0]
  | false =>
   rw [aB (by decide)]
   cases kP s.held r.ops with
   | true=>simp only [Bool.or_true,Bool.true_or,if_true]; rw [aD (by decide),h0]
   | false =>
    rw [aB (by decide)]
    cases ny s.map r.ops with
    | false=>rw [aB (by decide),h0]; rfl
    | true=>rw [aD (by decide),h0]; rfl
 ·rw [aD (by simp [k1']),if_neg k1',Rb (by omega) s.held r.tx (by omega)]
  unfold ac2
  rw [aei hI.dist]
  cases hf:qj r.tx s.held with
  | none =>
   simp only [T.aj]
   rw [bM]
   by_cases k3:r.kind=3
   ·rw [aB (by simp [k3]),h0]; simp [k3]
   ·rw [aD (by simp [k3]),h0]; rw [show (r.kind==3)=false by simp [k3]]; rfl
  | some j =>
   have hj:=wQ hf
   have hops:(s.held.getD j default).ops.length<=400000:=(hs.held.2 _ (Ew hj)).1
   simp only [T.aj,hw j (by omega),ig]
   rw [lT,ac8 (by omega) s.held j hj,show Int.toNat (j:Int)=j from rfl,ac1 s.held hj]
   simp only [r2,T.ah]
   rw [Ra (by omega) s.map (s.held.getD j default).ops (by omega)]
   simp only [T.ah,ac8 (by omega:1<=m) s.held j hj]
   by_cases k2:r.kind=2
   ·rw [aB (by simp [k2]),bM,aP hj,h1,if_pos k2,tF,ad5]
   ·rw [aD (by simp [k2]),h0,if_neg k2,tF,ad5]
theorem CJ (m:Nat) (hm:3200010<=m) : ∀ (post pre:List bF) (k:Nat) (s:St),RInv pre s->GSt k s->k+post.length<=20000->(∀ r∈post,FR r)->pre.length+post.length<=1048576->∀ n,post.length<n->∀ k0 k1,
  eD m n (.l (rR (pre++post))) (.i 0) (.l (rR (pre++post))) (.i ((pre++post).length:Nat)) (.i pre.length) (.l (rP s.map)) (.l (rR s.held)) k0 k1=match eY s post with
   | none=>k0 (.b false) (.l []) (.l [])
   | some s'=>k1 (.i 0) (.l (rP s'.map)) (.l (rR s'.held))
 | [],pre,k,s,hI,hg,hk,hr,hs,n,hn,k0,k1=>by
  obtain ⟨n,rfl⟩:=aV n
  simp only [eD,T.aj,T.ah,eY,aM,aY,wL,bq]
  rw [lT]
  rfl
 | x::post,pre,k,s,hI,hg,hk,hr,hs,n,hn,k0,k1=>by
  obtain ⟨n,rfl⟩:=aV n
  simp only [List.length_cons] at hs hn hk
  have hx:=hr x (by simp)
  simp only [eD,T.aj,T.ah,V8,bJ pre (by omega),r0,r1,r2,ig,aM,aY,wL,bq]
  rw [bM,bM,aaE (by omega) x hx]
  simp only [T.aI]
  have htk:(rR (pre++x::post)).take (Int.toNat (pre.length:Int))=rR pre:=by
   rw [show Int.toNat (pre.length:Int)=pre.length from rfl]
   simp [rR]
  unfold eY
  cases hok:kZ x with
  | false =>
   have:(jQ s x).1=false:=by unfold jQ; rw [if_pos hok]
   rw [this,aD (by decide)]; rfl
  | true =>
   rw [aB (by decide),bM,bM,htk]
   refine (aej (by omega) hI (hg.b (by omega)) (by omega) hx hok (fun b p q=>cond (!b) (k0 (.b false) (.l []) (.l [])) (eD m n (.l (rR (pre++x::post))) (T.i (((0:Int).toNat:Nat):Int)) (.l (rR (pre++x::post))) (.i ((pre++x::post).length:Nat)) (T.i ((pre.length:Int)+1)) (T.l p) (T.l q) k0 k1)) _ _ (fun b p q=>rfl) (fun b z p q=>rfl)).trans ?_
   cases h:(jQ s x).1 with
   | false=>rfl
   | true =>
    have hI':=hI.step hok (Jo h).2
    have ih:=CJ m hm post (pre++[x]) (k+1) (jQ s x).2 hI' (acB hg hx.2) (by omega) (fun r h=>hr r (by simp [h])) (by simp; omega) n (by omega) k0 k1
    rw [aF,List.append_assoc,List.singleton_append] at ih
    exact ih
theorem ah0:RInv [] st0:=⟨fun x=>by simp [st0],fun h hh=>(nomatch hh),fun r hr=>(nomatch hr),fun r hr=>(nomatch hr),List.Pairwise.nil⟩
theorem Ye {m:Nat} (hm:3200020<=m) (l:List bF) (hl:l.length<=10000) (hr : ∀ r∈l,FR r) (K:T->T->T->An) :
  qw m (.l (rR l)) K=K (.l (rP (mapOf (dw l)))) (.l (rR (Ck (dw l)))) (.b (dw l).isSome):=by
 obtain ⟨m,rfl⟩:=aV m
 simp only [qw,T.ah,ig,wL]
 refine (CJ m (by omega) l [] 0 st0 ah0 ⟨by simp [st0],by simp [st0],by simp [st0],by simp [st0]⟩ (by omega) hr (by simp; omega) m (by omega) _ _).trans ?_
 unfold dw
 cases eY st0 l <;> rfl
end Go.Proofs.YtpchnmbcbcfhjaaGreat

namespace Go.Proofs.YtpchnmbcbcfhjaaGreat
open Go Go.E Go.Proofs
def Jr {α:Type} (f:α->α->Bool):List α->List α->Bool
 | [],[]=>true
 | x::a,y::b=>f x y&&Jr f a b
 | _,_=>false
def yt (p q:aX):Bool:=keq p.key q.key&&(keq p.val q.val&&true)
def Ij (o q:eX):Bool:=(o.kind==q.kind)&&(keq o.key q.key&&(keq o.val q.val&&true))
def CK (r q:bF):Bool:=(r.kind==q.kind)&&((r.tx==q.tx)&&Jr Ij r.ops q.ops)
theorem Zt {α:Type} {f:α->α->Bool} : ∀ {a b:List α},Jr f a b=true->a.length=b.length
 | [],[],_=>rfl
 | x::a,y::b,h=>by
  unfold Jr at h
  simp only [Bool.and_eq_true] at h
  simp [Zt h.2]
 | [],_::_,h=>by cases h
 | _::_,[],h=>by cases h
theorem AO {α:Type} {f:α->α->Bool} : ∀ (a:List α),(∀ x∈a,f x x=true)->Jr f a a=true
 | [],_=>rfl
 | x::a,h=>by
  unfold Jr
  rw [h x (by simp),AO a fun y hy=>h y (by simp [hy])]
  rfl
theorem Wz (a:ByteArray):keq a a=true:=by unfold keq; simp
theorem Js (o:eX):Ij o o=true:=by unfold Ij; simp [Wz]
theorem WA (o:aX):yt o o=true:=by unfold yt; simp [Wz]
theorem Yf (r:bF):CK r r=true:=by unfold CK; simp [AO r.ops fun o _=>Js o]
theorem aj8 (pre pre':List aX) (x:aX) (post:List aX) (h:pre.length=pre'.length):(rP (pre'++x::post)).getD (Int.toNat (pre.length:Int)) []=x.r:=by rw [h]; exact ixP _ _ _
theorem aj9 (pre pre':List eX) (x:eX) (post:List eX) (h:pre.length=pre'.length):(rO (pre'++x::post)).getD (Int.toNat (pre.length:Int)) []=x.r:=by rw [h]; exact VP _ _ _
theorem akb (pre pre':List bF) (x:bF) (post:List bF) (h:pre.length=pre'.length):(rR (pre'++x::post)).getD (Int.toNat (pre.length:Int)) []=x.r:=by rw [h]; exact V8 _ _ _
theorem Yg {α β:Type} {a:List α} {b:List β} (h:a.length≠b.length):((a.length:Int) != (b.length:Int))=true:=by simp; omega
theorem Yh {α β:Type} {a:List α} {b:List β} (h:a.length=b.length):((a.length:Int) != (b.length:Int))=false:=by simp [h]
theorem Rc (m:Nat) : ∀ (post post' pre pre':List aX),pre.length=pre'.length->post.length=post'.length->pre.length+post.length<=1048576->∀ n,post.length<n->∀ k0 k1,
  bE m n (.l (rP (pre++post))) (.l (rP (pre'++post'))) (.i ((pre++post).length:Nat)) (.i pre.length) k0 k1=cond (Jr yt post post') k1 (k0 (.b false))
 | [],[],pre,pre',h1,h2,hs,n,hn,k0,k1=>by
  obtain ⟨n,rfl⟩:=aV n
  simp only [bE,T.aj,T.ah,aM,aY,bq]
  rw [lT]
  rfl
 | x::post,y::post',pre,pre',h1,h2,hs,n,hn,k0,k1=>by
  obtain ⟨n,rfl⟩:=aV n
  simp only [List.length_cons] at hs hn h2
  have ih:=Rc m post post' (pre++[x]) (pre'++[y]) (by simp [h1]) (by omega) (by simp; omega) n (by omega) k0 k1
  rw [aF,List.append_assoc,List.singleton_append,List.append_assoc,List.singleton_append] at ih
  simp only [bE,T.aj,T.ah,ixP,aj8 pre pre' y post' h1,bJ pre (by omega),p0,p1,T.jN,aM,aY,bq]
  rw [bM,bM,bM,ih]
  show cond (!(yt x y)) _ _=cond (yt x y&&Jr yt post post') _ _
  cases yt x y <;> rfl
 | [],_::_,_,_,_,h2,_,_,_,_,_=>by simp at h2
 | _::_,[],_,_,_,h2,_,_,_,_,_=>by simp at h2
theorem Yi {α:Type} {f:α->α->Bool} {a b:List α} (h:a.length≠b.length):Jr f a b=false:=by
 cases h2:Jr f a b with
 | false=>rfl
 | true=>exact absurd (Zt h2) h
theorem akc {m:Nat} (hm:1048590<=m) (a b:List aX) (ha:a.length<=1048576) (K:T->An):dJ m (.l (rP a)) (.l (rP b)) K=K (.b (Jr yt a b)):=by
 obtain ⟨m,rfl⟩:=aV m
 simp only [dJ,T.ah,tF,wL]
 by_cases h:a.length=b.length
 ·rw [aD (Yh h)]
  refine (Rc m a b [] [] rfl h (by simpa using ha) m (by omega) _ _).trans ?_
  cases Jr yt a b <;> rfl
 ·rw [aB (Yg h),Yi h]
theorem Rf (m:Nat) : ∀ (post post' pre pre':List eX),pre.length=pre'.length->post.length=post'.length->pre.length+post.length<=1048576->∀ n,post.length<n->∀ k0 k1,
  bL m n (.l (rO (pre++post))) (.l (rO (pre'++post'))) (.i ((pre++post).length:Nat)) (.i pre.length) k0 k1=cond (Jr Ij post post') k1 (k0 (.b false))
 | [],[],pre,pre',h1,h2,hs,n,hn,k0,k1=>by
  obtain ⟨n,rfl⟩:=aV n
  simp only [bL,T.aj,T.ah,aM,aY,bq]
  rw [lT]
  rfl
 | x::post,y::post',pre,pre',h1,h2,hs,n,hn,k0,k1=>by
  obtain ⟨n,rfl⟩:=aV n
  simp only [List.length_cons] at hs hn h2
  have ih:=Rf m post post' (pre++[x]) (pre'++[y]) (by simp [h1]) (by omega) (by simp; omega) n (by omega) k0 k1
  rw [aF,List.append_assoc,List.singleton_append,List.append_assoc,List.singleton_append] at ih
  simp only [bL,T.aj,T.ah,VP,aj9 pre pre' y post' h1,bJ pre (by omega),o0,o1,o2,T.jN,aM,aY,bq]
  rw [bM,bM,bM,ih]
  show cond (!(Ij x y)) _ _=cond (Ij x y&&Jr Ij post post') _ _
  cases Ij x y <;> rfl
 | [],_::_,_,_,_,h2,_,_,_,_,_=>by simp at h2
 | _::_,[],_,_,_,h2,_,_,_,_,_=>by simp at h2
theorem agp {m:Nat} (hm:1048590<=m) (a b:List eX) (ha:a.length<=1048576) (K:T->An):bU m (.l (rO a)) (.l (rO b)) K=K (.b (Jr Ij a b)):=by
 obtain ⟨m,rfl⟩:=aV m
 simp only [bU,T.ah,kL,wL]
 by_cases h:a.length=b.length
 ·rw [aD (Yh h)]
  refine (Rf m a b [] [] rfl h (by simpa using ha) m (by omega) _ _).trans ?_
  cases Jr Ij a b <;> rfl
 ·rw [aB (Yg h),Yi h]
theorem WB {m:Nat} (hm:1048600<=m) (r q:bF) (h:r.ops.length<=1048576) (K:T->An):wM m (.i r.kind) (.i r.tx) (.l (rO r.ops)) (.i q.kind) (.i q.tx) (.l (rO q.ops)) K=K (.b (CK r q)):=by
 obtain ⟨m,rfl⟩:=aV m
 simp only [wM,T.ah,T.aj,wL]
 rw [agp (by omega) r.ops q.ops h]
 simp only [T.aI]
 unfold CK
 cases h1:r.kind==q.kind with
 | false=>rfl
 | true =>
  cases h2:r.tx==q.tx with
  | false=>rfl
  | true=>rfl
theorem Rh (m:Nat) (hm:1048600<=m) : ∀ (post post' pre pre':List bF),pre.length=pre'.length->post.length=post'.length->pre.length+post.length<=1048576->(∀ r∈post,r.ops.length<=1048576)->∀ n,post.length<n->∀ k0 k1,
  aJ m n (.l (rR (pre'++post'))) (.l (rR (pre++post))) (.i ((pre++post).length:Nat)) (.i pre.length) k0 k1=cond (Jr CK post post') k1 (k0 (.b false))
 | [],[],pre,pre',h1,h2,hs,ho,n,hn,k0,k1=>by
  obtain ⟨n,rfl⟩:=aV n
  simp only [aJ,T.aj,T.ah,aM,aY,wL,bq]
  rw [lT]
  rfl
 | x::post,y::post',pre,pre',h1,h2,hs,ho,n,hn,k0,k1=>by
  obtain ⟨n,rfl⟩:=aV n
  simp only [List.length_cons] at hs hn h2
  have ih:=Rh m hm post post' (pre++[x]) (pre'++[y]) (by simp [h1]) (by omega) (by simp; omega) (fun r hr=>ho r (by simp [hr])) n (by omega) k0 k1
  rw [aF,List.append_assoc,List.singleton_append,List.append_assoc,List.singleton_append] at ih
  simp only [aJ,T.aj,T.ah,V8,akb pre pre' y post' h1,bJ pre (by omega),r0,r1,r2,aM,aY,wL,bq]
  rw [bM,bM,bM,WB hm x y (ho x (by simp)),ih]
  simp only [T.aI]
  show cond (!(CK x y)) _ _=cond (CK x y&&Jr CK post post') _ _
  cases CK x y <;> rfl
 | [],_::_,_,_,_,h2,_,_,_,_,_,_=>by simp at h2
 | _::_,[],_,_,_,h2,_,_,_,_,_,_=>by simp at h2
theorem akd {m:Nat} (hm:1048610<=m) (a b:List bF) (ha:a.length<=1048576) (ho : ∀ r∈a,r.ops.length<=1048576) (K:T->An):bC m (.l (rR a)) (.l (rR b)) K=K (.b (Jr CK a b)):=by
 obtain ⟨m,rfl⟩:=aV m
 simp only [bC,T.ah,ig,wL]
 by_cases h:a.length=b.length
 ·rw [aD (Yh h)]
  refine (Rh m (by omega) a b [] [] rfl h (by simpa using ha) ho m (by omega) _ _).trans ?_
  cases Jr CK a b <;> rfl
 ·rw [aB (Yg h),Yi h]
end Go.Proofs.YtpchnmbcbcfhjaaGreat

namespace Go.Proofs.YtpchnmbcbcfhjaaGreat
open Go Go.E Go.Proofs
theorem ada : ∀ {l:List bF} {k:Nat} {s s':St},GSt k s->(∀ r∈l,∀ o∈r.ops,BOp o)->eY s l=some s'->GSt (k+l.length) s'
 | [],k,s,s',h,ho,e=>by unfold eY at e; cases e; exact h
 | r::l,k,s,s',h,ho,e=>by
  unfold eY at e
  split at e
  ·have:=ada (acB h (ho r (by simp))) (fun q hq=>ho q (by simp [hq])) e
   rw [List.length_cons]
   exact this.mono (by omega)
  ·cases e
def yu (s:aH):Bool:=decide (0<=s.id/\s.id<=7)&&(decide (0<=s.sure/\s.sure<=(s.log.length:Int))&&(decide (s.log.length+s.held.length<=300)&&((dw s.log).isSome&&(Jr yt (mapOf (dw s.log)) s.map&&Jr CK (Ck (dw s.log)) s.held))))
structure Yj (s:aH):Prop where
 log:s.log.length<=1048576
 held:s.held.length<=1048576
 map:s.map.length<=1048576
 recs : ∀ r∈s.log,FR r
theorem Yk {l:List bF} (hl:l.length<=300) (hr : ∀ r∈l,FR r):(mapOf (dw l)).length<=1048576/\(Ck (dw l)).length<=1048576 /\ ∀ r∈Ck (dw l),r.ops.length<=1048576:=by
 cases h:dw l with
 | none=>exact ⟨by simp [mapOf],by simp [Ck],fun r hr=>(nomatch hr)⟩
 | some s =>
  have:=ada (k:=0) (s:=st0) ⟨by simp [st0],by simp [st0],by simp [st0],by simp [st0]⟩ (fun r h=>(hr r h).2) h
  refine ⟨by show s.map.length<=_; have:=this.map; omega,by show s.held.length<=_; have:=this.EZ; omega,fun r hr=>?_⟩
  have:=(this.held r hr).1
  omega
theorem aaF {m:Nat} (hm:3200100<=m) (s:aH) (h:Yj s) (K:T->An):wN m (.i s.id) (.l (rR s.log)) (.i s.sure) (.l (rP s.map)) (.l (rR s.held)) K=K (.b (yu s)):=by
 obtain ⟨m,rfl⟩:=aV m
 have hl:=h.log
 have hh:=h.held
 have hw:IntKind.i64.wrap ((s.log.length:Int)+(s.held.length:Int))=(s.log.length:Int)+(s.held.length:Int):=by rw [IntKind.wrap_i64]; omega
 have hid : ∀ k,sW m (.i s.id) k=k (.b (decide (0<=s.id/\s.id<=7))):=fun k=>by
  obtain ⟨q,rfl⟩ : ∃ q,m=q+1:=⟨m-1,by omega⟩
  simp only [sW]
  exact gF (by omega) _ _ _ _
 simp only [wN,jn,T.ah,T.aj,hid,ig,hw,wL]
 rw [gF (by omega)]
 simp only [T.aI]
 unfold yu
 cases decide (0<=s.id/\s.id<=7) with
 | false=>rfl
 | true =>
  rw [aB (by decide)]
  cases decide (0<=s.sure/\s.sure<=(s.log.length:Int)) with
  | false=>rfl
  | true =>
   rw [aB (by decide)]
   by_cases h3:s.log.length+s.held.length<=300
   ·obtain ⟨b1,b2,b3⟩:=Yk (l:=s.log) (by omega) h.recs
    rw [lT,Ye (by omega) s.log (by omega) h.recs,decide_eq_true h3]
    simp only [T.aI,T.ah,akc (show 1048590<=m by omega) _ s.map b1,akd (show 1048610<=m by omega) _ s.held b2 b3]
    cases (dw s.log).isSome with
    | false=>rfl
    | true=>cases Jr yt (mapOf (dw s.log)) s.map <;> rfl
   ·rw [bM,decide_eq_false h3]; rfl
def Ey (x:bG):Bool:=decide (0<=x.bR/\x.bR<=7)&&(decide (1<=x.tx/\x.tx<=1000000)&&(if x.kind=1 then gG x.ops && !x.yes else if x.kind=2\/x.kind=3 then x.ops.length==0 else if x.kind=4 then (x.ops.length==0) && !x.yes else false))
theorem adb {m:Nat} (hm:1048700<=m) (x:bG) (h:qh x.ops) (K:T->An):zo m (.i x.kind) (.i x.bR) (.i x.tx) (.l (rO x.ops)) (.b x.yes) K=K (.b (Ey x)):=by
 obtain ⟨m,rfl⟩:=aV m
 have e0:(((rO x.ops).length:Int)==0)=(x.ops.length==0):=by rw [kL]; cases x.ops <;> simp <;> omega
 have hid : ∀ k,sW m (.i x.bR) k=k (.b (decide (0<=x.bR/\x.bR<=7))):=fun k=>by
  obtain ⟨q,rfl⟩ : ∃ q,m=q+1:=⟨m-1,by omega⟩
  simp only [sW]
  exact gF (by omega) _ _ _ _
 have ac7 : ∀ k,pF m (.i x.tx) k=k (.b (decide (1<=x.tx/\x.tx<=1000000))):=fun k=>by
  obtain ⟨q,rfl⟩ : ∃ q,m=q+1:=⟨m-1,by omega⟩
  simp only [pF]
  exact gF (by omega) _ _ _ _
 simp only [zo,jn,T.ah,T.aj,hid,ac7,T.aI,e0,wL]
 rw [Ci (by omega) x.ops h]
 simp only [T.aI]
 unfold Ey
 cases decide (0<=x.bR/\x.bR<=7) with
 | false=>rfl
 | true =>
  rw [aB (by decide)]
  cases decide (1<=x.tx/\x.tx<=1000000) with
  | false=>rfl
  | true =>
   rw [aD (by decide),Bool.true_and,Bool.true_and]
   by_cases k1:x.kind=1
   ·rw [aB (by simp [k1]),if_pos k1]; cases gG x.ops <;> rfl
   ·rw [aD (by simp [k1]),if_neg k1]
    by_cases k2:x.kind=2
    ·rw [aB (by simp [k2]),if_pos (.inl k2)]; rfl
    ·rw [aD (by simp [k2])]
     by_cases k3:x.kind=3
     ·rw [if_pos (.inr k3),aB (by simp [k3])]
     ·rw [if_neg (by simp [k2,k3]),aD (by simp [k3])]
      by_cases k4:x.kind=4
      ·rw [aB (by simp [k4]),if_pos k4]; cases x.ops.length==0 <;> rfl
      ·rw [aD (by simp [k4]),if_neg k4]
end Go.Proofs.YtpchnmbcbcfhjaaGreat

namespace Go.Proofs.YtpchnmbcbcfhjaaGreat
open Go Go.E Go.Proofs
abbrev wS (w:aA):List T:=[.i w.c.n,.i w.c.life,.i w.c.next,.l (rJ w.c.jobs),.l (rC w.c.log),.i w.c.sure,.l (rS w.av),.l (rW w.net),.l (rW w.outs),.l (rB w.begun)]
structure CW (w:aA):Prop where
 jobs:aeU w.c.jobs
 log:w.c.log.length<=1048576
 shl:w.av.length<=1048576
 sh : ∀ s∈w.av,Yj s
 zZ:w.net.length<=1048576
 net : ∀ x∈w.net,qh x.ops
 CV:w.outs.length<=1048576
 outs : ∀ x∈w.outs,qh x.ops
 z8:w.begun.length<=1048576
 yh : ∀ o∈w.begun,qh o.ops
theorem pY (r:List T):cO (.l [r])=r:=rfl
theorem wr3 (w:aA):((wS w).drop 3).getD 0 dflt = .l (rJ w.c.jobs):=rfl
theorem wr4 (w:aA):((wS w).drop 4).getD 0 dflt = .l (rC w.c.log):=rfl
theorem wr5 (w:aA):((wS w).drop 5).getD 0 dflt = .i w.c.sure:=rfl
theorem wr6 (w:aA):((wS w).drop 6).getD 0 dflt = .l (rS w.av):=rfl
theorem wr9 (w:aA):((wS w).drop 9).getD 0 dflt = .l (rB w.begun):=rfl
theorem wt6 (w:aA):(wS w).take 6=Jl w.c.n w.c.life w.c.next (rJ w.c.jobs) (rC w.c.log) (.i w.c.sure):=rfl
theorem agq (w:aA):(wS w).take 10=wS w:=rfl
theorem wo0 (x:bG):x.r.getD 0 dflt = .i x.kind:=rfl
theorem wo1 (x:bG):x.r.getD 1 dflt = .i x.bR:=rfl
theorem wo2 (x:bG):x.r.getD 2 dflt = .i x.tx:=rfl
theorem wo3 (x:bG):x.r.getD 3 dflt = .l (rO x.ops):=rfl
theorem wo4 (x:bG):x.r.getD 4 dflt = .b x.yes:=rfl
theorem ixB (pre:List bS) (x:bS) (post:List bS):(rB (pre++x::post)).getD (Int.toNat (pre.length:Int)) []=x.r:=by simp [List.getD]
theorem b0 (x:bS):x.r.getD 0 dflt = .i x.tx:=rfl
theorem b1' (x:bS):x.r.getD 1 dflt = .l (rO x.ops):=rfl
theorem bd1 (x:bS):(x.r.drop 1).getD 0 dflt = .l (rO x.ops):=rfl
theorem TT (l:List bS) {j:Nat} (h:j<l.length):(rB l).getD j []=(l.getD j default).r:=by simp [List.getD,h]
def Kh (k:Nat) (x:bG):Bool:=Ey x&&decide (x.bR<(k:Int))
def FW (k:Nat) (l:List bG):Bool:=l.all (Kh k)&&decide (l.length<=400)
theorem ah2 (n:Nat):decide ((n:Int)<=400)=decide (n<=400):=decide_eq_decide.2 (by omega)
theorem ah3 (a b:Int):decide (a>=b) = !decide (a<b):=by
 by_cases h:a<b
 ·rw [decide_eq_true h,decide_eq_false (by omega)]; rfl
 ·rw [decide_eq_false h,decide_eq_true (by omega)]; rfl
theorem Ki (m:Nat) (hm:1048700<=m) (w:aA) (x1:T) : ∀ (post pre:List bG),(∀ x∈post,qh x.ops)->pre.length+post.length<=1048576->∀ n,post.length<n->∀ k0 k1,
  dW m n (.l [wS w]) x1 (.l (rW (pre++post))) (.i ((pre++post).length:Nat)) (.i pre.length) k0 k1=cond (post.all (Kh w.av.length)) (k1 x1) (k0 (.b false))
 | [],pre,ho,hs,n,hn,k0,k1=>by
  obtain ⟨n,rfl⟩:=aV n
  simp only [dW,T.aj,T.ah,aM,aY,wL,bq]
  rw [lT]
  rfl
 | x::post,pre,ho,hs,n,hn,k0,k1=>by
  obtain ⟨n,rfl⟩:=aV n
  simp only [List.length_cons] at hs hn
  have ih:=Ki m hm w x1 post (pre++[x]) (fun y hy=>ho y (by simp [hy])) (by simp; omega) n (by omega) k0 k1
  rw [aF,List.append_assoc,List.singleton_append] at ih
  simp only [dW,T.aj,T.ah,ixW,bJ pre (by omega),wo0,wo1,wo2,wo3,wo4,pY,wr6,rZ,aM,aY,wL,bq]
  rw [bM,bM,adb hm x (ho x (by simp)),ih,ah3]
  simp only [T.aI,List.all_cons]
  unfold Kh
  cases Ey x with
  | false=>rfl
  | true=>cases decide (x.bR<(w.av.length:Int)) <;> rfl
theorem Ri {m:Nat} (hm:1048710<=m) (w:aA) (l:List bG) (hl:l.length<=1048576) (ho : ∀ x∈l,qh x.ops) (K:T->An):kK m (.l [wS w]) (.l (rW l)) K=K (.b (FW w.av.length l)):=by
 obtain ⟨m,rfl⟩:=aV m
 simp only [kK,T.ah,jS,pY,wL]
 refine (Ki m (by omega) w (.l (rW l)) l [] ho (by simpa using hl) m (by omega) _ _).trans ?_
 unfold FW
 simp only [T.ah,jS,ah2]
 cases l.all (Kh w.av.length) <;> rfl
def mK (tx:Int):List bS->Option Nat
 | []=>none
 | o::l=>if o.tx=tx then some 0 else (mK tx l).map (· + 1)
theorem WC {tx:Int} : ∀ {l:List bS} {j:Nat},mK tx l=some j->j<l.length
 | [],j,h=>by cases h
 | r::l,j,h=>by
  unfold mK at h
  split at h
  ·cases h; simp
  ·cases h2:mK tx l with
   | none=>rw [h2] at h; cases h
   | some i=>rw [h2] at h; cases h; have:=WC h2; simp; omega
def sD (tx:Int) (l:List bS):Int:=match mK tx l with | some j=>(j:Int) | none=>-1
theorem Rj (m:Nat) (hm:1<=m) (tx:Int) : ∀ (post pre:List bS),pre.length+post.length<=1048576->∀ n,post.length<n->∀ k0 k1,
  aU m n (.l (rB (pre++post))) (.l [[.i tx]]) (.i ((pre++post).length:Nat)) (.i pre.length) k0 k1=(match mK tx post with | some j=>k0 (.i ((pre.length+j:Nat):Int)) | none=>k1)
 | [],pre,hs,n,hn,k0,k1=>by
  obtain ⟨n,rfl⟩:=aV n
  simp only [aU,T.aj,T.ah,aM,aY,wL,bq]
  rw [lT]
  rfl
 | x::post,pre,hs,n,hn,k0,k1=>by
  obtain ⟨n,rfl⟩:=aV n
  obtain ⟨m,rfl⟩:=aV m
  simp only [List.length_cons] at hs hn
  have ih:=Rj (m+1) hm tx post (pre++[x]) (by simp; omega) n (by omega) k0 k1
  rw [aF,List.append_assoc,List.singleton_append] at ih
  have r1:cO (.l [[T.i tx]])=[T.i tx]:=rfl
  simp only [aU,oN,T.aj,T.ah,ixB,bJ pre (by omega),r1,List.getD_cons_zero,T.aI,b0,aM,aY,wL,bq]
  rw [bM,bM]
  unfold mK
  by_cases h:x.tx=tx
  ·rw [aB (by simp [h]),if_pos h]; rfl
  ·rw [aD (by simp [h]),if_neg h]
   refine Eq.trans ih ?_
   cases mK tx post with
   | none=>rfl
   | some j=>simp only [Option.map_some]; congr 3; simp; omega
theorem AP {m:Nat} (hm:1048600<=m) (w:aA) (tx:Int) (hl:w.begun.length<=1048576) (K:T->An):eF m (.l [wS w]) (.i tx) K=K (.i (sD tx w.begun)):=by
 obtain ⟨m,rfl⟩:=aV m
 obtain ⟨m,rfl⟩:=aV m
 simp only [eF,dN,pY,wr9,T.ah,vP,wL]
 refine (Rj m (by omega) tx w.begun [] (by simp; omega) m (by omega) _ _).trans ?_
 unfold sD
 cases mK tx w.begun <;> simp
theorem Rk (m:Nat) (tx:Int) (x3 x4 x5 x6 x7 x8 x9 x10 bT:T) : ∀ (post pre:List bS),pre.length+post.length<=1048576->∀ n,post.length<n->∀ k0 k1,
  iT m n (.i tx) (.i 0) (.i pre.length) x3 x4 x5 x6 x7 x8 x9 x10 bT (.l (rB (pre++post))) k0 k1=(match mK tx post with | some j=>k0 (.i ((pre.length+j:Nat):Int)) | none=>k1)
 | [],pre,hs,n,hn,k0,k1=>by
  obtain ⟨n,rfl⟩:=aV n
  simp only [iT,T.aj,T.ah,aM,aY,mU,bq]
  rw [lT]
  rfl
 | x::post,pre,hs,n,hn,k0,k1=>by
  obtain ⟨n,rfl⟩:=aV n
  simp only [List.length_cons] at hs hn
  have ih:=Rk m tx x3 x4 x5 x6 x7 x8 x9 x10 bT post (pre++[x]) (by simp; omega) n (by omega) k0 k1
  rw [aF,List.append_assoc,List.singleton_append] at ih
  have hz:((((0:Int).toNat:Nat)):Int)=0:=rfl
  simp only [iT,T.aj,T.ah,ixB,bJ pre (by omega),b0,hz,aM,aY,mU,bq]
  rw [bM,bM]
  unfold mK
  by_cases h:x.tx=tx
  ·rw [aB (by simp [h]),if_pos h]; rfl
  ·rw [aD (by simp [h]),if_neg h]
   refine Eq.trans ih ?_
   cases mK tx post with
   | none=>rfl
   | some j=>simp only [Option.map_some]; congr 3; simp; omega
theorem aaG {m:Nat} (hm:1048600<=m) (x0 x1 x2 x5:T) (l3 l4 l6 l7 l8:List (List T)) (l:List bS) (tx:Int) (hl:l.length<=1048576) (K:T->An) :
  uE m x0 x1 x2 (.l l3) (.l l4) x5 (.l l6) (.l l7) (.l l8) (.l (rB l)) (.i tx) K=K (.i (sD tx l)):=by
 obtain ⟨m,rfl⟩:=aV m
 simp only [uE,T.ah,wL]
 refine (Rk m tx x0 x1 x2 (.l l3) (.l l4) x5 (.l l6) (.l l7) (.l l8) l [] (by simp; omega) m (by omega) _ _).trans ?_
 unfold sD
 cases mK tx l <;> simp
end Go.Proofs.YtpchnmbcbcfhjaaGreat

namespace Go.Proofs.YtpchnmbcbcfhjaaGreat
open Go Go.E Go.Proofs
def aek (life next:Int) (full:List bS) (i:Nat) (o:bS):Bool:=gG o.ops&&(decide (1000<=o.tx/\o.tx<=life * 1000+next-1)&&(sD o.tx full==(i:Int)))
def OY (life next:Int) (full:List bS):Nat->List bS->Bool
 | _,[]=>true
 | i,o::l=>aek life next full i o&&OY life next full (i+1) l
def aaH (full:List bS) (c:aQ):Bool:=!decide (sD c.tx full<0)
def aaI (full:List bS) (j:fM):Bool:=!decide (sD j.tx full<0)&&Jr Ij (full.getD (sD j.tx full).toNat default).ops j.ops
def FX (w:aA):Bool:=OY w.c.life w.c.next w.begun 0 w.begun&&(w.c.log.all (aaH w.begun)&&(w.c.jobs.all (aaI w.begun)&&decide (w.begun.length<=1000)))
theorem Ik {tx:Int} {l:List bS} (h : ¬ sD tx l<0) : ∃ j:Nat,sD tx l=j/\j<l.length:=by
 unfold sD at h ⊢
 cases h2:mK tx l with
 | none=>rw [h2] at h; simp at h
 | some j=>exact ⟨j,rfl,WC h2⟩
theorem D8 {l:List bS} {j:Nat} (h:j<l.length):l.getD j default∈l:=by simp [List.getD,h]
section
variable (m:Nat) (w:aA) (h1:1<=w.c.life/\w.c.life<=900) (h2:0<=w.c.next/\w.c.next<=999) (hb:w.begun.length<=1048576) (Sy : ∀ o∈w.begun,qh o.ops)
include hb
theorem ae7 (hm:1048700<=m) (h1:1<=w.c.life/\w.c.life<=900) (h2:0<=w.c.next/\w.c.next<=999) : ∀ (post pre:List bS),(∀ o∈post,qh o.ops)->pre.length+post.length<=1048576->∀ n,post.length<n->∀ k0 k1,
  dZ m n (.l [wS w]) (.l (rB (pre++post))) (.i ((pre++post).length:Nat)) (.i pre.length) k0 k1=cond (OY w.c.life w.c.next w.begun pre.length post) (k1 (.l [wS w])) (k0 (.b false))
 | [],pre,ho,hs,n,hn,k0,k1=>by
  obtain ⟨n,rfl⟩:=aV n
  simp only [dZ,T.aj,T.ah,pY,aM,aY,wL,bq]
  rw [lT]
  rfl
 | x::post,pre,ho,hs,n,hn,k0,k1=>by
  obtain ⟨n,rfl⟩:=aV n
  simp only [List.length_cons] at hs hn
  have ih:=ae7 hm h1 h2 post (pre++[x]) (fun y hy=>ho y (by simp [hy])) (by simp; omega) n (by omega) k0 k1
  rw [aF,List.append_assoc,List.singleton_append,show (pre++[x]).length=pre.length+1 by simp] at ih
  simp only [dZ,T.aj,T.ah,ixB,bJ pre (by omega),b0,b1',pY,wt6,agq,aM,aY,wL,bq]
  rw [bM,bM,Ci (by omega) x.ops (ho x (by simp)),X0 (by omega) _ _ _ _ _ _ h1 h2]
  simp only [T.aj,T.aI]
  rw [wrap_i64 (by omega) (by omega),gF (by omega)]
  simp only [T.aI]
  rw [AP (by omega) w x.tx hb,ih]
  simp only [T.aj]
  show _=cond (aek _ _ _ _ _&&_) _ _
  unfold aek
  cases gG x.ops with
  | false=>rfl
  | true =>
   rw [aB (by decide)]
   cases decide (1000<=x.tx/\x.tx<=w.c.life * 1000+w.c.next-1) with
   | false=>rfl
   | true =>
    rw [aB (by decide)]
    by_cases h:sD x.tx w.begun=(pre.length:Int)
    ·rw [aD (by simp [h])]; simp [h]
    ·rw [aB (by simp [h]),show (sD x.tx w.begun==(pre.length:Int))=false by simp [h]]; rfl
theorem ae8 (hm:1048700<=m) : ∀ (post pre:List aQ),pre.length+post.length<=1048576->∀ n,post.length<n->∀ k0 k1,
  dY m n (.l [wS w]) (.l (rC (pre++post))) (.i ((pre++post).length:Nat)) (.i pre.length) k0 k1=cond (post.all (aaH w.begun)) (k1 (.l [wS w])) (k0 (.b false))
 | [],pre,hs,n,hn,k0,k1=>by
  obtain ⟨n,rfl⟩:=aV n
  simp only [dY,T.aj,T.ah,pY,aM,aY,bq]
  rw [lT]
  rfl
 | x::post,pre,hs,n,hn,k0,k1=>by
  obtain ⟨n,rfl⟩:=aV n
  simp only [List.length_cons] at hs hn
  have ih:=ae8 hm post (pre++[x]) (by simp; omega) n (by omega) k0 k1
  rw [aF,List.append_assoc,List.singleton_append] at ih
  simp only [dY,T.aj,T.ah,ixC,bJ pre (by omega),c0,pY,agq,aM,aY,bq]
  rw [bM,bM,AP (by omega) w x.tx hb,ih]
  simp only [T.aj,List.all_cons,aaH]
  cases decide (sD x.tx w.begun<0) <;> rfl
theorem ae9 (hm:1048700<=m) (Sy : ∀ o∈w.begun,qh o.ops) : ∀ (post pre:List fM),pre.length+post.length<=1048576->∀ n,post.length<n->∀ k0 k1,
  dX m n (.l [wS w]) (.l (rJ (pre++post))) (.i ((pre++post).length:Nat)) (.i pre.length) k0 k1=cond (post.all (aaI w.begun)) (k1 (.l [wS w])) (k0 (.b false))
 | [],pre,hs,n,hn,k0,k1=>by
  obtain ⟨n,rfl⟩:=aV n
  simp only [dX,T.aj,T.ah,pY,aM,aY,wL,bq]
  rw [lT]
  rfl
 | x::post,pre,hs,n,hn,k0,k1=>by
  obtain ⟨n,rfl⟩:=aV n
  simp only [List.length_cons] at hs hn
  have ih:=ae9 hm Sy post (pre++[x]) (by simp; omega) n (by omega) k0 k1
  rw [aF,List.append_assoc,List.singleton_append] at ih
  simp only [dX,T.aj,T.ah,ixJ,bJ pre (by omega),j0,j1,pY,agq,wr9,vP,aM,aY,wL,bq]
  rw [bM,bM,AP (by omega) w x.tx hb,ih]
  simp only [T.aj,List.all_cons,aaI]
  by_cases h:sD x.tx w.begun<0
  ·rw [decide_eq_true h]; rfl
  ·obtain ⟨j,hj,hjl⟩:=Ik h
   rw [decide_eq_false h,hj,aB (by decide),bM,show Int.toNat (j:Int)=j from rfl,TT w.begun hjl,bd1]
   simp only [T.ah]
   rw [agp (by omega) _ x.ops (Sy _ (D8 hjl)).1]
   simp only [T.aI,Bool.not_false,Bool.true_and]
   cases Jr Ij (w.begun.getD j default).ops x.ops <;> rfl
theorem aaJ (hm:1048710<=m) (h1:1<=w.c.life/\w.c.life<=900) (h2:0<=w.c.next/\w.c.next<=999) (Sy : ∀ o∈w.begun,qh o.ops) (hj:w.c.jobs.length<=1048576) (hl:w.c.log.length<=1048576) (K:T->An) :
  ni m (.l [wS w]) K=K (.b (FX w)):=by
 obtain ⟨m,rfl⟩:=aV m
 simp only [ni,pY,wr9,T.ah,vP]
 refine (ae7 m w hb (by omega) h1 h2 w.begun [] Sy (by simpa using hb) m (by omega) _ _).trans ?_
 unfold FX
 simp only [List.length_nil]
 cases OY w.c.life w.c.next w.begun 0 w.begun with
 | false=>rfl
 | true =>
  simp only [cond_true,pY,wr4,wr3,wr9,T.ah,jI,TH,vP,Bool.true_and]
  refine (ae8 m w hb (by omega) w.c.log [] (by simpa using hl) m (by omega) _ _).trans ?_
  cases w.c.log.all (aaH w.begun) with
  | false=>rfl
  | true =>
   simp only [cond_true,pY,wr4,wr3,wr9,T.ah,jI,TH,vP,Bool.true_and]
   refine (ae9 m w hb (by omega) Sy w.c.jobs [] (by simpa using hj) m (by omega) _ _).trans ?_
   cases w.c.jobs.all (aaI w.begun) with
   | false=>rfl
   | true=>simp only [cond_true,pY,wr9,T.ah,vP,Bool.true_and]; congr 2; exact decide_eq_decide.2 (by omega)
end
section
variable (m:Nat) (N life next sure:Int) (jobs:List fM) (log:List aQ) (l8 l9 l10:List (List T)) (yh:List bS) (hb:yh.length<=1048576)
include hb
end
end Go.Proofs.YtpchnmbcbcfhjaaGreat

namespace Go.Proofs.YtpchnmbcbcfhjaaGreat
open Go Go.E Go.Proofs
def vw:Nat->List aH->Bool
 | _,[]=>true
 | i,s::l=>(s.id==(i:Int))&&(yu s&&vw (i+1) l)
def AQ (w:aA):Bool:=vv w.c.n w.c.life w.c.next w.c.jobs w.c.log w.c.sure&&(((w.av.length:Int)==w.c.n)&&(vw 0 w.av&&(FW w.av.length w.net&&(FW w.av.length w.outs&&FX w))))
theorem P9 {N life next sure:Int} {jobs:List fM} {log:List aQ} (h:vv N life next jobs log sure=true):(1<=life/\life<=900)/\(0<=next/\next<=999):=by
 unfold vv at h
 simp only [Bool.and_eq_true,decide_eq_true_eq] at h
 exact ⟨h.2.1,h.2.2.1⟩
theorem agr (pre:List aH) (x:aH) (post:List aH):(rS (pre++x::post)).getD (Int.toNat (pre.length:Int)) []=x.r:=by simp [List.getD]
theorem s0' (x:aH):x.r.getD 0 dflt = .i x.id:=rfl
theorem s1' (x:aH):x.r.getD 1 dflt = .l (rR x.log):=rfl
theorem s2' (x:aH):x.r.getD 2 dflt = .i x.sure:=rfl
theorem s3' (x:aH):x.r.getD 3 dflt = .l (rP x.map):=rfl
theorem s4' (x:aH):x.r.getD 4 dflt = .l (rR x.held):=rfl
theorem Rl (m:Nat) (hm:3200100<=m) (x4 x5 x6 x7 x8 x9 x10 bT eH jK:T) : ∀ (post pre:List aH),(∀ s∈post,Yj s)->pre.length+post.length<=1048576->∀ n,post.length<n->∀ k0 k1,
  jr m n (.i 0) (.l (rS (pre++post))) (.i ((pre++post).length:Nat)) (.i pre.length) x4 x5 x6 x7 x8 x9 x10 bT eH jK k0 k1=cond (vw pre.length post) (k1 (.i 0) x4 x5 x6 x7 x8 x9 x10 bT eH jK) (k0 (.b false))
 | [],pre,ho,hs,n,hn,k0,k1=>by
  obtain ⟨n,rfl⟩:=aV n
  simp only [jr,T.aj,T.ah,aM,aY,wL,bq]
  rw [lT]
  rfl
 | x::post,pre,ho,hs,n,hn,k0,k1=>by
  obtain ⟨n,rfl⟩:=aV n
  simp only [List.length_cons] at hs hn
  have ih:=Rl m hm x4 x5 x6 x7 x8 x9 x10 bT eH jK post (pre++[x]) (fun y hy=>ho y (by simp [hy])) (by simp; omega) n (by omega) k0 k1
  rw [aF,List.append_assoc,List.singleton_append,show (pre++[x]).length=pre.length+1 by simp] at ih
  have hz:((((0:Int).toNat:Nat)):Int)=0:=rfl
  simp only [jr,T.aj,T.ah,agr,bJ pre (by omega),s0',s1',s2',s3',s4',hz,aM,aY,wL,bq]
  rw [bM,bM,aaF (by omega) x (ho x (by simp)),ih]
  simp only [T.aI]
  show _=cond ((x.id==(pre.length:Int))&&(yu x&&vw (pre.length+1) post)) _ _
  by_cases h:x.id=(pre.length:Int)
  ·rw [aB (by simp [h]),show (x.id==(pre.length:Int))=true by simp [h]]
   cases yu x <;> rfl
  ·rw [aD (by simp [h]),show (x.id==(pre.length:Int))=false by simp [h]]; rfl
theorem Rm {m:Nat} (hm:3200200<=m) (w:aA) (h:CW w) (K:T->An) :
  rX m (.i w.c.n) (.i w.c.life) (.i w.c.next) (.l (rJ w.c.jobs)) (.l (rC w.c.log)) (.i w.c.sure) (.l (rS w.av)) (.l (rW w.net)) (.l (rW w.outs)) (.l (rB w.begun)) K=K (.b (AQ w)):=by
 obtain ⟨m,rfl⟩:=aV m
 simp only [rX,jn,T.ah,T.aj,rZ,wL]
 rw [aam (by omega) w.c.n w.c.life w.c.next w.c.sure w.c.jobs w.c.log h.jobs h.log]
 unfold AQ
 cases hc:vv w.c.n w.c.life w.c.next w.c.jobs w.c.log w.c.sure with
 | false=>rfl
 | true =>
  obtain ⟨h1,h2⟩:=P9 hc
  simp only [T.aI]
  rw [aB (by decide)]
  by_cases hn:(w.av.length:Int)=w.c.n
  ·rw [aD (by simp [hn]),show ((w.av.length:Int)==w.c.n)=true by simp [hn]]
   refine (Rl m (by omega) _ _ _ _ _ _ _ _ _ _ w.av [] h.sh (by simpa using h.shl) m (by have:=h.shl; omega) _ _).trans ?_
   simp only [List.length_nil]
   cases vw 0 w.av with
   | false=>rfl
   | true =>
    simp only [cond_true,T.ah,Bool.true_and]
    rw [show (T.l [[.i w.c.n,.i w.c.life,.i w.c.next,.l (rJ w.c.jobs),.l (rC w.c.log),.i w.c.sure,.l (rS w.av),.l (rW w.net),.l (rW w.outs),.l (rB w.begun)]])=T.l [wS w] from rfl,Ri (by omega) w w.net h.zZ h.net,Ri (by omega) w w.outs h.CV h.outs,aaJ m w h.z8 (by omega) h1 h2 h.yh h.jobs.1 h.log]
    simp only [T.aI]
    cases FW w.av.length w.net with
    | false=>rfl
    | true=>cases FW w.av.length w.outs <;> rfl
  ·rw [aB (by simp [hn]),show ((w.av.length:Int)==w.c.n)=false by simp [hn]]; rfl
end Go.Proofs.YtpchnmbcbcfhjaaGreat

namespace Go.Proofs.YtpchnmbcbcfhjaaGreat
open Go Go.E Go.Proofs
theorem hz0:((((0:Int).toNat:Nat)):Int)=0:=rfl
def TU (first kind tx:Int):Nat->List bF->Bool
 | _,[]=>false
 | i,r::l=>decide ((i:Int)<first)&&(((r.kind==kind)&&(r.tx==tx))||TU first kind tx (i+1) l)
def afa (l:List bF) (first kind tx:Int):Bool:=TU first kind tx 0 l
def Zu (sh:List aH) (tx:Int):Bool:=sh.any fun s=>afa s.log s.log.length 3 tx
def ags (sh:List aH) (r:bF):Bool:=!(r.kind==2) || !Zu sh r.tx
def yw (sh:List aH):Bool:=sh.all fun s=>s.log.all (ags sh)
theorem OZ (first kind tx:Int) : ∀ (l:List bF) (i:Nat),((i+l.length:Nat):Int)<=first->TU first kind tx i l=l.any fun r=>(r.kind==kind)&&(r.tx==tx)
 | [],i,h=>rfl
 | r::l,i,h=>by
  simp only [List.length_cons] at h
  unfold TU
  rw [decide_eq_true (by omega),OZ first kind tx l (i+1) (by omega)]
  rfl
theorem WE (l:List bF) (kind tx:Int):afa l l.length kind tx=l.any fun r=>(r.kind==kind)&&(r.tx==tx):=OZ _ _ _ l 0 (by simp)
def nsP (sh:List aH):List (Int×Int):=sh.flatMap fun s=>s.log.map fun r=>(r.kind,r.tx)
theorem aaK (sh:List aH):sO (rS sh)=nsP sh:=by
 unfold sO nsP
 rw [List.flatMap_map]
 congr 1
 funext s
 show FE s.r=_
 show (rR s.log).map Vh=_
 rw [List.map_map]
 rfl
theorem agt (sh:List aH):XM (nsP sh)=yw sh:=by
 rw [Bool.eq_iff_iff]
 unfold XM yw ags Zu QI nsP
 simp only [List.all_eq_true,List.mem_map,List.mem_filter,List.mem_flatMap,Bool.or_eq_true,Bool.not_eq_true',List.any_eq_false,WE,Bool.and_eq_true,beq_iff_eq,beq_eq_false_iff_ne]
 constructor
 ·intro h s hs r hr
  by_cases hk:r.kind=2
  ·right
   intro s' hs' h2
   rw [List.any_eq_true] at h2
   obtain ⟨r',hr',h3⟩:=h2
   simp only [Bool.and_eq_true,beq_iff_eq] at h3
   have:=h r.tx ⟨(r.kind,r.tx),⟨⟨s,hs,r,hr,rfl⟩,hk⟩,rfl⟩
   rw [<-Bool.not_eq_true] at this
   exact this (by rw [List.contains_iff_mem]; exact List.mem_map.2 ⟨(r'.kind,r'.tx),by simp only [List.mem_filter,List.mem_flatMap,List.mem_map,beq_iff_eq]; exact ⟨⟨s',hs',r',hr',rfl⟩,h3.1⟩,h3.2⟩)
  ·exact .inl hk
 ·rintro h x ⟨⟨k,t⟩,⟨⟨s,hs,r,hr,e⟩,hk⟩,rfl⟩
  cases e
  rcases h s hs r hr with h1 | h1
  ·exact absurd hk h1
  ·rw [<-Bool.not_eq_true,List.contains_iff_mem]
   intro hx
   obtain ⟨⟨k',t'⟩,h2,h3⟩:=List.mem_map.1 hx
   simp only [List.mem_filter,List.mem_flatMap,List.mem_map,beq_iff_eq] at h2
   obtain ⟨⟨s',hs',r',hr',e'⟩,hk'⟩:=h2
   cases e'
   exact h1 s' hs' (by rw [List.any_eq_true]; exact ⟨r',hr',by simp only [Bool.and_eq_true,beq_iff_eq]; exact ⟨hk',h3⟩⟩)
theorem WG {m:Nat} (hm:1<=m) (x0 x1 x2 x3 x4 x5 x7 x8 x9:T) (sh:List aH) (hl:(nsP sh).length<=ay) (K:T->An):wE m x0 x1 x2 x3 x4 x5 (.l (rS sh)) x7 x8 x9 K=K (.b (yw sh)):=by
 obtain ⟨m,rfl⟩:=aV m
 simp only [wE,T.ah,aaK,agt]
 rw [aP hl]
end Go.Proofs.YtpchnmbcbcfhjaaGreat

namespace Go.Proofs.YtpchnmbcbcfhjaaGreat
open Go Go.E Go.Proofs
def Yl (sure tx:Int):Nat->List aQ->Bool
 | _,[]=>false
 | i,c::l=>((c.tx==tx)&&(c.yes&&decide ((i:Int)<sure)))||Yl sure tx (i+1) l
theorem cd1 (x:aQ):(x.r.drop 1).getD 0 dflt = .b x.yes:=rfl
theorem Zv (m:Nat) (w:aA) (tx:Int) : ∀ (post pre:List aQ),pre.length+post.length<=1048576->∀ n,post.length<n->∀ k0 k1,
  bX m n (.l [wS w]) (.i tx) (.l (rC (pre++post))) (.i ((pre++post).length:Nat)) (.i pre.length) k0 k1=cond (Yl w.c.sure tx pre.length post) (k0 (.b true)) k1
 | [],pre,hs,n,hn,k0,k1=>by
  obtain ⟨n,rfl⟩:=aV n
  simp only [bX,T.aj,T.ah,aM,aY,bq]
  rw [lT]
  rfl
 | x::post,pre,hs,n,hn,k0,k1=>by
  obtain ⟨n,rfl⟩:=aV n
  simp only [List.length_cons] at hs hn
  have ih:=Zv m w tx post (pre++[x]) (by simp; omega) n (by omega) k0 k1
  rw [aF,List.append_assoc,List.singleton_append,show (pre++[x]).length=pre.length+1 by simp] at ih
  simp only [bX,T.aj,T.ah,ixC,bJ pre (by omega),c0,c1,T.aI,pY,wr5,aM,aY,bq]
  rw [bM,bM,ih]
  show _=cond (((x.tx==tx)&&(x.yes&&decide ((pre.length:Int)<w.c.sure)))||Yl w.c.sure tx (pre.length+1) post) _ _
  cases (x.tx==tx) <;> cases x.yes <;> cases decide ((pre.length:Int)<w.c.sure) <;> rfl
def Il (w:aA) (tx:Int):Bool:=Yl w.c.sure tx 0 w.c.log
theorem Ym {m:Nat} (hm:1048600<=m) (w:aA) (tx:Int) (hl:w.c.log.length<=1048576) (K:T->An):l5 m (.l [wS w]) (.i tx) K=K (.b (Il w tx)):=by
 obtain ⟨m,rfl⟩:=aV m
 simp only [l5,pY,wr4,T.ah,jI]
 refine (Zv m w tx w.c.log [] (by simpa using hl) m (by omega) _ _).trans ?_
 unfold Il
 simp only [List.length_nil]
 cases Yl w.c.sure tx 0 w.c.log <;> rfl
def bk1 (w:aA) (r:bF):Bool:=!(r.kind==2)||Il w r.tx
def Ez (w:aA):Bool:=w.av.all fun s=>s.log.all (bk1 w)
section
variable (m:Nat) (hm:1048700<=m) (w:aA) (hw:CW w)
include hm hw
theorem ade (x1 x2 x3:T) : ∀ (post pre:List bF),pre.length+post.length<=1048576->∀ n,post.length<n->∀ k0 k1,
  kD m n (.i 0) x1 x2 x3 (.l (rR (pre++post))) (.i ((pre++post).length:Nat)) (.i pre.length) (.i w.c.n) (.i w.c.life) (.i w.c.next) (.l (rJ w.c.jobs)) (.l (rC w.c.log)) (.i w.c.sure) (.l (rS w.av)) (.l (rW w.net)) (.l (rW w.outs)) (.l (rB w.begun)) k0 k1 =
   cond (post.all (bk1 w)) (k1 (.i 0) x1 x2 x3 (.i w.c.n) (.i w.c.life) (.i w.c.next) (.l (rJ w.c.jobs)) (.l (rC w.c.log)) (.i w.c.sure) (.l (rS w.av)) (.l (rW w.net)) (.l (rW w.outs)) (.l (rB w.begun))) (k0 (.b false))
 | [],pre,hs,n,hn,k0,k1=>by
  obtain ⟨n,rfl⟩:=aV n
  simp only [kD,T.aj,T.ah,aM,aY,wL,bq]
  rw [lT]
  rfl
 | x::post,pre,hs,n,hn,k0,k1=>by
  obtain ⟨n,rfl⟩:=aV n
  simp only [List.length_cons] at hs hn
  have ih:=ade x1 x2 x3 post (pre++[x]) (by simp; omega) n (by omega) k0 k1
  rw [aF,List.append_assoc,List.singleton_append] at ih
  simp only [kD,T.aj,T.ah,V8,bJ pre (by omega),r0,r1,hz0,aM,aY,wL,bq]
  rw [bM,bM,show (T.l [[.i w.c.n,.i w.c.life,.i w.c.next,.l (rJ w.c.jobs),.l (rC w.c.log),.i w.c.sure,.l (rS w.av),.l (rW w.net),.l (rW w.outs),.l (rB w.begun)]])=T.l [wS w] from rfl,Ym (by omega) w x.tx hw.log,ih]
  simp only [T.aI,List.all_cons,bk1]
  cases (x.kind==2) <;> cases Il w x.tx <;> rfl
theorem adf : ∀ (post pre:List aH),(∀ s∈post,s.log.length<=1048576)->pre.length+post.length<=1048576->∀ n,post.length+1048576+1<n->∀ k0 k1,
  kE m n (.i 0) (.l (rS (pre++post))) (.i ((pre++post).length:Nat)) (.i pre.length) (.i w.c.n) (.i w.c.life) (.i w.c.next) (.l (rJ w.c.jobs)) (.l (rC w.c.log)) (.i w.c.sure) (.l (rS w.av)) (.l (rW w.net)) (.l (rW w.outs)) (.l (rB w.begun)) k0 k1 =
   cond (post.all fun s=>s.log.all (bk1 w)) k1 (k0 (.b false))
 | [],pre,ho,hs,n,hn,k0,k1=>by
  obtain ⟨n,rfl⟩:=aV n
  simp only [kE,T.aj,T.ah,aM,aY,bq]
  rw [lT]
  rfl
 | x::post,pre,ho,hs,n,hn,k0,k1=>by
  obtain ⟨n,rfl⟩:=aV n
  simp only [List.length_cons] at hs hn
  have hx:=ho x (by simp)
  have ih:=adf post (pre++[x]) (fun s h=>ho s (by simp [h])) (by simp; omega) n (by omega) k0 k1
  rw [aF,List.append_assoc,List.singleton_append] at ih
  simp only [kE,T.aj,T.ah,agr,s1',hz0,ig,aM,aY,bq]
  rw [bM,bM]
  have l1:=ade m hm w hw (.l (rS (pre++x::post))) (.i ((pre++x::post).length:Nat)) (.i pre.length) x.log [] (by simpa using hx) n (by omega) k0
  simp only [List.nil_append,List.length_nil,Int.natCast_zero] at l1
  refine (l1 _).trans ?_
  simp only [T.aj,hz0,bJ pre (by omega),List.all_cons]
  rw [ih]
  cases x.log.all (bk1 w) <;> rfl
end
theorem Yn {m:Nat} (hm:2200000<=m) (w:aA) (hw:CW w) (K:T->An) :
  zq m (.i w.c.n) (.i w.c.life) (.i w.c.next) (.l (rJ w.c.jobs)) (.l (rC w.c.log)) (.i w.c.sure) (.l (rS w.av)) (.l (rW w.net)) (.l (rW w.outs)) (.l (rB w.begun)) K=K (.b (Ez w)):=by
 obtain ⟨m,rfl⟩:=aV m
 simp only [zq,T.ah,rZ,wL]
 refine (adf m (by omega) w hw w.av [] (fun s h=>(hw.sh s h).log) (by simpa using hw.shl) m (by have:=hw.shl; omega) _ _).trans ?_
 unfold Ez
 cases w.av.all fun s=>s.log.all (bk1 w) <;> rfl
section
variable (m:Nat) (hm:1048700<=m) (w:aA) (hw:CW w)
include hm hw
end
end Go.Proofs.YtpchnmbcbcfhjaaGreat

namespace Go.Proofs.YtpchnmbcbcfhjaaGreat
open Go Go.E Go.Proofs
def wh1 (w:aA) (id:Int) (r:bF):Bool:=(r.kind != 1)||(!decide (sD r.tx w.begun<0)&&Jr Ij (mJ (w.begun.getD (sD r.tx w.begun).toNat default).ops id w.c.n) r.ops)
def Jt (w:aA):Bool:=w.av.all fun s=>s.log.all (wh1 w s.id)
section
variable (m:Nat) (hm:1048700<=m) (w:aA) (hw:CW w)
include hm hw
theorem ah4 (x2 x3 x4 CG x20 x21 IW:T) (id:Int) : ∀ (post pre:List bF),pre.length+post.length<=1048576->∀ n,post.length<n->∀ k0 k1,
  lG m n (.i 0) (.i 0) x2 x3 x4 (.l (rR (pre++post))) (.i ((pre++post).length:Nat)) (.i pre.length) (.i w.c.n) (.i w.c.life) (.i w.c.next) (.l (rJ w.c.jobs)) (.l (rC w.c.log)) (.i w.c.sure) (.l (rS w.av)) (.l (rW w.net)) (.l (rW w.outs)) (.l (rB w.begun)) (.i id) CG x20 x21 IW k0 k1 =
   cond (post.all (wh1 w id)) (k1 (.i 0) x2 x3 x4 (.i w.c.n) (.i w.c.life) (.i w.c.next) (.l (rJ w.c.jobs)) (.l (rC w.c.log)) (.i w.c.sure) (.l (rS w.av)) (.l (rW w.net)) (.l (rW w.outs)) (.l (rB w.begun))) (k0 (.b false))
 | [],pre,hs,n,hn,k0,k1=>by
  obtain ⟨n,rfl⟩:=aV n
  simp only [lG,T.aj,T.ah,qB,aM,aY,wL,bq]
  rw [lT]
  rfl
 | x::post,pre,hs,n,hn,k0,k1=>by
  obtain ⟨n,rfl⟩:=aV n
  simp only [List.length_cons] at hs hn
  have ih:=ah4 x2 x3 x4 CG x20 x21 IW id post (pre++[x]) (by simp; omega) n (by omega) k0 k1
  rw [aF,List.append_assoc,List.singleton_append] at ih
  have hbl:=hw.z8
  simp only [lG,T.aj,T.ah,V8,bJ pre (by omega),r0,r1,r2,hz0,vP,qB,aM,aY,wL,bq]
  rw [bM,bM,show (T.l [[.i w.c.n,.i w.c.life,.i w.c.next,.l (rJ w.c.jobs),.l (rC w.c.log),.i w.c.sure,.l (rS w.av),.l (rW w.net),.l (rW w.outs),.l (rB w.begun)]])=T.l [wS w] from rfl,AP (by omega) w x.tx hbl,ih]
  simp only [T.aj,List.all_cons]
  unfold wh1
  by_cases hk:x.kind=1
  ·rw [aD (by simp [hk]),show (x.kind != 1)=false by simp [hk]]
   by_cases h:sD x.tx w.begun<0
   ·rw [decide_eq_true h]; rfl
   ·obtain ⟨j,hj,hjl⟩:=Ik h
    have Iq:=hw.yh _ (D8 hjl)
    rw [decide_eq_false h,hj,aB (by decide),bM,show Int.toNat (j:Int)=j from rfl,TT w.begun hjl,bd1]
    simp only [T.ah]
    rw [XZ (by omega) _ id w.c.n Iq]
    simp only [T.ah]
    rw [agp (by omega) _ x.ops (by have:=Cm (w.begun.getD j default).ops id w.c.n; have:=Iq.1; omega)]
    simp only [T.aI,Bool.not_false,Bool.true_and,Bool.false_or]
    cases Jr Ij (mJ (w.begun.getD j default).ops id w.c.n) x.ops <;> rfl
  ·rw [aB (by simp [hk]),show (x.kind != 1)=true by simp [hk]]; rfl
theorem ah5 : ∀ (post pre:List aH),(∀ s∈post,s.log.length<=1048576)->pre.length+post.length<=1048576->∀ n,post.length+1048576+1<n->∀ k0 k1,
  lH m n (.i 0) (.l (rS (pre++post))) (.i ((pre++post).length:Nat)) (.i pre.length) (.i w.c.n) (.i w.c.life) (.i w.c.next) (.l (rJ w.c.jobs)) (.l (rC w.c.log)) (.i w.c.sure) (.l (rS w.av)) (.l (rW w.net)) (.l (rW w.outs)) (.l (rB w.begun)) k0 k1 =
   cond (post.all fun s=>s.log.all (wh1 w s.id)) k1 (k0 (.b false))
 | [],pre,ho,hs,n,hn,k0,k1=>by
  obtain ⟨n,rfl⟩:=aV n
  simp only [lH,T.aj,T.ah,aM,aY,bq]
  rw [lT]
  rfl
 | x::post,pre,ho,hs,n,hn,k0,k1=>by
  obtain ⟨n,rfl⟩:=aV n
  simp only [List.length_cons] at hs hn
  have hx:=ho x (by simp)
  have ih:=ah5 post (pre++[x]) (fun s h=>ho s (by simp [h])) (by simp; omega) n (by omega) k0 k1
  rw [aF,List.append_assoc,List.singleton_append] at ih
  simp only [lH,T.aj,T.ah,agr,s0',s1',s2',s3',s4',hz0,ig,aM,aY,bq]
  rw [bM,bM]
  have l1:=ah4 m hm w hw (.l (rS (pre++x::post))) (.i ((pre++x::post).length:Nat)) (.i pre.length) (.l (rR x.log)) (.i x.sure) (.l (rP x.map)) (.l (rR x.held)) x.id x.log [] (by simpa using hx) n (by omega) k0
  simp only [List.nil_append,List.length_nil,Int.natCast_zero] at l1
  refine (l1 _).trans ?_
  simp only [T.aj,hz0,bJ pre (by omega),List.all_cons]
  rw [ih]
  cases x.log.all (wh1 w x.id) <;> rfl
end
theorem aaL {m:Nat} (hm:2200000<=m) (w:aA) (hw:CW w) (K:T->An) :
  Ca m (.i w.c.n) (.i w.c.life) (.i w.c.next) (.l (rJ w.c.jobs)) (.l (rC w.c.log)) (.i w.c.sure) (.l (rS w.av)) (.l (rW w.net)) (.l (rW w.outs)) (.l (rB w.begun)) K=K (.b (Jt w)):=by
 obtain ⟨m,rfl⟩:=aV m
 simp only [Ca,T.ah,rZ,wL]
 refine (ah5 m (by omega) w hw w.av [] (fun s h=>(hw.sh s h).log) (by simpa using hw.shl) m (by have:=hw.shl; omega) _ _).trans ?_
 unfold Jt
 cases w.av.all fun s=>s.log.all (wh1 w s.id) <;> rfl
section
variable (m:Nat) (hm:1048700<=m) (w:aA) (hw:CW w)
include hm hw
end
end Go.Proofs.YtpchnmbcbcfhjaaGreat

namespace Go.Proofs.YtpchnmbcbcfhjaaGreat
open Go Go.E Go.Proofs
def WH (tx:Int) (r:bF):Bool:=(r.tx==tx)&&((r.kind==1)||(r.kind==2))
def CO (s:aH):Nat:=(zA 0 (zy s.sure (s.log.length:Int))).toNat
def WI (s:aH) (tx:Int):Bool:=(s.log.take (CO s)).any (WH tx)
theorem adg (s:aH):CO s<=s.log.length:=by
 unfold CO zA zy
 split <;> split <;> omega
theorem afb (s:aH):zA 0 (zy s.sure (s.log.length:Int))=(CO s:Int):=by
 unfold CO zA zy
 split <;> split <;> omega
theorem O0 (m:Nat) (tx:Int) : ∀ (post pre:List bF),pre.length+post.length<=1048576->∀ n,post.length<n->∀ k0 k1,
  bZ m n (.i tx) (.l (rR (pre++post))) (.i ((pre++post).length:Nat)) (.i pre.length) k0 k1=cond (post.any (WH tx)) (k0 (.b true)) k1
 | [],pre,hs,n,hn,k0,k1=>by
  obtain ⟨n,rfl⟩:=aV n
  simp only [bZ,T.aj,T.ah,aM,aY,bq]
  rw [lT]
  rfl
 | x::post,pre,hs,n,hn,k0,k1=>by
  obtain ⟨n,rfl⟩:=aV n
  simp only [List.length_cons] at hs hn
  have ih:=O0 m tx post (pre++[x]) (by simp; omega) n (by omega) k0 k1
  rw [aF,List.append_assoc,List.singleton_append] at ih
  simp only [bZ,T.aj,T.ah,V8,bJ pre (by omega),r0,r1,aM,aY,bq]
  rw [bM,bM,ih]
  simp only [List.any_cons,WH]
  cases (x.tx==tx) <;> cases (x.kind==1) <;> cases (x.kind==2) <;> rfl
theorem adh {m:Nat} (hm:1048600<=m) (s:aH) (tx:Int) (hl:s.log.length<=1048576) (K:T->An):kN m (.l [s.r]) (.i tx) K=K (.b (WI s tx)):=by
 obtain ⟨m,rfl⟩:=aV m
 have e1:(s.r.drop 1).getD 0 dflt = .l (rR s.log):=rfl
 have e2:(s.r.drop 2).getD 0 dflt = .i s.sure:=rfl
 have hle:=adg s
 have e3:(rR s.log).take (Int.toNat (CO s:Int))=rR (s.log.take (CO s)):=by
  rw [show Int.toNat (CO s:Int)=CO s from rfl]; simp [rR]
 simp only [kN,pY,e1,e2,T.ah,T.aj,ig,afb,e3]
 rw [bM,bM]
 refine (O0 m tx (s.log.take (CO s)) [] (by rw [List.length_take]; simp; omega) m (by rw [List.length_take]; omega) _ _).trans ?_
 unfold WI
 cases (s.log.take (CO s)).any (WH tx) <;> rfl
def pr1 (w:aA) (tx s:Int):Bool:=decide (s<(w.av.length:Int))&&WI (w.av.getD s.toNat default) tx
def pr (w:aA) (c:aQ):Bool:=!c.yes||(!decide (sD c.tx w.begun<0)&&(bN (w.begun.getD (sD c.tx w.begun).toNat default).ops w.c.n).all (pr1 w c.tx))
def wX (w:aA):Bool:=w.c.log.all (pr w)
theorem Rn {ops:List eX} {n s:Int} (h:s∈bN ops n):0<=s:=by
 unfold bN at h
 rw [Aw] at h
 rcases h with h | h
 ·cases h
 ·obtain ⟨o,-,rfl⟩:=List.mem_map.1 h; omega
theorem agv (l:List aH) {j:Nat} (h:j<l.length):(rS l).getD j []=(l.getD j default).r:=by simp [List.getD,h]
theorem adi {l:List aH} {j:Nat} (h:j<l.length):l.getD j default∈l:=by simp [List.getD,h]
section
variable (m:Nat) (hm:1048800<=m) (w:aA) (hw:CW w)
include hm hw
theorem ah7 (x2 x3 x4 CG:T) (tx:Int) : ∀ (post pre:List Int),(∀ s∈post,0<=s)->pre.length+post.length<=1048576->∀ n,post.length<n->∀ k0 k1,
  iP m n (.i 0) (.i 0) x2 x3 x4 (.l (ir (pre++post))) (.i ((pre++post).length:Nat)) (.i pre.length) (.i w.c.n) (.i w.c.life) (.i w.c.next) (.l (rJ w.c.jobs)) (.l (rC w.c.log)) (.i w.c.sure) (.l (rS w.av)) (.l (rW w.net)) (.l (rW w.outs)) (.l (rB w.begun)) (.i tx) CG k0 k1 =
   cond (post.all (pr1 w tx)) (k1 (.i 0) x2 x3 x4 (.i w.c.n) (.i w.c.life) (.i w.c.next) (.l (rJ w.c.jobs)) (.l (rC w.c.log)) (.i w.c.sure) (.l (rS w.av)) (.l (rW w.net)) (.l (rW w.outs)) (.l (rB w.begun))) (k0 (.b false))
 | [],pre,hp,hs,n,hn,k0,k1=>by
  obtain ⟨n,rfl⟩:=aV n
  simp only [iP,T.aj,T.ah,aM,aY,bq]
  rw [lT]
  rfl
 | x::post,pre,hp,hs,n,hn,k0,k1=>by
  obtain ⟨n,rfl⟩:=aV n
  simp only [List.length_cons] at hs hn
  have hx:=hp x (by simp)
  have ih:=ah7 x2 x3 x4 CG tx post (pre++[x]) (fun s h=>hp s (by simp [h])) (by simp; omega) n (by omega) k0 k1
  rw [aF,List.append_assoc,List.singleton_append] at ih
  simp only [iP,T.aj,T.ah,ixI,bJ pre (by omega),hz0,rZ,aM,aY,bq]
  rw [bM,aP (by simp [ir]; omega),ih]
  simp only [List.all_cons,pr1]
  by_cases h:x<(w.av.length:Int)
  ·have hxl:x.toNat<w.av.length:=by omega
   rw [aB (by simp; omega),bM,agv w.av hxl,show (w.av.getD x.toNat default).r.take 5=(w.av.getD x.toNat default).r from rfl,adh (by omega) _ tx (hw.sh _ (adi hxl)).log,decide_eq_true h]
   simp only [T.aI,Bool.true_and]
   cases WI (w.av.getD x.toNat default) tx <;> rfl
  ·rw [aD (by simp; omega),decide_eq_false h]; rfl
theorem ah8 : ∀ (post pre:List aQ),pre.length+post.length<=1048576->∀ n,post.length+1048576+1<n->∀ k0 k1,
  iQ m n (.i 0) (.l (rC (pre++post))) (.i ((pre++post).length:Nat)) (.i pre.length) (.i w.c.n) (.i w.c.life) (.i w.c.next) (.l (rJ w.c.jobs)) (.l (rC w.c.log)) (.i w.c.sure) (.l (rS w.av)) (.l (rW w.net)) (.l (rW w.outs)) (.l (rB w.begun)) k0 k1 =
   cond (post.all (pr w)) k1 (k0 (.b false))
 | [],pre,hs,n,hn,k0,k1=>by
  obtain ⟨n,rfl⟩:=aV n
  simp only [iQ,T.aj,T.ah,qB,aM,aY,wL,bq]
  rw [lT]
  rfl
 | x::post,pre,hs,n,hn,k0,k1=>by
  obtain ⟨n,rfl⟩:=aV n
  simp only [List.length_cons] at hs hn
  have ih:=ah8 post (pre++[x]) (by simp; omega) n (by omega) k0 k1
  rw [aF,List.append_assoc,List.singleton_append] at ih
  have hbl:=hw.z8
  simp only [iQ,T.aj,T.ah,ixC,bJ pre (by omega),c0,c1,T.aI,hz0,vP,qB,aM,aY,wL,bq]
  rw [bM,bM,show (T.l [[.i w.c.n,.i w.c.life,.i w.c.next,.l (rJ w.c.jobs),.l (rC w.c.log),.i w.c.sure,.l (rS w.av),.l (rW w.net),.l (rW w.outs),.l (rB w.begun)]])=T.l [wS w] from rfl,AP (by omega) w x.tx hbl,ih]
  simp only [T.aj,List.all_cons]
  unfold pr
  cases hy:x.yes with
  | false=>rfl
  | true =>
   rw [aD (by decide)]
   by_cases h:sD x.tx w.begun<0
   ·rw [decide_eq_true h]; rfl
   ·obtain ⟨j,hj,hjl⟩:=Ik h
    have Iq:=hw.yh _ (D8 hjl)
    rw [decide_eq_false h,hj,cond_false,bM,show Int.toNat (j:Int)=j from rfl,TT w.begun hjl,bd1]
    simp only [T.ah]
    rw [Oh (by omega) _ w.c.n Iq]
    simp only [T.ah,Bool.not_true,Bool.false_or,Bool.not_false,Bool.true_and]
    have hsl:=mP (w.begun.getD j default).ops w.c.n
    have hol:=Iq.1
    have l1:=ah7 m hm w hw (.l (rC (pre++x::post))) (.i ((pre++x::post).length:Nat)) (.i pre.length) (.b true) x.tx (bN (w.begun.getD j default).ops w.c.n) [] (fun s hs=>Rn hs) (by rw [List.length_nil,Nat.zero_add]; omega) n (by omega) k0
    simp only [List.nil_append,List.length_nil,Int.natCast_zero] at l1
    rw [show ((ir (bN (w.begun.getD j default).ops w.c.n)).length:Int)=((bN (w.begun.getD j default).ops w.c.n).length:Int) by simp [ir]]
    refine (l1 _).trans ?_
    simp only [T.aj,hz0,bJ pre (by omega)]
    rw [ih]
    cases (bN (w.begun.getD j default).ops w.c.n).all (pr1 w x.tx) <;> rfl
end
theorem TV {m:Nat} (hm:2200000<=m) (w:aA) (hw:CW w) (K:T->An) :
  uD m (.i w.c.n) (.i w.c.life) (.i w.c.next) (.l (rJ w.c.jobs)) (.l (rC w.c.log)) (.i w.c.sure) (.l (rS w.av)) (.l (rW w.net)) (.l (rW w.outs)) (.l (rB w.begun)) K=K (.b (wX w)):=by
 obtain ⟨m,rfl⟩:=aV m
 simp only [uD,T.ah,jI,wL]
 refine (ah8 m (by omega) w hw w.c.log [] (by simpa using hw.log) m (by have:=hw.log; omega) _ _).trans ?_
 unfold wX
 cases w.c.log.all (pr w) <;> rfl
section
variable (m:Nat) (hm:1048800<=m) (w:aA) (hw:CW w)
include hm hw
end
def Zw (w:aA):Int:=if AQ w=false then 1 else if yw w.av=false then 2 else if Ez w=false then 3 else if Jt w=false then 4 else if wX w=false then 5 else 0
theorem ix5 {m:Nat} (hm:20<=m) (a b c d e:Bool) (K:T->An):kY m (.l [[.b a],[.b b],[.b c],[.b d],[.b e]]) (.b false) K=K (.i (if a=false then 0 else if b=false then 1 else if c=false then 2 else if d=false then 3 else if e=false then 4 else -1)):=by
 obtain ⟨m,rfl⟩ : ∃ q,m=q+8:=⟨m-8,by omega⟩
 cases a <;> cases b <;> cases c <;> cases d <;> cases e <;> rfl
theorem adj {m:Nat} (hm:4000000<=m) (w:aA) (hw:CW w) (hl:(nsP w.av).length<=ay) (K:T->An) :
  Ep m (.i w.c.n) (.i w.c.life) (.i w.c.next) (.l (rJ w.c.jobs)) (.l (rC w.c.log)) (.i w.c.sure) (.l (rS w.av)) (.l (rW w.net)) (.l (rW w.outs)) (.l (rB w.begun)) K=K (.i (Zw w)):=by
 obtain ⟨m,rfl⟩:=aV m
 simp only [Ep,T.ah,wL]
 rw [Rm (by omega) w hw,WG (by omega) _ _ _ _ _ _ _ _ _ w.av hl,Yn (by omega) w hw,aaL (by omega) w hw,TV (by omega) w hw,ix5 (by omega)]
 simp only [T.aj]
 congr 2
 unfold Zw
 cases AQ w <;> cases yw w.av <;> cases Ez w <;> cases Jt w <;> cases wX w <;> rfl
end Go.Proofs.YtpchnmbcbcfhjaaGreat

namespace Go.Proofs.YtpchnmbcbcfhjaaGreat
open Go Go.E Go.Proofs
theorem LJ {x:aQ} : ∀ {pre post:List aQ},(∀ y∈pre,y.tx≠x.tx)->nZ x.tx (pre++x::post)=some pre.length
 | [],post,h=>by simp [nZ]
 | y::pre,post,h=>by
  simp only [List.cons_append,nZ]
  rw [if_neg (h y (by simp)),LJ fun z hz=>h z (by simp [hz])]
  rfl
theorem O1 {x:bS} : ∀ {pre post:List bS},(∀ y∈pre,y.tx≠x.tx)->mK x.tx (pre++x::post)=some pre.length
 | [],post,h=>by simp [mK]
 | y::pre,post,h=>by
  simp only [List.cons_append,mK]
  rw [if_neg (h y (by simp)),O1 fun z hz=>h z (by simp [hz])]
  rfl
theorem EA {w:aA} (h:bQ w) {o:bS} (ho:o∈w.begun) : ∃ j:Nat,sD o.tx w.begun=j/\j<w.begun.length/\w.begun.getD j default=o:=by
 obtain ⟨pre,post,e⟩:=List.append_of_mem ho
 have hd:=h.Jp
 rw [e,List.pairwise_append] at hd
 have:mK o.tx w.begun=some pre.length:=by
  rw [e]
  exact O1 fun y hy=>by have:=hd.2.2 y hy o (by simp); omega
 refine ⟨pre.length,?_,by rw [e]; simp,by rw [e]; simp [List.getD]⟩
 unfold sD
 rw [this]
theorem WJ {w:aA} (h:bQ w) : ∀ (post pre:List aQ),w.c.log=pre++post->Ka w.c.life w.c.next w.c.log pre.length post=true
 | [],pre,e=>rfl
 | x::post,pre,e=>by
  have ih:=WJ h post (pre++[x]) (by rw [e]; simp)
  rw [show (pre++[x]).length=pre.length+1 by simp] at ih
  have hx:x∈w.c.log:=by rw [e]; simp
  obtain ⟨⟨o,ho,htx⟩,-⟩:=h.log x hx
  have hb:=h.yh o ho
  have hd:=h.P8
  rw [e,List.pairwise_append] at hd
  have hc:chI x.tx w.c.log=(pre.length:Int):=by
   unfold chI
   rw [show nZ x.tx w.c.log=some pre.length by rw [e]; exact LJ fun y hy=>hd.2.2 y hy x (by simp)]
  unfold Ka
  rw [ih,hc,decide_eq_true (show 1000<=x.tx/\x.tx<=w.c.life * 1000+w.c.next-1 by omega)]
  simp
theorem WK {sh:List Int} : ∀ {l:List Int} {p:Option Int},(∀ y∈l,y∈sh)->l.Pairwise (· < ·)->(∀ q,p=some q->∀ y∈l,q<y)->Oo sh p l=true
 | [],_,_,_,_=>rfl
 | y::l,p,h1,h2,h3=>by
  rw [List.pairwise_cons] at h2
  unfold Oo
  rw [decide_eq_true (h1 y (by simp)),WK (fun z hz=>h1 z (by simp [hz])) h2.2 (fun q e z hz=>by cases e; exact h2.1 z hz)]
  cases p with
  | none=>rfl
  | some q=>simp only [decide_eq_true (h3 q rfl y (by simp))]; rfl
theorem Yo {log:List aQ} (hd:log.Pairwise fun a b=>a.tx≠b.tx) {j:fM} (h:JSt log j):Er log j=true:=by
 have at_ : ∀ c∈log,c.tx=j.tx->nZ j.tx log=some 0 \/ ∃ k,nZ j.tx log=some k/\log.getD k default=c:=fun c hc e=>by
  obtain ⟨pre,post,e2⟩:=List.append_of_mem hc
  rw [e2,List.pairwise_append] at hd
  right
  refine ⟨pre.length,?_,by rw [e2]; simp [List.getD]⟩
  rw [e2,<-e]
  exact LJ fun y hy=>hd.2.2 y hy c (by simp)
 have at' : ∀ c∈log,c.tx=j.tx->∃ k,nZ j.tx log=some k/\log.getD k default=c:=fun c hc e=>by
  obtain ⟨pre,post,e2⟩:=List.append_of_mem hc
  rw [e2,List.pairwise_append] at hd
  refine ⟨pre.length,?_,by rw [e2]; simp [List.getD]⟩
  rw [e2,<-e]
  exact LJ fun y hy=>hd.2.2 y hy c (by simp)
 unfold Er
 rcases h with ⟨h1,h2⟩ | ⟨h1,h2⟩ | ⟨h1,h2⟩
 ·have:nZ j.tx log=none:=by
   clear at_ at' hd
   induction log with
   | nil=>rfl
   | cons c l ih=>unfold nZ; rw [if_neg (h2 c (by simp)),ih fun d hd=>h2 d (by simp [hd])]; rfl
  rw [this]; simp [h1]
 ·obtain ⟨k,e1,e2⟩:=at' _ h2 rfl
  rw [e1]; simp only [e2,h1]; rfl
 ·obtain ⟨k,e1,e2⟩:=at' _ h2 rfl
  rw [e1]; simp only [e2,h1]; rfl
theorem Ro {w:aA} (h:bQ w) : ∀ {l:List fM} {p:Option fM},(∀ j∈l,j∈w.c.jobs)->(l.Pairwise fun a b=>a.tx<b.tx)->(∀ q,p=some q->∀ j∈l,q.tx<j.tx)->FQ w.c.n w.c.life w.c.next w.c.log p l=true
 | [],_,_,_,_=>rfl
 | j::l,p,h1,h2,h3=>by
  rw [List.pairwise_cons] at h2
  have hj:=h.jobs j (h1 j (by simp))
  obtain ⟨hok,-,-,hlt⟩:=h.yh _ hj.yh
  simp only at hok hlt
  unfold FQ
  rw [Ro h (fun z hz=>h1 z (by simp [hz])) h2.2 (fun q e z hz=>by cases e; exact h2.1 z hz)]
  have hp:TJ p j=true:=by
   cases p with
   | none=>rfl
   | some q=>exact decide_eq_true (h3 q rfl j (by simp))
  have hjp:aal w.c.n w.c.life w.c.next w.c.log j=true:=by
   unfold aal agb
   have:=hj.tx
   rw [decide_eq_true (show w.c.life * 1000<=j.tx/\j.tx<=w.c.life * 1000+w.c.next-1 by omega),hok,WK (fun y hy=>(hj.yes.2 y hy).1) hj.yes.1 (fun q e=>by cases e),Yo h.P8 hj.st]
   rfl
  rw [hp,hjp]; rfl
theorem bQ.ah9 {w:aA} (h:bQ w):vv w.c.n w.c.life w.c.next w.c.jobs w.c.log w.c.sure=true:=by
 have e0:Ka w.c.life w.c.next w.c.log 0 w.c.log=true:=WJ h w.c.log [] rfl
 unfold vv
 rw [decide_eq_true h.n,decide_eq_true h.life,decide_eq_true h.next,decide_eq_true h.vN,decide_eq_true h.sure,e0,Ro h (fun j hj=>hj) h.Wq (fun q e=>by cases e)]
 rfl
theorem Kj {w:aA} (h:bQ w) : ∀ (post pre:List aH),w.av=pre++post->vw pre.length post=true
 | [],pre,e=>rfl
 | s::post,pre,e=>by
  have ih:=Kj h post (pre++[s]) (by rw [e]; simp)
  rw [show (pre++[s]).length=pre.length+1 by simp] at ih
  have hs:w.av[pre.length]? = some s:=by rw [e]; simp
  obtain ⟨hid,hsi,-⟩:=h.sh _ _ hs
  obtain ⟨seen,e2,-,h3,-⟩:=hsi.inv
  have hl:pre.length<w.av.length:=by rw [e]; simp
  have hn:=h.n
  have aia:=h.shl
  unfold vw
  have hok:yu s=true:=by
   unfold yu
   rw [decide_eq_true (show 0<=s.id/\s.id<=7 by rw [hid]; omega),decide_eq_true hsi.sure,decide_eq_true h3,e2]
   simp only [mapOf,Ck,Option.isSome_some,Bool.true_and]
   rw [AO s.map fun x _=>WA x,AO s.held fun x _=>Yf x]
   rfl
  rw [hok,ih,hid]
  simp
theorem WL : ∀ {a b c:List UInt8},Op.bytesLess a b=true->Op.bytesLess b c=true->Op.bytesLess a c=true
 | a,b,[],_,h2=>by simp [Op.bytesLess] at h2
 | [],b,c::z,_,_=>rfl
 | a::x,[],c::z,h1,_=>by simp [Op.bytesLess] at h1
 | a::x,b::y,c::z,h1,h2=>by
  simp only [Op.bytesLess,Bool.or_eq_true,Bool.and_eq_true,decide_eq_true_eq,beq_iff_eq] at h1 h2 ⊢
  rcases h1 with h1 | ⟨rfl,h1⟩ <;> rcases h2 with h2 | ⟨rfl,h2⟩
  ·exact .inl (UInt8.lt_trans h1 h2)
  ·exact .inl h1
  ·exact .inl h2
  ·exact .inr ⟨rfl,WL h1 h2⟩
theorem Yp : ∀ {l:List eX} {p q:eX},blt p.key q.key=true->sG (some q) l=true->sG (some p) l=true
 | [],_,_,_,_=>rfl
 | x::l,p,q,h,h2=>by
  unfold sG at h2 ⊢
  simp only [Bool.and_eq_true] at h2 ⊢
  exact ⟨⟨h2.1.1,WL h h2.1.2⟩,h2.2⟩
theorem Yq {l:List eX} {p:eX} (h:sG (some p) l=true):sG none l=true:=by
 cases l with
 | nil=>rfl
 | cons x l =>
  unfold sG at h ⊢
  simp only [Bool.and_eq_true] at h ⊢
  exact ⟨⟨h.1.1,trivial⟩,h.2⟩
theorem Cu (f:eX->Bool) : ∀ {l:List eX} {p:Option eX},sG p l=true->sG p (l.filter f)=true
 | [],_,_=>rfl
 | x::l,p,h=>by
  have h':=h
  unfold sG at h
  simp only [Bool.and_eq_true] at h
  cases hf:f x with
  | true =>
   rw [List.filter_cons_of_pos hf]
   unfold sG
   simp only [Bool.and_eq_true]
   exact ⟨h.1,Cu f h.2⟩
  | false =>
   rw [List.filter_cons_of_neg (by rw [hf]; decide)]
   refine Cu f ?_
   cases p with
   | none=>exact Yq h.2
   | some q=>exact Yp h.1.2 h.2
theorem aaM {ops:List eX} {n s:Int} (h:gG ops=true) (hs:s∈bN ops n):gG (mJ ops s n)=true:=by
 unfold gG at h ⊢
 simp only [Bool.and_eq_true,decide_eq_true_eq] at h ⊢
 have hl:=Cm ops s n
 refine ⟨Cu _ h.1,?_,by omega⟩
 unfold bN at hs
 rw [Aw] at hs
 rcases hs with hs | hs
 ·cases hs
 ·obtain ⟨o,ho,e⟩:=List.mem_map.1 hs
  have:o∈mJ ops s n:=List.mem_filter.2 ⟨ho,by simpa using e⟩
  exact List.length_pos_of_mem this
theorem bQ.word {w:aA} (h:bQ w) {x:bG} (hx:NW w x):Kh w.av.length x=true:=by
 obtain ⟨hsh,o,ho,htx,hk⟩:=hx
 have hn:=h.n
 have hlf:=h.life
 have hnx:=h.next
 obtain ⟨hok,-,h1,h2⟩:=h.yh o ho
 have aia:=h.shl
 unfold Kh Ey
 rw [decide_eq_true (show 0<=x.bR/\x.bR<=7 by omega),decide_eq_true (show 1<=x.tx/\x.tx<=1000000 by omega),decide_eq_true (show x.bR<(w.av.length:Int) by omega)]
 simp only [Bool.true_and,Bool.and_true]
 rcases hk with ⟨k1,k2,k3,k4⟩ | ⟨k0,⟨k1,-⟩ | ⟨k1,-,-⟩ | ⟨k1,k2⟩⟩
 ·rw [if_pos k1,k2,k4,aaM hok k3]; rfl
 ·simp [k1,k0]
 ·simp [k1,k0]
 ·simp [k1,k0,k2]
theorem bQ.aib {w:aA} (h:bQ w) {x:bG} (hx:OW w x):Kh w.av.length x=true:=by
 obtain ⟨hsh,⟨o,ho,htx⟩,k0,k1,-⟩:=hx
 have hn:=h.n
 have hlf:=h.life
 have hnx:=h.next
 obtain ⟨hok,-,h1,h2⟩:=h.yh o ho
 have aia:=h.shl
 unfold Kh Ey
 rw [decide_eq_true (show 0<=x.bR/\x.bR<=7 by omega),decide_eq_true (show 1<=x.tx/\x.tx<=1000000 by omega),decide_eq_true (show x.bR<(w.av.length:Int) by omega)]
 simp [k1,k0]
theorem WM {w:aA} (h:bQ w) : ∀ (post pre:List bS),w.begun=pre++post->OY w.c.life w.c.next w.begun pre.length post=true
 | [],pre,e=>rfl
 | o::post,pre,e=>by
  have ih:=WM h post (pre++[o]) (by rw [e]; simp)
  rw [show (pre++[o]).length=pre.length+1 by simp] at ih
  obtain ⟨hok,-,h1,h2⟩:=h.yh o (by rw [e]; simp)
  have hd:=h.Jp
  rw [e,List.pairwise_append] at hd
  have hi:sD o.tx w.begun=(pre.length:Int):=by
   unfold sD
   rw [show mK o.tx w.begun=some pre.length by rw [e]; exact O1 fun y hy=>by have:=hd.2.2 y hy o (by simp); omega]
  unfold OY aek
  rw [ih,hok,hi,decide_eq_true (show 1000<=o.tx/\o.tx<=w.c.life * 1000+w.c.next-1 by omega)]
  simp
theorem bQ.FX {w:aA} (h:bQ w):FX w=true:=by
 unfold Go.Proofs.YtpchnmbcbcfhjaaGreat.FX
 have e0:OY w.c.life w.c.next w.begun 0 w.begun=true:=WM h w.begun [] rfl
 rw [e0,decide_eq_true h.z8]
 have h1:w.c.log.all (aaH w.begun)=true:=List.all_eq_true.2 fun c hc=>by
  obtain ⟨⟨o,ho,htx⟩,-⟩:=h.log c hc
  obtain ⟨j,e,-,-⟩:=EA h ho
  unfold aaH
  rw [<-htx,e,decide_eq_false (by omega)]; rfl
 have h2:w.c.jobs.all (aaI w.begun)=true:=List.all_eq_true.2 fun x hx=>by
  obtain ⟨j,e,-,e2⟩:=EA h (h.jobs x hx).yh
  simp only at e
  unfold aaI
  rw [e,decide_eq_false (by omega),show Int.toNat (j:Int)=j from rfl,e2,AO x.ops fun o _=>Js o]; rfl
 rw [h1,h2]; rfl
theorem bQ.world {w:aA} (h:bQ w):AQ w=true:=by
 have e0:vw 0 w.av=true:=Kj h w.av [] rfl
 unfold AQ FW
 rw [h.ah9,e0,h.FX,decide_eq_true h.zZ,decide_eq_true h.CV,List.all_eq_true.2 fun x hx=>h.word (h.net x hx),List.all_eq_true.2 fun x hx=>h.aib (h.outs x hx)]
 simp [h.shl]
theorem bQ.mem {w:aA} (h:bQ w) {s:aH} (hs:s∈w.av) : ∃ k,ShI w k s/\w.av[k]? = some s:=by
 obtain ⟨k,hk,rfl⟩:=List.getElem_of_mem hs
 have e:w.av[k]? = some w.av[k]:=List.getElem?_eq_getElem hk
 exact ⟨k,h.sh _ _ e,e⟩
theorem bQ.ael {w:aA} (h:bQ w):yw w.av=true:=by
 unfold yw
 refine List.all_eq_true.2 fun s hs=>List.all_eq_true.2 fun r hr=>?_
 unfold ags
 by_cases hk:r.kind=2
 ·have hg:Zu w.av r.tx=false:=by
   unfold Zu
   rw [List.any_eq_false]
   intro s' hs' h2
   rw [WE,List.any_eq_true] at h2
   obtain ⟨r',hr',h3⟩:=h2
   simp only [Bool.and_eq_true,beq_iff_eq] at h3
   obtain ⟨k,hS,-⟩:=h.mem hs
   obtain ⟨k',hS',-⟩:=h.mem hs'
   have c1:=List.mem_of_mem_take ((hS.2.2 r hr).2.1 hk)
   have c2:=(hS'.2.2 r' hr').2.2 h3.1
   rw [h3.2] at c2
   have hd:=h.P8
   rcases c2 with c2 | ⟨-,c2⟩
   ·have c2:=List.mem_of_mem_take c2
    have:(⟨r.tx,true⟩:aQ)=⟨r.tx,false⟩:=by
     clear hS hS'
     generalize w.c.log=l at c1 c2 hd
     induction l with
     | nil=>cases c1
     | cons c l ih =>
      rw [List.pairwise_cons] at hd
      rcases List.mem_cons.1 c1 with e1 | c1 <;> rcases List.mem_cons.1 c2 with e2 | c2
      ·exact e1.trans e2.symm
      ·exact absurd (show c.tx=r.tx by rw [<-e1]) (hd.1 _ c2)
      ·exact absurd (show c.tx=r.tx by rw [<-e2]) (hd.1 _ c1)
      ·exact ih c1 c2 hd.2
    cases this
   ·exact c2 _ c1 rfl
  rw [hg]; simp
 ·simp [hk]
theorem WO {sure tx:Int} : ∀ {l:List aQ} {i:Nat},(⟨tx,true⟩:aQ)∈l.take (sure-i).toNat->Yl sure tx i l=true
 | [],i,h=>by simp at h
 | c::l,i,h=>by
  by_cases hi:(i:Int)<sure
  ·obtain ⟨q,hq⟩ : ∃ q,(sure-i).toNat=q+1:=⟨(sure-i).toNat-1,by omega⟩
   rw [hq,List.take_succ_cons] at h
   unfold Yl
   rcases List.mem_cons.1 h with e | h
   ·rw [<-e,decide_eq_true hi]; simp
   ·rw [WO (i:=i+1) (by rw [show (sure-((i+1:Nat):Int)).toNat=q by omega]; exact h),Bool.or_true]
  ·rw [show (sure-(i:Int)).toNat=0 by omega] at h; simp at h
theorem bQ.backed {w:aA} (h:bQ w):Ez w=true:=by
 unfold Ez
 refine List.all_eq_true.2 fun s hs=>List.all_eq_true.2 fun r hr=>?_
 unfold bk1
 by_cases hk:r.kind=2
 ·obtain ⟨k,hS,-⟩:=h.mem hs
  have:=(hS.2.2 r hr).2.1 hk
  unfold Il
  rw [WO (by rw [Int.natCast_zero,Int.sub_zero]; exact this),Bool.or_true]
 ·simp [hk]
theorem bQ.whole {w:aA} (h:bQ w):Jt w=true:=by
 unfold Jt
 refine List.all_eq_true.2 fun s hs=>List.all_eq_true.2 fun r hr=>?_
 unfold wh1
 by_cases hk:r.kind=1
 ·obtain ⟨k,hS,-⟩:=h.mem hs
  obtain ⟨o,ho,htx,hops⟩:=(hS.2.2 r hr).1
  obtain ⟨j,e,-,e2⟩:=EA h ho
  rw [<-htx,e,decide_eq_false (by omega),show Int.toNat (j:Int)=j from rfl,e2,hops hk,hS.1,AO _ fun o _=>Js o]
  simp
 ·simp [hk]
theorem bQ.promised {w:aA} (h:bQ w):wX w=true:=by
 unfold wX
 refine List.all_eq_true.2 fun c hc=>?_
 unfold pr
 cases hy:c.yes with
 | false=>rfl
 | true =>
  obtain ⟨⟨o,ho,htx⟩,h2⟩:=h.log c hc
  obtain ⟨j,e,-,e2⟩:=EA h ho
  rw [<-htx,e,decide_eq_false (by omega),show Int.toNat (j:Int)=j from rfl,e2]
  simp only [Bool.not_true,Bool.false_or,Bool.not_false,Bool.true_and]
  refine List.all_eq_true.2 fun s hs=>?_
  obtain ⟨sh,e3,r,hr,h4,h5⟩:=h2 hy o ho htx s hs
  have hlt:=(List.getElem?_eq_some_iff.1 e3).1
  have hnn:=Rn hs
  unfold pr1
  rw [decide_eq_true (by omega),show w.av.getD s.toNat default=sh by rw [List.getD,e3]; rfl]
  have hsi:=(h.sh _ _ e3).2.1.sure
  unfold WI
  rw [Bool.true_and,List.any_eq_true]
  refine ⟨r,?_,?_⟩
  ·have:CO sh=sh.sure.toNat:=by
    have:=afb sh
    unfold zA zy at this
    split at this <;> split at this <;> omega
   rw [this]; exact hr
  ·unfold WH
   rw [h4,htx]
   rcases h5 with h5 | h5 <;> simp [h5]
theorem bQ.safe {w:aA} (h:bQ w):Zw w=0:=by
 unfold Zw
 rw [h.world,h.ael,h.backed,h.whole,h.promised]
 rfl
end Go.Proofs.YtpchnmbcbcfhjaaGreat

namespace Go.Proofs.YtpchnmbcbcfhjaaGreat
open Go Go.E Go.Proofs
theorem bQ.cw {w:aA} (h:bQ w):CW w:=by
 have hb:=tL.of h
 have hbl:=h.z8
 have hjl:=h.DY
 have hll:=h.vN
 have hnl:=h.zZ
 have hol:=h.CV
 have hsl:=hb.shl
 refine ⟨⟨by omega,fun j hj=>⟨(hb.c.jobs j hj).1,by have:=(hb.c.jobs j hj).2.2; unfold aeT; omega⟩⟩,by omega,by omega,fun s hs=>?_,by omega,fun x hx=>(hb.net x hx).1,by omega,fun x hx=>(hb.out x hx).1,by omega,fun o ho=>?_⟩
 ·obtain ⟨k,hS,-⟩:=h.mem hs
  obtain ⟨seen,-,hi,h1,h2⟩:=hS.2.1.inv
  exact ⟨by omega,by omega,by omega,fun r hr=>(Zo (hi.ok r hr) (hS.2.1.ops r hr)).b⟩
 ·obtain ⟨h1,h2,-⟩:=h.yh o ho
  exact ⟨by have:=(tH h1).2; omega,fun p hp=>(h2 p hp).b⟩
theorem aem {sh:List aH} {b:Nat} (h : ∀ s∈sh,s.log.length<=b):(nsP sh).length<=sh.length * b:=by
 induction sh with
 | nil=>simp [nsP]
 | cons s sh ih =>
  have:=ih fun x hx=>h x (by simp [hx])
  have h1:=h s (by simp)
  have e:nsP (s::sh)=(s.log.map fun r=>(r.kind,r.tx))++nsP sh:=by simp [nsP]
  rw [e,List.length_append,List.length_map,List.length_cons,Nat.add_mul,Nat.one_mul]
  omega
theorem bQ.nsl {w:aA} (h:bQ w):(nsP w.av).length<=ay:=by
 have h1 : ∀ s∈w.av,s.log.length<=300:=fun s hs=>by
  obtain ⟨k,hS,-⟩:=h.mem hs
  obtain ⟨seen,-,-,h1,-⟩:=hS.2.1.inv
  omega
 have h2:=aem h1
 have hn:=h.n
 have hl:=h.shl
 have:w.av.length * 300<=8 * 300:=Nat.mul_le_mul_right _ (by omega)
 unfold ay
 omega
end Go.Proofs.YtpchnmbcbcfhjaaGreat

