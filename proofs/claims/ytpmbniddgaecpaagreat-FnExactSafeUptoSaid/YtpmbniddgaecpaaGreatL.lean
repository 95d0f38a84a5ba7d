/- A part of the proof: texts XL, XM, XN: see the last part's opening words. -/
import Derived.Test.YtpmbniddgaecpaaGreatK
set_option linter.unusedVariables false
set_option linter.unusedSimpArgs false
set_option linter.unnecessarySimpa false
namespace Go.Proofs.YtpmbniddgaecpaaGreat
open Go Go.E Go.Proofs
mutual
def tsz:T->Nat
 | .i _=>0
 | .b _=>0
 | .s s=>s.size
 | .l rows=>rows.length+bB rows
 | .x _=>0
def eB:List T->Nat
 | []=>0
 | d::ds=>tsz d+eB ds
def bB:List (List T)->Nat
 | []=>0
 | r::rs=>eB r+bB rs
end
theorem aeg : ∀ a b:List (List T),bB (a++b)=bB a+bB b
 | [],b=>by simp [bB]
 | x::a,b=>by simp only [List.cons_append,bB,aeg a b]; omega
theorem aaU : ∀ a b:List (List T),aj (a++b)=aj a+aj b
 | [],b=>by simp [aj]
 | x::a,b=>by simp only [List.cons_append,aj,aaU a b]; omega
theorem ai2 {es:List LT} (hes:es≠[]) {r:List T} (h:aC es r):1<=aV r:=by
 match es,hes with
 | e::es,_ =>
  unfold aC at h
  obtain ⟨d,r,rfl,-,-⟩:=h
  have:1<=dX d:=by cases d <;> simp [dX]
  simp only [aV]; omega
theorem bC {es:List LT} (hes:es≠[]) : ∀ {rows:List (List T)},(∀ r∈rows,aC es r)->rows.length<=aj rows
 | [],_=>by simp [aj]
 | r::rows,h=>by
  have h1:=ai2 hes (h r (by simp))
  have h2:=bC hes (rows:=rows) fun r hr=>h r (by simp [hr])
  simp only [aj,List.length_cons]; omega
abbrev wV:List LT:=[.sc (.int .i64)]
theorem Q8 (m:Nat) (hm:1048602<=m) : ∀ (post pre z:List (List T)),(∀ r∈post,aC wV r)->aj post<=1048576->z.length=post.length->(∀ r∈z,r.length=1)->pre.length+post.length<=1048576 ->
  ∀ n,post.length<n->∀ k0,kS m n (.l (pre++post)) (.i pre.length) (.l (pre++z)) k0=k0 (.l (pre++post))
 | [],pre,z,h,hb,hz,hz2,hs,n,hn,k0=>by
  obtain ⟨n,rfl⟩ : ∃ m',n=m'+1:=⟨n-1,by omega⟩
  obtain rfl:z=[]:=List.eq_nil_of_length_eq_zero hz
  simp only [kS,T.ak,T.ah]
  rw [aH (by simp)]
 | x::post,pre,z,h,hb,hz,hz2,hs,n,hn,k0=>by
  obtain ⟨n,rfl⟩ : ∃ m',n=m'+1:=⟨n-1,by omega⟩
  simp only [List.length_cons] at hs hn hz
  match z,hz,hz2 with
  | r::z,hz,hz2 =>
  simp only [List.length_cons] at hz
  match r,hz2 r (by simp) with
  | [c0],_ =>
  have ih:=Q8 m hm post (pre++[x]) z (fun r hr=>h r (by simp [hr])) (by simp only [aj] at hb; omega) (by omega) (fun r hr=>hz2 r (by simp [hr])) (by simp; omega) n (by omega) k0
  have hx:=h x (by simp)
  simp only [wV,aC,zl] at hx
  obtain ⟨_,_,rfl,⟨a0,rfl,-⟩,rfl⟩:=hx
  simp only [aj,aV,dX] at hb
  simp only [kS,T.ak,T.ah,iA,bA pre (by omega),vZ,List.getD_cons_zero,List.getD_cons_succ,List.set_cons_zero,List.set_cons_succ]
  rw [au (by simp; omega),au (by simp; omega)]
  rw [au (by simp; omega),au (by simp)]
  simpa using ih
theorem agK {m:Nat} (hm:1048603<=m) (rows:List (List T)) (h : ∀ r∈rows,aC wV r) (hb:aj rows<=1048576) (k:T->An):BH m (.l rows) k=k (.l rows):=by
 obtain ⟨m,rfl⟩ : ∃ m',m=m'+1:=⟨m-1,by omega⟩
 have hl:=bC (by simp) h
 simp only [BH,T.ah,T.ak]
 rw [au (by omega),au (by unfold aK; omega)]
 exact Q8 m (by omega) rows [] (List.replicate _ _) h hb (by simp) (fun r hr=>by rw [List.eq_of_mem_replicate hr]; rfl) (by simp; omega) m (by omega) _
theorem V9 : ∀ {rows:List (List T)},(∀ r∈rows,aC wV r)->bB rows=0
 | [],_=>rfl
 | x::rows,h=>by
  have ih:=V9 (rows:=rows) fun r hr=>h r (by simp [hr])
  have hx:=h x (by simp)
  simp only [wV,aC,zl] at hx
  obtain ⟨_,_,rfl,⟨a0,rfl,-⟩,rfl⟩:=hx
  simp only [bB,eB,tsz,ih]
theorem agL {m:Nat} (hm:1048603<=m) (rows:List (List T)) (h : ∀ r∈rows,aC wV r) (hb:aj rows<=1048576) (l:Int) (hl:((rows.length+bB rows:Nat):Int)<=l) (hl2:l<=1048576) (k:T->An):BA m (.l rows) (.i l) k=k (.i (l-(rows.length+bB rows:Nat))):=by
 obtain ⟨m,rfl⟩ : ∃ m',m=m'+1:=⟨m-1,by omega⟩
 have e:=V9 h
 rw [e] at hl ⊢
 have hlen:=bC (by simp) h
 simp only [BA,T.ah,T.ak]
 rw [show IntKind.i64.wrap (l-(rows.length:Int))=l-(rows.length:Int) from wrap_i64 (by omega) (by omega),aH (by omega)]
 congr 2
theorem Q9 (m:Nat) (hm:1048602<=m) : ∀ (post pre:List (List T)),(∀ r∈post,aC wV r)->aj post<=1048576->pre.length+post.length<=1048576 ->
  ∀ n,post.length<n->∀ k0 k1,lF m n (.l (pre++post)) (.l (pre++post)) (.i pre.length) k0 k1=k1
 | [],pre,h,hb,hs,n,hn,k0,k1=>by
  obtain ⟨n,rfl⟩ : ∃ m',n=m'+1:=⟨n-1,by omega⟩
  simp only [lF,T.ak,T.ah]
  rw [aH (by simp)]
 | x::post,pre,h,hb,hs,n,hn,k0,k1=>by
  obtain ⟨n,rfl⟩ : ∃ m',n=m'+1:=⟨n-1,by omega⟩
  simp only [List.length_cons] at hs hn
  have ih:=Q9 m hm post (pre++[x]) (fun r hr=>h r (by simp [hr])) (by simp only [aj] at hb; omega) (by simp; omega) n (by omega) k0 k1
  have hx:=h x (by simp)
  simp only [wV,aC,zl] at hx
  obtain ⟨_,_,rfl,⟨a0,rfl,-⟩,rfl⟩:=hx
  simp only [aj,aV,dX] at hb
  simp only [lF,T.ak,T.ah,iA,bA pre (by omega),List.getD_cons_zero,List.getD_cons_succ]
  rw [au (by simp; omega),au (by simp; omega),au (by simp; omega)]
  simp only [T.ak,bne_self_eq_false,cond_false]
  simpa using ih
theorem agM {m:Nat} (hm:1048603<=m) (rows:List (List T)) (h : ∀ r∈rows,aC wV r) (hb:aj rows<=1048576) (k:T->An):Cj m (.l rows) (.l rows) k=k (.b true):=by
 obtain ⟨m,rfl⟩ : ∃ m',m=m'+1:=⟨m-1,by omega⟩
 have hlen:=bC (by simp) h
 simp only [Cj,T.ah,T.ak,bne_self_eq_false,cond_false]
 exact Q9 m (by omega) rows [] h hb (by simp; omega) m (by omega) _ _
abbrev sO:List LT:=[.sc (.int .i64),.sc .str,.sc .str]
theorem akd {m:Nat} (hm:1048602<=m) (a0:Int) (a1:ByteArray) (a2:ByteArray)  (k:T->T->T->An):Kh m (.i a0) (.s a1) (.s a2) k=k (.i a0) (.s a1) (.s a2):=by
 obtain ⟨m,rfl⟩ : ∃ m',m=m'+1:=⟨m-1,by omega⟩
 simp only [Kh,T.ah]
theorem Wd (m:Nat) (hm:1048602<=m) : ∀ (post pre z:List (List T)),(∀ r∈post,aC sO r)->aj post<=1048576->z.length=post.length->(∀ r∈z,r.length=3)->pre.length+post.length<=1048576 ->
  ∀ n,post.length<n->∀ k0,mO m n (.l (pre++post)) (.i pre.length) (.l (pre++z)) k0=k0 (.l (pre++post))
 | [],pre,z,h,hb,hz,hz2,hs,n,hn,k0=>by
  obtain ⟨n,rfl⟩ : ∃ m',n=m'+1:=⟨n-1,by omega⟩
  obtain rfl:z=[]:=List.eq_nil_of_length_eq_zero hz
  simp only [mO,T.ak,T.ah]
  rw [aH (by simp)]
 | x::post,pre,z,h,hb,hz,hz2,hs,n,hn,k0=>by
  obtain ⟨n,rfl⟩ : ∃ m',n=m'+1:=⟨n-1,by omega⟩
  simp only [List.length_cons] at hs hn hz
  match z,hz,hz2 with
  | r::z,hz,hz2 =>
  simp only [List.length_cons] at hz
  match r,hz2 r (by simp) with
  | [c0,c1,c2],_ =>
  have ih:=Wd m hm post (pre++[x]) z (fun r hr=>h r (by simp [hr])) (by simp only [aj] at hb; omega) (by omega) (fun r hr=>hz2 r (by simp [hr])) (by simp; omega) n (by omega) k0
  have hx:=h x (by simp)
  simp only [sO,aC,zl] at hx
  obtain ⟨_,_,rfl,⟨a0,rfl,-⟩,_,_,rfl,⟨a1,rfl,-⟩,_,_,rfl,⟨a2,rfl,-⟩,rfl⟩:=hx
  simp only [aj,aV,dX] at hb
  simp only [mO,T.ak,T.ah,iA,bA pre (by omega),vZ,List.getD_cons_zero,List.getD_cons_succ,List.set_cons_zero,List.set_cons_succ]
  rw [au (by simp; omega),au (by simp; omega)]
  rw [akd (by omega) a0 a1 a2,au (by simp; omega),au (by simp)]
  simpa using ih
theorem OT {m:Nat} (hm:1048603<=m) (rows:List (List T)) (h : ∀ r∈rows,aC sO r) (hb:aj rows<=1048576) (k:T->An):rF m (.l rows) k=k (.l rows):=by
 obtain ⟨m,rfl⟩ : ∃ m',m=m'+1:=⟨m-1,by omega⟩
 have hl:=bC (by simp) h
 simp only [rF,T.ah,T.ak]
 rw [au (by omega),au (by unfold aK; omega)]
 exact Wd m (by omega) rows [] (List.replicate _ _) h hb (by simp) (fun r hr=>by rw [List.eq_of_mem_replicate hr]; rfl) (by simp; omega) m (by omega) _
theorem ake {m:Nat} (hm:1048602<=m) (a0:Int) (a1:ByteArray) (a2:ByteArray)  (l:Int) (hl:(eB [.i a0,.s a1,.s a2]:Int)<=l) (hl2:l<=1048576) (k:T->An):Kg m (.i a0) (.s a1) (.s a2) (.i l) k=k (.i (l-(eB [.i a0,.s a1,.s a2]:Nat))):=by
 obtain ⟨m,rfl⟩ : ∃ m',m=m'+1:=⟨m-1,by omega⟩
 simp only [eB,tsz] at hl ⊢
 simp only [Kg,T.ah,T.ak,T.dR]
 rw [show IntKind.i64.wrap (l-(a1.size:Int))=l-(a1.size:Int) from wrap_i64 (by omega) (by omega)]
 rw [aH (by omega)]
 rw [show IntKind.i64.wrap ((l-(a1.size:Int))-(a2.size:Int))=(l-(a1.size:Int))-(a2.size:Int) from wrap_i64 (by omega) (by omega)]
 rw [aH (by omega)]
 congr 2 <;> omega
theorem Wh (m:Nat) (hm:1048602<=m) : ∀ (post pre:List (List T)) (l:Int),(∀ r∈post,aC sO r)->aj post<=1048576->(bB post:Int)<=l->l<=1048576->pre.length+post.length<=1048576 ->
  ∀ n,post.length<n->∀ k0 k1,mM m n (.l (pre++post)) (.i l) (.i pre.length) k0 k1=k1 (.i (l-bB post))
 | [],pre,l,h,hb,hl,hl2,hs,n,hn,k0,k1=>by
  obtain ⟨n,rfl⟩ : ∃ m',n=m'+1:=⟨n-1,by omega⟩
  simp only [mM,T.ak,T.ah]
  rw [aH (by simp)]
  simp [bB]
 | x::post,pre,l,h,hb,hl,hl2,hs,n,hn,k0,k1=>by
  obtain ⟨n,rfl⟩ : ∃ m',n=m'+1:=⟨n-1,by omega⟩
  simp only [List.length_cons] at hs hn
  simp only [bB] at hl ⊢
  have ih:=fun l hl hl2=>Wh m hm post (pre++[x]) l (fun r hr=>h r (by simp [hr])) (by simp only [aj] at hb; omega) hl hl2 (by simp; omega) n (by omega) k0 k1
  have hx:=h x (by simp)
  simp only [sO,aC,zl] at hx
  obtain ⟨_,_,rfl,⟨a0,rfl,-⟩,_,_,rfl,⟨a1,rfl,-⟩,_,_,rfl,⟨a2,rfl,-⟩,rfl⟩:=hx
  simp only [aj,aV,dX] at hb
  simp only [mM,T.ak,T.ah,iA,bA pre (by omega),List.getD_cons_zero,List.getD_cons_succ]
  rw [au (by simp; omega),au (by simp; omega)]
  rw [ake (by omega) a0 a1 a2 l (by omega) hl2,T.ak,aH (by omega)]
  have:=ih (l-(eB [.i a0,.s a1,.s a2]:Nat)) (by omega) (by omega)
  simp only [List.append_assoc,List.cons_append,List.nil_append,aG] at this
  refine this.trans ?_
  congr 2; omega
theorem OU {m:Nat} (hm:1048603<=m) (rows:List (List T)) (h : ∀ r∈rows,aC sO r) (hb:aj rows<=1048576) (l:Int) (hl:((rows.length+bB rows:Nat):Int)<=l) (hl2:l<=1048576) (k:T->An):rE m (.l rows) (.i l) k=k (.i (l-(rows.length+bB rows:Nat))):=by
 obtain ⟨m,rfl⟩ : ∃ m',m=m'+1:=⟨m-1,by omega⟩
 have hlen:=bC (by simp) h
 simp only [rE,T.ah,T.ak]
 rw [show IntKind.i64.wrap (l-(rows.length:Int))=l-(rows.length:Int) from wrap_i64 (by omega) (by omega),aH (by omega)]
 refine (Wh m (by omega) rows [] (l-rows.length) h hb (by omega) (by omega) (by simp; omega) m (by omega) _ _).trans ?_
 congr 2; omega
theorem akf {m:Nat} (hm:1048602<=m) (a0:Int) (a1:ByteArray) (a2:ByteArray)  (k:T->An):Ko m (.i a0) (.s a1) (.s a2) (.i a0) (.s a1) (.s a2) k=k (.b true):=by
 obtain ⟨m,rfl⟩ : ∃ m',m=m'+1:=⟨m-1,by omega⟩
 simp only [Ko,T.ah,T.ak,T.dR,T.aT,bne_self_eq_false,eX,beq_self_eq_true,Bool.not_true,cond_false]
theorem Wi (m:Nat) (hm:1048602<=m) : ∀ (post pre:List (List T)),(∀ r∈post,aC sO r)->aj post<=1048576->pre.length+post.length<=1048576 ->
  ∀ n,post.length<n->∀ k0 k1,mY m n (.l (pre++post)) (.l (pre++post)) (.i pre.length) k0 k1=k1
 | [],pre,h,hb,hs,n,hn,k0,k1=>by
  obtain ⟨n,rfl⟩ : ∃ m',n=m'+1:=⟨n-1,by omega⟩
  simp only [mY,T.ak,T.ah]
  rw [aH (by simp)]
 | x::post,pre,h,hb,hs,n,hn,k0,k1=>by
  obtain ⟨n,rfl⟩ : ∃ m',n=m'+1:=⟨n-1,by omega⟩
  simp only [List.length_cons] at hs hn
  have ih:=Wi m hm post (pre++[x]) (fun r hr=>h r (by simp [hr])) (by simp only [aj] at hb; omega) (by simp; omega) n (by omega) k0 k1
  have hx:=h x (by simp)
  simp only [sO,aC,zl] at hx
  obtain ⟨_,_,rfl,⟨a0,rfl,-⟩,_,_,rfl,⟨a1,rfl,-⟩,_,_,rfl,⟨a2,rfl,-⟩,rfl⟩:=hx
  simp only [aj,aV,dX] at hb
  simp only [mY,T.ak,T.ah,iA,bA pre (by omega),List.getD_cons_zero,List.getD_cons_succ]
  rw [au (by simp; omega),au (by simp; omega),au (by simp; omega)]
  rw [akf (by omega) a0 a1 a2]
  simpa using ih
theorem OV {m:Nat} (hm:1048603<=m) (rows:List (List T)) (h : ∀ r∈rows,aC sO r) (hb:aj rows<=1048576) (k:T->An):rQ m (.l rows) (.l rows) k=k (.b true):=by
 obtain ⟨m,rfl⟩ : ∃ m',m=m'+1:=⟨m-1,by omega⟩
 have hlen:=bC (by simp) h
 simp only [rQ,T.ah,T.ak,bne_self_eq_false,cond_false]
 exact Wi m (by omega) rows [] h hb (by simp; omega) m (by omega) _ _
abbrev qR:List LT:=[.sc (.int .i64),.sc (.int .i64),.sl sO]
theorem ai3 {m:Nat} (hm:1048606<=m) (a0:Int) (a1:Int) (a2:List (List T)) (h2 : ∀ r∈a2,aC sO r) (b2:aj a2<=1048576) (k:T->T->T->An):FL m (.i a0) (.i a1) (.l a2) k=k (.i a0) (.i a1) (.l a2):=by
 obtain ⟨m,rfl⟩ : ∃ m',m=m'+1:=⟨m-1,by omega⟩
 simp only [FL,T.ah]
 rw [OT (by omega) a2 h2 b2]
 try simp only [T.ah]
theorem Ra (m:Nat) (hm:1048606<=m) : ∀ (post pre z:List (List T)),(∀ r∈post,aC qR r)->aj post<=1048576->z.length=post.length->(∀ r∈z,r.length=3)->pre.length+post.length<=1048576 ->
  ∀ n,post.length<n->∀ k0,kU m n (.l (pre++post)) (.i pre.length) (.l (pre++z)) k0=k0 (.l (pre++post))
 | [],pre,z,h,hb,hz,hz2,hs,n,hn,k0=>by
  obtain ⟨n,rfl⟩ : ∃ m',n=m'+1:=⟨n-1,by omega⟩
  obtain rfl:z=[]:=List.eq_nil_of_length_eq_zero hz
  simp only [kU,T.ak,T.ah]
  rw [aH (by simp)]
 | x::post,pre,z,h,hb,hz,hz2,hs,n,hn,k0=>by
  obtain ⟨n,rfl⟩ : ∃ m',n=m'+1:=⟨n-1,by omega⟩
  simp only [List.length_cons] at hs hn hz
  match z,hz,hz2 with
  | r::z,hz,hz2 =>
  simp only [List.length_cons] at hz
  match r,hz2 r (by simp) with
  | [c0,c1,c2],_ =>
  have ih:=Ra m hm post (pre++[x]) z (fun r hr=>h r (by simp [hr])) (by simp only [aj] at hb; omega) (by omega) (fun r hr=>hz2 r (by simp [hr])) (by simp; omega) n (by omega) k0
  have hx:=h x (by simp)
  simp only [qR,aC,zl] at hx
  obtain ⟨_,_,rfl,⟨a0,rfl,-⟩,_,_,rfl,⟨a1,rfl,-⟩,_,_,rfl,⟨a2,rfl,h2⟩,rfl⟩:=hx
  simp only [aj,aV,dX] at hb
  simp only [kU,T.ak,T.ah,iA,bA pre (by omega),vZ,List.getD_cons_zero,List.getD_cons_succ,List.set_cons_zero,List.set_cons_succ]
  rw [au (by simp; omega),au (by simp; omega)]
  rw [ai3 (by omega) a0 a1 a2 h2 (by omega),au (by simp; omega),au (by simp)]
  simpa using ih
theorem Y0 {m:Nat} (hm:1048607<=m) (rows:List (List T)) (h : ∀ r∈rows,aC qR r) (hb:aj rows<=1048576) (k:T->An):wM m (.l rows) k=k (.l rows):=by
 obtain ⟨m,rfl⟩ : ∃ m',m=m'+1:=⟨m-1,by omega⟩
 have hl:=bC (by simp) h
 simp only [wM,T.ah,T.ak]
 rw [au (by omega),au (by unfold aK; omega)]
 exact Ra m (by omega) rows [] (List.replicate _ _) h hb (by simp) (fun r hr=>by rw [List.eq_of_mem_replicate hr]; rfl) (by simp; omega) m (by omega) _
theorem ai4 {m:Nat} (hm:1048606<=m) (a0:Int) (a1:Int) (a2:List (List T)) (h2 : ∀ r∈a2,aC sO r) (b2:aj a2<=1048576) (l:Int) (hl:(eB [.i a0,.i a1,.l a2]:Int)<=l) (hl2:l<=1048576) (k:T->An):FE m (.i a0) (.i a1) (.l a2) (.i l) k=k (.i (l-(eB [.i a0,.i a1,.l a2]:Nat))):=by
 obtain ⟨m,rfl⟩ : ∃ m',m=m'+1:=⟨m-1,by omega⟩
 simp only [eB,tsz] at hl ⊢
 simp only [FE,T.ah,T.ak,T.dR]
 rw [OU (by omega) a2 h2 b2 l (by omega) (by omega),T.ak,aH (by omega)]
 congr 2 <;> omega
theorem Rb (m:Nat) (hm:1048606<=m) : ∀ (post pre:List (List T)) (l:Int),(∀ r∈post,aC qR r)->aj post<=1048576->(bB post:Int)<=l->l<=1048576->pre.length+post.length<=1048576 ->
  ∀ n,post.length<n->∀ k0 k1,kR m n (.l (pre++post)) (.i l) (.i pre.length) k0 k1=k1 (.i (l-bB post))
 | [],pre,l,h,hb,hl,hl2,hs,n,hn,k0,k1=>by
  obtain ⟨n,rfl⟩ : ∃ m',n=m'+1:=⟨n-1,by omega⟩
  simp only [kR,T.ak,T.ah]
  rw [aH (by simp)]
  simp [bB]
 | x::post,pre,l,h,hb,hl,hl2,hs,n,hn,k0,k1=>by
  obtain ⟨n,rfl⟩ : ∃ m',n=m'+1:=⟨n-1,by omega⟩
  simp only [List.length_cons] at hs hn
  simp only [bB] at hl ⊢
  have ih:=fun l hl hl2=>Rb m hm post (pre++[x]) l (fun r hr=>h r (by simp [hr])) (by simp only [aj] at hb; omega) hl hl2 (by simp; omega) n (by omega) k0 k1
  have hx:=h x (by simp)
  simp only [qR,aC,zl] at hx
  obtain ⟨_,_,rfl,⟨a0,rfl,-⟩,_,_,rfl,⟨a1,rfl,-⟩,_,_,rfl,⟨a2,rfl,h2⟩,rfl⟩:=hx
  simp only [aj,aV,dX] at hb
  simp only [kR,T.ak,T.ah,iA,bA pre (by omega),List.getD_cons_zero,List.getD_cons_succ]
  rw [au (by simp; omega),au (by simp; omega)]
  rw [ai4 (by omega) a0 a1 a2 h2 (by omega) l (by omega) hl2,T.ak,aH (by omega)]
  have:=ih (l-(eB [.i a0,.i a1,.l a2]:Nat)) (by omega) (by omega)
  simp only [List.append_assoc,List.cons_append,List.nil_append,aG] at this
  refine this.trans ?_
  congr 2; omega
theorem Y1 {m:Nat} (hm:1048607<=m) (rows:List (List T)) (h : ∀ r∈rows,aC qR r) (hb:aj rows<=1048576) (l:Int) (hl:((rows.length+bB rows:Nat):Int)<=l) (hl2:l<=1048576) (k:T->An):wL m (.l rows) (.i l) k=k (.i (l-(rows.length+bB rows:Nat))):=by
 obtain ⟨m,rfl⟩ : ∃ m',m=m'+1:=⟨m-1,by omega⟩
 have hlen:=bC (by simp) h
 simp only [wL,T.ah,T.ak]
 rw [show IntKind.i64.wrap (l-(rows.length:Int))=l-(rows.length:Int) from wrap_i64 (by omega) (by omega),aH (by omega)]
 refine (Rb m (by omega) rows [] (l-rows.length) h hb (by omega) (by omega) (by simp; omega) m (by omega) _ _).trans ?_
 congr 2; omega
theorem ai5 {m:Nat} (hm:1048606<=m) (a0:Int) (a1:Int) (a2:List (List T)) (h2 : ∀ r∈a2,aC sO r) (b2:aj a2<=1048576) (k:T->An):Gq m (.i a0) (.i a1) (.l a2) (.i a0) (.i a1) (.l a2) k=k (.b true):=by
 obtain ⟨m,rfl⟩ : ∃ m',m=m'+1:=⟨m-1,by omega⟩
 simp only [Gq,T.ah,T.ak,T.dR,T.aT,bne_self_eq_false,eX,beq_self_eq_true,Bool.not_true,cond_false,OV (m:=m) (by omega) a2 h2 b2]
theorem Rc (m:Nat) (hm:1048606<=m) : ∀ (post pre:List (List T)),(∀ r∈post,aC qR r)->aj post<=1048576->pre.length+post.length<=1048576 ->
  ∀ n,post.length<n->∀ k0 k1,lH m n (.l (pre++post)) (.l (pre++post)) (.i pre.length) k0 k1=k1
 | [],pre,h,hb,hs,n,hn,k0,k1=>by
  obtain ⟨n,rfl⟩ : ∃ m',n=m'+1:=⟨n-1,by omega⟩
  simp only [lH,T.ak,T.ah]
  rw [aH (by simp)]
 | x::post,pre,h,hb,hs,n,hn,k0,k1=>by
  obtain ⟨n,rfl⟩ : ∃ m',n=m'+1:=⟨n-1,by omega⟩
  simp only [List.length_cons] at hs hn
  have ih:=Rc m hm post (pre++[x]) (fun r hr=>h r (by simp [hr])) (by simp only [aj] at hb; omega) (by simp; omega) n (by omega) k0 k1
  have hx:=h x (by simp)
  simp only [qR,aC,zl] at hx
  obtain ⟨_,_,rfl,⟨a0,rfl,-⟩,_,_,rfl,⟨a1,rfl,-⟩,_,_,rfl,⟨a2,rfl,h2⟩,rfl⟩:=hx
  simp only [aj,aV,dX] at hb
  simp only [lH,T.ak,T.ah,iA,bA pre (by omega),List.getD_cons_zero,List.getD_cons_succ]
  rw [au (by simp; omega),au (by simp; omega),au (by simp; omega)]
  rw [ai5 (by omega) a0 a1 a2 h2 (by omega)]
  simpa using ih
theorem Y2 {m:Nat} (hm:1048607<=m) (rows:List (List T)) (h : ∀ r∈rows,aC qR r) (hb:aj rows<=1048576) (k:T->An):wR m (.l rows) (.l rows) k=k (.b true):=by
 obtain ⟨m,rfl⟩ : ∃ m',m=m'+1:=⟨m-1,by omega⟩
 have hlen:=bC (by simp) h
 simp only [wR,T.ah,T.ak,bne_self_eq_false,cond_false]
 exact Rc m (by omega) rows [] h hb (by simp; omega) m (by omega) _ _
abbrev qb:List LT:=[.sc .str,.sc .str]
theorem agN {m:Nat} (hm:1048602<=m) (a0:ByteArray) (a1:ByteArray)  (k:T->T->An):BJ m (.s a0) (.s a1) k=k (.s a0) (.s a1):=by
 obtain ⟨m,rfl⟩ : ∃ m',m=m'+1:=⟨m-1,by omega⟩
 simp only [BJ,T.ah]
theorem OW (m:Nat) (hm:1048602<=m) : ∀ (post pre z:List (List T)),(∀ r∈post,aC qb r)->aj post<=1048576->z.length=post.length->(∀ r∈z,r.length=2)->pre.length+post.length<=1048576 ->
  ∀ n,post.length<n->∀ k0,jK m n (.l (pre++post)) (.i pre.length) (.l (pre++z)) k0=k0 (.l (pre++post))
 | [],pre,z,h,hb,hz,hz2,hs,n,hn,k0=>by
  obtain ⟨n,rfl⟩ : ∃ m',n=m'+1:=⟨n-1,by omega⟩
  obtain rfl:z=[]:=List.eq_nil_of_length_eq_zero hz
  simp only [jK,T.ak,T.ah]
  rw [aH (by simp)]
 | x::post,pre,z,h,hb,hz,hz2,hs,n,hn,k0=>by
  obtain ⟨n,rfl⟩ : ∃ m',n=m'+1:=⟨n-1,by omega⟩
  simp only [List.length_cons] at hs hn hz
  match z,hz,hz2 with
  | r::z,hz,hz2 =>
  simp only [List.length_cons] at hz
  match r,hz2 r (by simp) with
  | [c0,c1],_ =>
  have ih:=OW m hm post (pre++[x]) z (fun r hr=>h r (by simp [hr])) (by simp only [aj] at hb; omega) (by omega) (fun r hr=>hz2 r (by simp [hr])) (by simp; omega) n (by omega) k0
  have hx:=h x (by simp)
  simp only [qb,aC,zl] at hx
  obtain ⟨_,_,rfl,⟨a0,rfl,-⟩,_,_,rfl,⟨a1,rfl,-⟩,rfl⟩:=hx
  simp only [aj,aV,dX] at hb
  simp only [jK,T.ak,T.ah,iA,bA pre (by omega),vZ,List.getD_cons_zero,List.getD_cons_succ,List.set_cons_zero,List.set_cons_succ]
  rw [au (by simp; omega),au (by simp; omega)]
  rw [agN (by omega) a0 a1,au (by simp; omega),au (by simp)]
  simpa using ih
theorem aeh {m:Nat} (hm:1048603<=m) (rows:List (List T)) (h : ∀ r∈rows,aC qb r) (hb:aj rows<=1048576) (k:T->An):yG m (.l rows) k=k (.l rows):=by
 obtain ⟨m,rfl⟩ : ∃ m',m=m'+1:=⟨m-1,by omega⟩
 have hl:=bC (by simp) h
 simp only [yG,T.ah,T.ak]
 rw [au (by omega),au (by unfold aK; omega)]
 exact OW m (by omega) rows [] (List.replicate _ _) h hb (by simp) (fun r hr=>by rw [List.eq_of_mem_replicate hr]; rfl) (by simp; omega) m (by omega) _
theorem agO {m:Nat} (hm:1048602<=m) (a0:ByteArray) (a1:ByteArray)  (l:Int) (hl:(eB [.s a0,.s a1]:Int)<=l) (hl2:l<=1048576) (k:T->An):BF m (.s a0) (.s a1) (.i l) k=k (.i (l-(eB [.s a0,.s a1]:Nat))):=by
 obtain ⟨m,rfl⟩ : ∃ m',m=m'+1:=⟨m-1,by omega⟩
 simp only [eB,tsz] at hl ⊢
 simp only [BF,T.ah,T.ak,T.dR]
 rw [show IntKind.i64.wrap (l-(a0.size:Int))=l-(a0.size:Int) from wrap_i64 (by omega) (by omega)]
 rw [aH (by omega)]
 rw [show IntKind.i64.wrap ((l-(a0.size:Int))-(a1.size:Int))=(l-(a0.size:Int))-(a1.size:Int) from wrap_i64 (by omega) (by omega)]
 rw [aH (by omega)]
 congr 2 <;> omega
theorem OX (m:Nat) (hm:1048602<=m) : ∀ (post pre:List (List T)) (l:Int),(∀ r∈post,aC qb r)->aj post<=1048576->(bB post:Int)<=l->l<=1048576->pre.length+post.length<=1048576 ->
  ∀ n,post.length<n->∀ k0 k1,jI m n (.l (pre++post)) (.i l) (.i pre.length) k0 k1=k1 (.i (l-bB post))
 | [],pre,l,h,hb,hl,hl2,hs,n,hn,k0,k1=>by
  obtain ⟨n,rfl⟩ : ∃ m',n=m'+1:=⟨n-1,by omega⟩
  simp only [jI,T.ak,T.ah]
  rw [aH (by simp)]
  simp [bB]
 | x::post,pre,l,h,hb,hl,hl2,hs,n,hn,k0,k1=>by
  obtain ⟨n,rfl⟩ : ∃ m',n=m'+1:=⟨n-1,by omega⟩
  simp only [List.length_cons] at hs hn
  simp only [bB] at hl ⊢
  have ih:=fun l hl hl2=>OX m hm post (pre++[x]) l (fun r hr=>h r (by simp [hr])) (by simp only [aj] at hb; omega) hl hl2 (by simp; omega) n (by omega) k0 k1
  have hx:=h x (by simp)
  simp only [qb,aC,zl] at hx
  obtain ⟨_,_,rfl,⟨a0,rfl,-⟩,_,_,rfl,⟨a1,rfl,-⟩,rfl⟩:=hx
  simp only [aj,aV,dX] at hb
  simp only [jI,T.ak,T.ah,iA,bA pre (by omega),List.getD_cons_zero,List.getD_cons_succ]
  rw [au (by simp; omega),au (by simp; omega)]
  rw [agO (by omega) a0 a1 l (by omega) hl2,T.ak,aH (by omega)]
  have:=ih (l-(eB [.s a0,.s a1]:Nat)) (by omega) (by omega)
  simp only [List.append_assoc,List.cons_append,List.nil_append,aG] at this
  refine this.trans ?_
  congr 2; omega
theorem aei {m:Nat} (hm:1048603<=m) (rows:List (List T)) (h : ∀ r∈rows,aC qb r) (hb:aj rows<=1048576) (l:Int) (hl:((rows.length+bB rows:Nat):Int)<=l) (hl2:l<=1048576) (k:T->An):yB m (.l rows) (.i l) k=k (.i (l-(rows.length+bB rows:Nat))):=by
 obtain ⟨m,rfl⟩ : ∃ m',m=m'+1:=⟨m-1,by omega⟩
 have hlen:=bC (by simp) h
 simp only [yB,T.ah,T.ak]
 rw [show IntKind.i64.wrap (l-(rows.length:Int))=l-(rows.length:Int) from wrap_i64 (by omega) (by omega),aH (by omega)]
 refine (OX m (by omega) rows [] (l-rows.length) h hb (by omega) (by omega) (by simp; omega) m (by omega) _ _).trans ?_
 congr 2; omega
theorem agP {m:Nat} (hm:1048602<=m) (a0:ByteArray) (a1:ByteArray)  (k:T->An):Cm m (.s a0) (.s a1) (.s a0) (.s a1) k=k (.b true):=by
 obtain ⟨m,rfl⟩ : ∃ m',m=m'+1:=⟨m-1,by omega⟩
 simp only [Cm,T.ah,T.ak,T.dR,T.aT,bne_self_eq_false,eX,beq_self_eq_true,Bool.not_true,cond_false]
theorem OY (m:Nat) (hm:1048602<=m) : ∀ (post pre:List (List T)),(∀ r∈post,aC qb r)->aj post<=1048576->pre.length+post.length<=1048576 ->
  ∀ n,post.length<n->∀ k0 k1,jX m n (.l (pre++post)) (.l (pre++post)) (.i pre.length) k0 k1=k1
 | [],pre,h,hb,hs,n,hn,k0,k1=>by
  obtain ⟨n,rfl⟩ : ∃ m',n=m'+1:=⟨n-1,by omega⟩
  simp only [jX,T.ak,T.ah]
  rw [aH (by simp)]
 | x::post,pre,h,hb,hs,n,hn,k0,k1=>by
  obtain ⟨n,rfl⟩ : ∃ m',n=m'+1:=⟨n-1,by omega⟩
  simp only [List.length_cons] at hs hn
  have ih:=OY m hm post (pre++[x]) (fun r hr=>h r (by simp [hr])) (by simp only [aj] at hb; omega) (by simp; omega) n (by omega) k0 k1
  have hx:=h x (by simp)
  simp only [qb,aC,zl] at hx
  obtain ⟨_,_,rfl,⟨a0,rfl,-⟩,_,_,rfl,⟨a1,rfl,-⟩,rfl⟩:=hx
  simp only [aj,aV,dX] at hb
  simp only [jX,T.ak,T.ah,iA,bA pre (by omega),List.getD_cons_zero,List.getD_cons_succ]
  rw [au (by simp; omega),au (by simp; omega),au (by simp; omega)]
  rw [agP (by omega) a0 a1]
  simpa using ih
theorem aej {m:Nat} (hm:1048603<=m) (rows:List (List T)) (h : ∀ r∈rows,aC qb r) (hb:aj rows<=1048576) (k:T->An):yV m (.l rows) (.l rows) k=k (.b true):=by
 obtain ⟨m,rfl⟩ : ∃ m',m=m'+1:=⟨m-1,by omega⟩
 have hlen:=bC (by simp) h
 simp only [yV,T.ah,T.ak,bne_self_eq_false,cond_false]
 exact OY m (by omega) rows [] h hb (by simp; omega) m (by omega) _ _
abbrev l5:List LT:=[.sc (.int .i64),.sl qR,.sc (.int .i64),.sl qb,.sl qR]
theorem aek {m:Nat} (hm:1048610<=m) (a0:Int) (a1:List (List T)) (a2:Int) (a3:List (List T)) (a4:List (List T)) (h1 : ∀ r∈a1,aC qR r) (b1:aj a1<=1048576) (h3 : ∀ r∈a3,aC qb r) (b3:aj a3<=1048576) (h4 : ∀ r∈a4,aC qR r) (b4:aj a4<=1048576) (k:T->T->T->T->T->An):yH m (.i a0) (.l a1) (.i a2) (.l a3) (.l a4) k=k (.i a0) (.l a1) (.i a2) (.l a3) (.l a4):=by
 obtain ⟨m,rfl⟩ : ∃ m',m=m'+1:=⟨m-1,by omega⟩
 simp only [yH,T.ah]
 rw [Y0 (by omega) a1 h1 b1]
 try simp only [T.ah]
 rw [aeh (by omega) a3 h3 b3]
 try simp only [T.ah]
 rw [Y0 (by omega) a4 h4 b4]
 try simp only [T.ah]
theorem LP (m:Nat) (hm:1048610<=m) : ∀ (post pre z:List (List T)),(∀ r∈post,aC l5 r)->aj post<=1048576->z.length=post.length->(∀ r∈z,r.length=5)->pre.length+post.length<=1048576 ->
  ∀ n,post.length<n->∀ k0,iO m n (.l (pre++post)) (.i pre.length) (.l (pre++z)) k0=k0 (.l (pre++post))
 | [],pre,z,h,hb,hz,hz2,hs,n,hn,k0=>by
  obtain ⟨n,rfl⟩ : ∃ m',n=m'+1:=⟨n-1,by omega⟩
  obtain rfl:z=[]:=List.eq_nil_of_length_eq_zero hz
  simp only [iO,T.ak,T.ah]
  rw [aH (by simp)]
 | x::post,pre,z,h,hb,hz,hz2,hs,n,hn,k0=>by
  obtain ⟨n,rfl⟩ : ∃ m',n=m'+1:=⟨n-1,by omega⟩
  simp only [List.length_cons] at hs hn hz
  match z,hz,hz2 with
  | r::z,hz,hz2 =>
  simp only [List.length_cons] at hz
  match r,hz2 r (by simp) with
  | [c0,c1,c2,c3,c4],_ =>
  have ih:=LP m hm post (pre++[x]) z (fun r hr=>h r (by simp [hr])) (by simp only [aj] at hb; omega) (by omega) (fun r hr=>hz2 r (by simp [hr])) (by simp; omega) n (by omega) k0
  have hx:=h x (by simp)
  simp only [l5,aC,zl] at hx
  obtain ⟨_,_,rfl,⟨a0,rfl,-⟩,_,_,rfl,⟨a1,rfl,h1⟩,_,_,rfl,⟨a2,rfl,-⟩,_,_,rfl,⟨a3,rfl,h3⟩,_,_,rfl,⟨a4,rfl,h4⟩,rfl⟩:=hx
  simp only [aj,aV,dX] at hb
  simp only [iO,T.ak,T.ah,iA,bA pre (by omega),vZ,List.getD_cons_zero,List.getD_cons_succ,List.set_cons_zero,List.set_cons_succ]
  rw [au (by simp; omega),au (by simp; omega)]
  rw [aek (by omega) a0 a1 a2 a3 a4 h1 (by omega) h3 (by omega) h4 (by omega),au (by simp; omega),au (by simp)]
  simpa using ih
theorem ac7 {m:Nat} (hm:1048611<=m) (rows:List (List T)) (h : ∀ r∈rows,aC l5 r) (hb:aj rows<=1048576) (k:T->An):vR m (.l rows) k=k (.l rows):=by
 obtain ⟨m,rfl⟩ : ∃ m',m=m'+1:=⟨m-1,by omega⟩
 have hl:=bC (by simp) h
 simp only [vR,T.ah,T.ak]
 rw [au (by omega),au (by unfold aK; omega)]
 exact LP m (by omega) rows [] (List.replicate _ _) h hb (by simp) (fun r hr=>by rw [List.eq_of_mem_replicate hr]; rfl) (by simp; omega) m (by omega) _
theorem ael {m:Nat} (hm:1048610<=m) (a0:Int) (a1:List (List T)) (a2:Int) (a3:List (List T)) (a4:List (List T)) (h1 : ∀ r∈a1,aC qR r) (b1:aj a1<=1048576) (h3 : ∀ r∈a3,aC qb r) (b3:aj a3<=1048576) (h4 : ∀ r∈a4,aC qR r) (b4:aj a4<=1048576) (l:Int) (hl:(eB [.i a0,.l a1,.i a2,.l a3,.l a4]:Int)<=l) (hl2:l<=1048576) (k:T->An):yC m (.i a0) (.l a1) (.i a2) (.l a3) (.l a4) (.i l) k=k (.i (l-(eB [.i a0,.l a1,.i a2,.l a3,.l a4]:Nat))):=by
 obtain ⟨m,rfl⟩ : ∃ m',m=m'+1:=⟨m-1,by omega⟩
 simp only [eB,tsz] at hl ⊢
 simp only [yC,T.ah,T.ak,T.dR]
 rw [Y1 (by omega) a1 h1 b1 l (by omega) (by omega),T.ak,aH (by omega)]
 rw [aei (by omega) a3 h3 b3 (l-((a1.length+bB a1:Nat):Int)) (by omega) (by omega),T.ak,aH (by omega)]
 rw [Y1 (by omega) a4 h4 b4 ((l-((a1.length+bB a1:Nat):Int))-((a3.length+bB a3:Nat):Int)) (by omega) (by omega),T.ak,aH (by omega)]
 congr 2 <;> omega
theorem LQ (m:Nat) (hm:1048610<=m) : ∀ (post pre:List (List T)) (l:Int),(∀ r∈post,aC l5 r)->aj post<=1048576->(bB post:Int)<=l->l<=1048576->pre.length+post.length<=1048576 ->
  ∀ n,post.length<n->∀ k0 k1,iM m n (.l (pre++post)) (.i l) (.i pre.length) k0 k1=k1 (.i (l-bB post))
 | [],pre,l,h,hb,hl,hl2,hs,n,hn,k0,k1=>by
  obtain ⟨n,rfl⟩ : ∃ m',n=m'+1:=⟨n-1,by omega⟩
  simp only [iM,T.ak,T.ah]
  rw [aH (by simp)]
  simp [bB]
 | x::post,pre,l,h,hb,hl,hl2,hs,n,hn,k0,k1=>by
  obtain ⟨n,rfl⟩ : ∃ m',n=m'+1:=⟨n-1,by omega⟩
  simp only [List.length_cons] at hs hn
  simp only [bB] at hl ⊢
  have ih:=fun l hl hl2=>LQ m hm post (pre++[x]) l (fun r hr=>h r (by simp [hr])) (by simp only [aj] at hb; omega) hl hl2 (by simp; omega) n (by omega) k0 k1
  have hx:=h x (by simp)
  simp only [l5,aC,zl] at hx
  obtain ⟨_,_,rfl,⟨a0,rfl,-⟩,_,_,rfl,⟨a1,rfl,h1⟩,_,_,rfl,⟨a2,rfl,-⟩,_,_,rfl,⟨a3,rfl,h3⟩,_,_,rfl,⟨a4,rfl,h4⟩,rfl⟩:=hx
  simp only [aj,aV,dX] at hb
  simp only [iM,T.ak,T.ah,iA,bA pre (by omega),List.getD_cons_zero,List.getD_cons_succ]
  rw [au (by simp; omega),au (by simp; omega)]
  rw [ael (by omega) a0 a1 a2 a3 a4 h1 (by omega) h3 (by omega) h4 (by omega) l (by omega) hl2,T.ak,aH (by omega)]
  have:=ih (l-(eB [.i a0,.l a1,.i a2,.l a3,.l a4]:Nat)) (by omega) (by omega)
  simp only [List.append_assoc,List.cons_append,List.nil_append,aG] at this
  refine this.trans ?_
  congr 2; omega
theorem ac8 {m:Nat} (hm:1048611<=m) (rows:List (List T)) (h : ∀ r∈rows,aC l5 r) (hb:aj rows<=1048576) (l:Int) (hl:((rows.length+bB rows:Nat):Int)<=l) (hl2:l<=1048576) (k:T->An):vO m (.l rows) (.i l) k=k (.i (l-(rows.length+bB rows:Nat))):=by
 obtain ⟨m,rfl⟩ : ∃ m',m=m'+1:=⟨m-1,by omega⟩
 have hlen:=bC (by simp) h
 simp only [vO,T.ah,T.ak]
 rw [show IntKind.i64.wrap (l-(rows.length:Int))=l-(rows.length:Int) from wrap_i64 (by omega) (by omega),aH (by omega)]
 refine (LQ m (by omega) rows [] (l-rows.length) h hb (by omega) (by omega) (by simp; omega) m (by omega) _ _).trans ?_
 congr 2; omega
theorem aem {m:Nat} (hm:1048610<=m) (a0:Int) (a1:List (List T)) (a2:Int) (a3:List (List T)) (a4:List (List T)) (h1 : ∀ r∈a1,aC qR r) (b1:aj a1<=1048576) (h3 : ∀ r∈a3,aC qb r) (b3:aj a3<=1048576) (h4 : ∀ r∈a4,aC qR r) (b4:aj a4<=1048576) (k:T->An):yX m (.i a0) (.l a1) (.i a2) (.l a3) (.l a4) (.i a0) (.l a1) (.i a2) (.l a3) (.l a4) k=k (.b true):=by
 obtain ⟨m,rfl⟩ : ∃ m',m=m'+1:=⟨m-1,by omega⟩
 simp only [yX,T.ah,T.ak,T.dR,T.aT,bne_self_eq_false,eX,beq_self_eq_true,Bool.not_true,cond_false,Y2 (m:=m) (by omega) a1 h1 b1,aej (m:=m) (by omega) a3 h3 b3,Y2 (m:=m) (by omega) a4 h4 b4]
theorem LU (m:Nat) (hm:1048610<=m) : ∀ (post pre:List (List T)),(∀ r∈post,aC l5 r)->aj post<=1048576->pre.length+post.length<=1048576 ->
  ∀ n,post.length<n->∀ k0 k1,jk m n (.l (pre++post)) (.l (pre++post)) (.i pre.length) k0 k1=k1
 | [],pre,h,hb,hs,n,hn,k0,k1=>by
  obtain ⟨n,rfl⟩ : ∃ m',n=m'+1:=⟨n-1,by omega⟩
  simp only [jk,T.ak,T.ah]
  rw [aH (by simp)]
 | x::post,pre,h,hb,hs,n,hn,k0,k1=>by
  obtain ⟨n,rfl⟩ : ∃ m',n=m'+1:=⟨n-1,by omega⟩
  simp only [List.length_cons] at hs hn
  have ih:=LU m hm post (pre++[x]) (fun r hr=>h r (by simp [hr])) (by simp only [aj] at hb; omega) (by simp; omega) n (by omega) k0 k1
  have hx:=h x (by simp)
  simp only [l5,aC,zl] at hx
  obtain ⟨_,_,rfl,⟨a0,rfl,-⟩,_,_,rfl,⟨a1,rfl,h1⟩,_,_,rfl,⟨a2,rfl,-⟩,_,_,rfl,⟨a3,rfl,h3⟩,_,_,rfl,⟨a4,rfl,h4⟩,rfl⟩:=hx
  simp only [aj,aV,dX] at hb
  simp only [jk,T.ak,T.ah,iA,bA pre (by omega),List.getD_cons_zero,List.getD_cons_succ]
  rw [au (by simp; omega),au (by simp; omega),au (by simp; omega)]
  rw [aem (by omega) a0 a1 a2 a3 a4 h1 (by omega) h3 (by omega) h4 (by omega)]
  simpa using ih
theorem ac9 {m:Nat} (hm:1048611<=m) (rows:List (List T)) (h : ∀ r∈rows,aC l5 r) (hb:aj rows<=1048576) (k:T->An):vX m (.l rows) (.l rows) k=k (.b true):=by
 obtain ⟨m,rfl⟩ : ∃ m',m=m'+1:=⟨m-1,by omega⟩
 have hlen:=bC (by simp) h
 simp only [vX,T.ah,T.ak,bne_self_eq_false,cond_false]
 exact LU m (by omega) rows [] h hb (by simp; omega) m (by omega) _ _
abbrev lW:List LT:=[.sc (.int .i64),.sc (.int .i64),.sc (.int .i64),.sl sO,.sc .bool]
theorem agQ {m:Nat} (hm:1048606<=m) (a0:Int) (a1:Int) (a2:Int) (a3:List (List T)) (a4:Bool) (h3 : ∀ r∈a3,aC sO r) (b3:aj a3<=1048576) (k:T->T->T->T->T->An):BK m (.i a0) (.i a1) (.i a2) (.l a3) (.b a4) k=k (.i a0) (.i a1) (.i a2) (.l a3) (.b a4):=by
 obtain ⟨m,rfl⟩ : ∃ m',m=m'+1:=⟨m-1,by omega⟩
 simp only [BK,T.ah]
 rw [OT (by omega) a3 h3 b3]
 try simp only [T.ah]
theorem OZ (m:Nat) (hm:1048606<=m) : ∀ (post pre z:List (List T)),(∀ r∈post,aC lW r)->aj post<=1048576->z.length=post.length->(∀ r∈z,r.length=5)->pre.length+post.length<=1048576 ->
  ∀ n,post.length<n->∀ k0,jL m n (.l (pre++post)) (.i pre.length) (.l (pre++z)) k0=k0 (.l (pre++post))
 | [],pre,z,h,hb,hz,hz2,hs,n,hn,k0=>by
  obtain ⟨n,rfl⟩ : ∃ m',n=m'+1:=⟨n-1,by omega⟩
  obtain rfl:z=[]:=List.eq_nil_of_length_eq_zero hz
  simp only [jL,T.ak,T.ah]
  rw [aH (by simp)]
 | x::post,pre,z,h,hb,hz,hz2,hs,n,hn,k0=>by
  obtain ⟨n,rfl⟩ : ∃ m',n=m'+1:=⟨n-1,by omega⟩
  simp only [List.length_cons] at hs hn hz
  match z,hz,hz2 with
  | r::z,hz,hz2 =>
  simp only [List.length_cons] at hz
  match r,hz2 r (by simp) with
  | [c0,c1,c2,c3,c4],_ =>
  have ih:=OZ m hm post (pre++[x]) z (fun r hr=>h r (by simp [hr])) (by simp only [aj] at hb; omega) (by omega) (fun r hr=>hz2 r (by simp [hr])) (by simp; omega) n (by omega) k0
  have hx:=h x (by simp)
  simp only [lW,aC,zl] at hx
  obtain ⟨_,_,rfl,⟨a0,rfl,-⟩,_,_,rfl,⟨a1,rfl,-⟩,_,_,rfl,⟨a2,rfl,-⟩,_,_,rfl,⟨a3,rfl,h3⟩,_,_,rfl,⟨a4,rfl⟩,rfl⟩:=hx
  simp only [aj,aV,dX] at hb
  simp only [jL,T.ak,T.ah,iA,bA pre (by omega),vZ,List.getD_cons_zero,List.getD_cons_succ,List.set_cons_zero,List.set_cons_succ]
  rw [au (by simp; omega),au (by simp; omega)]
  rw [agQ (by omega) a0 a1 a2 a3 a4 h3 (by omega),au (by simp; omega),au (by simp)]
  simpa using ih
theorem Wj {m:Nat} (hm:1048607<=m) (rows:List (List T)) (h : ∀ r∈rows,aC lW r) (hb:aj rows<=1048576) (k:T->An):tN m (.l rows) k=k (.l rows):=by
 obtain ⟨m,rfl⟩ : ∃ m',m=m'+1:=⟨m-1,by omega⟩
 have hl:=bC (by simp) h
 simp only [tN,T.ah,T.ak]
 rw [au (by omega),au (by unfold aK; omega)]
 exact OZ m (by omega) rows [] (List.replicate _ _) h hb (by simp) (fun r hr=>by rw [List.eq_of_mem_replicate hr]; rfl) (by simp; omega) m (by omega) _
theorem agR {m:Nat} (hm:1048606<=m) (a0:Int) (a1:Int) (a2:Int) (a3:List (List T)) (a4:Bool) (h3 : ∀ r∈a3,aC sO r) (b3:aj a3<=1048576) (l:Int) (hl:(eB [.i a0,.i a1,.i a2,.l a3,.b a4]:Int)<=l) (hl2:l<=1048576) (k:T->An):BG m (.i a0) (.i a1) (.i a2) (.l a3) (.b a4) (.i l) k=k (.i (l-(eB [.i a0,.i a1,.i a2,.l a3,.b a4]:Nat))):=by
 obtain ⟨m,rfl⟩ : ∃ m',m=m'+1:=⟨m-1,by omega⟩
 simp only [eB,tsz] at hl ⊢
 simp only [BG,T.ah,T.ak,T.dR]
 rw [OU (by omega) a3 h3 b3 l (by omega) (by omega),T.ak,aH (by omega)]
 congr 2 <;> omega
theorem O0 (m:Nat) (hm:1048606<=m) : ∀ (post pre:List (List T)) (l:Int),(∀ r∈post,aC lW r)->aj post<=1048576->(bB post:Int)<=l->l<=1048576->pre.length+post.length<=1048576 ->
  ∀ n,post.length<n->∀ k0 k1,jJ m n (.l (pre++post)) (.i l) (.i pre.length) k0 k1=k1 (.i (l-bB post))
 | [],pre,l,h,hb,hl,hl2,hs,n,hn,k0,k1=>by
  obtain ⟨n,rfl⟩ : ∃ m',n=m'+1:=⟨n-1,by omega⟩
  simp only [jJ,T.ak,T.ah]
  rw [aH (by simp)]
  simp [bB]
 | x::post,pre,l,h,hb,hl,hl2,hs,n,hn,k0,k1=>by
  obtain ⟨n,rfl⟩ : ∃ m',n=m'+1:=⟨n-1,by omega⟩
  simp only [List.length_cons] at hs hn
  simp only [bB] at hl ⊢
  have ih:=fun l hl hl2=>O0 m hm post (pre++[x]) l (fun r hr=>h r (by simp [hr])) (by simp only [aj] at hb; omega) hl hl2 (by simp; omega) n (by omega) k0 k1
  have hx:=h x (by simp)
  simp only [lW,aC,zl] at hx
  obtain ⟨_,_,rfl,⟨a0,rfl,-⟩,_,_,rfl,⟨a1,rfl,-⟩,_,_,rfl,⟨a2,rfl,-⟩,_,_,rfl,⟨a3,rfl,h3⟩,_,_,rfl,⟨a4,rfl⟩,rfl⟩:=hx
  simp only [aj,aV,dX] at hb
  simp only [jJ,T.ak,T.ah,iA,bA pre (by omega),List.getD_cons_zero,List.getD_cons_succ]
  rw [au (by simp; omega),au (by simp; omega)]
  rw [agR (by omega) a0 a1 a2 a3 a4 h3 (by omega) l (by omega) hl2,T.ak,aH (by omega)]
  have:=ih (l-(eB [.i a0,.i a1,.i a2,.l a3,.b a4]:Nat)) (by omega) (by omega)
  simp only [List.append_assoc,List.cons_append,List.nil_append,aG] at this
  refine this.trans ?_
  congr 2; omega
theorem Wl {m:Nat} (hm:1048607<=m) (rows:List (List T)) (h : ∀ r∈rows,aC lW r) (hb:aj rows<=1048576) (l:Int) (hl:((rows.length+bB rows:Nat):Int)<=l) (hl2:l<=1048576) (k:T->An):tK m (.l rows) (.i l) k=k (.i (l-(rows.length+bB rows:Nat))):=by
 obtain ⟨m,rfl⟩ : ∃ m',m=m'+1:=⟨m-1,by omega⟩
 have hlen:=bC (by simp) h
 simp only [tK,T.ah,T.ak]
 rw [show IntKind.i64.wrap (l-(rows.length:Int))=l-(rows.length:Int) from wrap_i64 (by omega) (by omega),aH (by omega)]
 refine (O0 m (by omega) rows [] (l-rows.length) h hb (by omega) (by omega) (by simp; omega) m (by omega) _ _).trans ?_
 congr 2; omega
theorem agS {m:Nat} (hm:1048606<=m) (a0:Int) (a1:Int) (a2:Int) (a3:List (List T)) (a4:Bool) (h3 : ∀ r∈a3,aC sO r) (b3:aj a3<=1048576) (k:T->An):Cn m (.i a0) (.i a1) (.i a2) (.l a3) (.b a4) (.i a0) (.i a1) (.i a2) (.l a3) (.b a4) k=k (.b true):=by
 obtain ⟨m,rfl⟩ : ∃ m',m=m'+1:=⟨m-1,by omega⟩
 simp only [Cn,T.ah,T.ak,T.dR,T.aT,bne_self_eq_false,eX,beq_self_eq_true,Bool.not_true,cond_false,OV (m:=m) (by omega) a3 h3 b3]
theorem O1 (m:Nat) (hm:1048606<=m) : ∀ (post pre:List (List T)),(∀ r∈post,aC lW r)->aj post<=1048576->pre.length+post.length<=1048576 ->
  ∀ n,post.length<n->∀ k0 k1,jY m n (.l (pre++post)) (.l (pre++post)) (.i pre.length) k0 k1=k1
 | [],pre,h,hb,hs,n,hn,k0,k1=>by
  obtain ⟨n,rfl⟩ : ∃ m',n=m'+1:=⟨n-1,by omega⟩
  simp only [jY,T.ak,T.ah]
  rw [aH (by simp)]
 | x::post,pre,h,hb,hs,n,hn,k0,k1=>by
  obtain ⟨n,rfl⟩ : ∃ m',n=m'+1:=⟨n-1,by omega⟩
  simp only [List.length_cons] at hs hn
  have ih:=O1 m hm post (pre++[x]) (fun r hr=>h r (by simp [hr])) (by simp only [aj] at hb; omega) (by simp; omega) n (by omega) k0 k1
  have hx:=h x (by simp)
  simp only [lW,aC,zl] at hx
  obtain ⟨_,_,rfl,⟨a0,rfl,-⟩,_,_,rfl,⟨a1,rfl,-⟩,_,_,rfl,⟨a2,rfl,-⟩,_,_,rfl,⟨a3,rfl,h3⟩,_,_,rfl,⟨a4,rfl⟩,rfl⟩:=hx
  simp only [aj,aV,dX] at hb
  simp only [jY,T.ak,T.ah,iA,bA pre (by omega),List.getD_cons_zero,List.getD_cons_succ]
  rw [au (by simp; omega),au (by simp; omega),au (by simp; omega)]
  rw [agS (by omega) a0 a1 a2 a3 a4 h3 (by omega)]
  simpa using ih
theorem Wm {m:Nat} (hm:1048607<=m) (rows:List (List T)) (h : ∀ r∈rows,aC lW r) (hb:aj rows<=1048576) (k:T->An):uw m (.l rows) (.l rows) k=k (.b true):=by
 obtain ⟨m,rfl⟩ : ∃ m',m=m'+1:=⟨m-1,by omega⟩
 have hlen:=bC (by simp) h
 simp only [uw,T.ah,T.ak,bne_self_eq_false,cond_false]
 exact O1 m (by omega) rows [] h hb (by simp; omega) m (by omega) _ _
abbrev qH:List LT:=[.sc (.int .i64),.sl sO,.sc (.int .i64),.sl wV]
theorem ai6 {m:Nat} (hm:1048606<=m) (a0:Int) (a1:List (List T)) (a2:Int) (a3:List (List T)) (h1 : ∀ r∈a1,aC sO r) (b1:aj a1<=1048576) (h3 : ∀ r∈a3,aC wV r) (b3:aj a3<=1048576) (k:T->T->T->T->An):FJ m (.i a0) (.l a1) (.i a2) (.l a3) k=k (.i a0) (.l a1) (.i a2) (.l a3):=by
 obtain ⟨m,rfl⟩ : ∃ m',m=m'+1:=⟨m-1,by omega⟩
 simp only [FJ,T.ah]
 rw [OT (by omega) a1 h1 b1]
 try simp only [T.ah]
 rw [agK (by omega) a3 h3 b3]
 try simp only [T.ah]
theorem Rf (m:Nat) (hm:1048606<=m) : ∀ (post pre z:List (List T)),(∀ r∈post,aC qH r)->aj post<=1048576->z.length=post.length->(∀ r∈z,r.length=4)->pre.length+post.length<=1048576 ->
  ∀ n,post.length<n->∀ k0,kT m n (.l (pre++post)) (.i pre.length) (.l (pre++z)) k0=k0 (.l (pre++post))
 | [],pre,z,h,hb,hz,hz2,hs,n,hn,k0=>by
  obtain ⟨n,rfl⟩ : ∃ m',n=m'+1:=⟨n-1,by omega⟩
  obtain rfl:z=[]:=List.eq_nil_of_length_eq_zero hz
  simp only [kT,T.ak,T.ah]
  rw [aH (by simp)]
 | x::post,pre,z,h,hb,hz,hz2,hs,n,hn,k0=>by
  obtain ⟨n,rfl⟩ : ∃ m',n=m'+1:=⟨n-1,by omega⟩
  simp only [List.length_cons] at hs hn hz
  match z,hz,hz2 with
  | r::z,hz,hz2 =>
  simp only [List.length_cons] at hz
  match r,hz2 r (by simp) with
  | [c0,c1,c2,c3],_ =>
  have ih:=Rf m hm post (pre++[x]) z (fun r hr=>h r (by simp [hr])) (by simp only [aj] at hb; omega) (by omega) (fun r hr=>hz2 r (by simp [hr])) (by simp; omega) n (by omega) k0
  have hx:=h x (by simp)
  simp only [qH,aC,zl] at hx
  obtain ⟨_,_,rfl,⟨a0,rfl,-⟩,_,_,rfl,⟨a1,rfl,h1⟩,_,_,rfl,⟨a2,rfl,-⟩,_,_,rfl,⟨a3,rfl,h3⟩,rfl⟩:=hx
  simp only [aj,aV,dX] at hb
  simp only [kT,T.ak,T.ah,iA,bA pre (by omega),vZ,List.getD_cons_zero,List.getD_cons_succ,List.set_cons_zero,List.set_cons_succ]
  rw [au (by simp; omega),au (by simp; omega)]
  rw [ai6 (by omega) a0 a1 a2 a3 h1 (by omega) h3 (by omega),au (by simp; omega),au (by simp)]
  simpa using ih
theorem agT {m:Nat} (hm:1048607<=m) (rows:List (List T)) (h : ∀ r∈rows,aC qH r) (hb:aj rows<=1048576) (k:T->An):BI m (.l rows) k=k (.l rows):=by
 obtain ⟨m,rfl⟩ : ∃ m',m=m'+1:=⟨m-1,by omega⟩
 have hl:=bC (by simp) h
 simp only [BI,T.ah,T.ak]
 rw [au (by omega),au (by unfold aK; omega)]
 exact Rf m (by omega) rows [] (List.replicate _ _) h hb (by simp) (fun r hr=>by rw [List.eq_of_mem_replicate hr]; rfl) (by simp; omega) m (by omega) _
theorem ai7 {m:Nat} (hm:1048606<=m) (a0:Int) (a1:List (List T)) (a2:Int) (a3:List (List T)) (h1 : ∀ r∈a1,aC sO r) (b1:aj a1<=1048576) (h3 : ∀ r∈a3,aC wV r) (b3:aj a3<=1048576) (l:Int) (hl:(eB [.i a0,.l a1,.i a2,.l a3]:Int)<=l) (hl2:l<=1048576) (k:T->An):FC m (.i a0) (.l a1) (.i a2) (.l a3) (.i l) k=k (.i (l-(eB [.i a0,.l a1,.i a2,.l a3]:Nat))):=by
 obtain ⟨m,rfl⟩ : ∃ m',m=m'+1:=⟨m-1,by omega⟩
 simp only [eB,tsz] at hl ⊢
 simp only [FC,T.ah,T.ak,T.dR]
 rw [OU (by omega) a1 h1 b1 l (by omega) (by omega),T.ak,aH (by omega)]
 rw [agL (by omega) a3 h3 b3 (l-((a1.length+bB a1:Nat):Int)) (by omega) (by omega),T.ak,aH (by omega)]
 congr 2 <;> omega
theorem Rh (m:Nat) (hm:1048606<=m) : ∀ (post pre:List (List T)) (l:Int),(∀ r∈post,aC qH r)->aj post<=1048576->(bB post:Int)<=l->l<=1048576->pre.length+post.length<=1048576 ->
  ∀ n,post.length<n->∀ k0 k1,kQ m n (.l (pre++post)) (.i l) (.i pre.length) k0 k1=k1 (.i (l-bB post))
 | [],pre,l,h,hb,hl,hl2,hs,n,hn,k0,k1=>by
  obtain ⟨n,rfl⟩ : ∃ m',n=m'+1:=⟨n-1,by omega⟩
  simp only [kQ,T.ak,T.ah]
  rw [aH (by simp)]
  simp [bB]
 | x::post,pre,l,h,hb,hl,hl2,hs,n,hn,k0,k1=>by
  obtain ⟨n,rfl⟩ : ∃ m',n=m'+1:=⟨n-1,by omega⟩
  simp only [List.length_cons] at hs hn
  simp only [bB] at hl ⊢
  have ih:=fun l hl hl2=>Rh m hm post (pre++[x]) l (fun r hr=>h r (by simp [hr])) (by simp only [aj] at hb; omega) hl hl2 (by simp; omega) n (by omega) k0 k1
  have hx:=h x (by simp)
  simp only [qH,aC,zl] at hx
  obtain ⟨_,_,rfl,⟨a0,rfl,-⟩,_,_,rfl,⟨a1,rfl,h1⟩,_,_,rfl,⟨a2,rfl,-⟩,_,_,rfl,⟨a3,rfl,h3⟩,rfl⟩:=hx
  simp only [aj,aV,dX] at hb
  simp only [kQ,T.ak,T.ah,iA,bA pre (by omega),List.getD_cons_zero,List.getD_cons_succ]
  rw [au (by simp; omega),au (by simp; omega)]
  rw [ai7 (by omega) a0 a1 a2 a3 h1 (by omega) h3 (by omega) l (by omega) hl2,T.ak,aH (by omega)]
  have:=ih (l-(eB [.i a0,.l a1,.i a2,.l a3]:Nat)) (by omega) (by omega)
  simp only [List.append_assoc,List.cons_append,List.nil_append,aG] at this
  refine this.trans ?_
  congr 2; omega
theorem agU {m:Nat} (hm:1048607<=m) (rows:List (List T)) (h : ∀ r∈rows,aC qH r) (hb:aj rows<=1048576) (l:Int) (hl:((rows.length+bB rows:Nat):Int)<=l) (hl2:l<=1048576) (k:T->An):BD m (.l rows) (.i l) k=k (.i (l-(rows.length+bB rows:Nat))):=by
 obtain ⟨m,rfl⟩ : ∃ m',m=m'+1:=⟨m-1,by omega⟩
 have hlen:=bC (by simp) h
 simp only [BD,T.ah,T.ak]
 rw [show IntKind.i64.wrap (l-(rows.length:Int))=l-(rows.length:Int) from wrap_i64 (by omega) (by omega),aH (by omega)]
 refine (Rh m (by omega) rows [] (l-rows.length) h hb (by omega) (by omega) (by simp; omega) m (by omega) _ _).trans ?_
 congr 2; omega
theorem ai8 {m:Nat} (hm:1048606<=m) (a0:Int) (a1:List (List T)) (a2:Int) (a3:List (List T)) (h1 : ∀ r∈a1,aC sO r) (b1:aj a1<=1048576) (h3 : ∀ r∈a3,aC wV r) (b3:aj a3<=1048576) (k:T->An):Gn m (.i a0) (.l a1) (.i a2) (.l a3) (.i a0) (.l a1) (.i a2) (.l a3) k=k (.b true):=by
 obtain ⟨m,rfl⟩ : ∃ m',m=m'+1:=⟨m-1,by omega⟩
 simp only [Gn,T.ah,T.ak,T.dR,T.aT,bne_self_eq_false,eX,beq_self_eq_true,Bool.not_true,cond_false,OV (m:=m) (by omega) a1 h1 b1,agM (m:=m) (by omega) a3 h3 b3]
theorem Ri (m:Nat) (hm:1048606<=m) : ∀ (post pre:List (List T)),(∀ r∈post,aC qH r)->aj post<=1048576->pre.length+post.length<=1048576 ->
  ∀ n,post.length<n->∀ k0 k1,lG m n (.l (pre++post)) (.l (pre++post)) (.i pre.length) k0 k1=k1
 | [],pre,h,hb,hs,n,hn,k0,k1=>by
  obtain ⟨n,rfl⟩ : ∃ m',n=m'+1:=⟨n-1,by omega⟩
  simp only [lG,T.ak,T.ah]
  rw [aH (by simp)]
 | x::post,pre,h,hb,hs,n,hn,k0,k1=>by
  obtain ⟨n,rfl⟩ : ∃ m',n=m'+1:=⟨n-1,by omega⟩
  simp only [List.length_cons] at hs hn
  have ih:=Ri m hm post (pre++[x]) (fun r hr=>h r (by simp [hr])) (by simp only [aj] at hb; omega) (by simp; omega) n (by omega) k0 k1
  have hx:=h x (by simp)
  simp only [qH,aC,zl] at hx
  obtain ⟨_,_,rfl,⟨a0,rfl,-⟩,_,_,rfl,⟨a1,rfl,h1⟩,_,_,rfl,⟨a2,rfl,-⟩,_,_,rfl,⟨a3,rfl,h3⟩,rfl⟩:=hx
  simp only [aj,aV,dX] at hb
  simp only [lG,T.ak,T.ah,iA,bA pre (by omega),List.getD_cons_zero,List.getD_cons_succ]
  rw [au (by simp; omega),au (by simp; omega),au (by simp; omega)]
  rw [ai8 (by omega) a0 a1 a2 a3 h1 (by omega) h3 (by omega)]
  simpa using ih
theorem agV {m:Nat} (hm:1048607<=m) (rows:List (List T)) (h : ∀ r∈rows,aC qH r) (hb:aj rows<=1048576) (k:T->An):Ck m (.l rows) (.l rows) k=k (.b true):=by
 obtain ⟨m,rfl⟩ : ∃ m',m=m'+1:=⟨m-1,by omega⟩
 have hlen:=bC (by simp) h
 simp only [Ck,T.ah,T.ak,bne_self_eq_false,cond_false]
 exact Ri m (by omega) rows [] h hb (by simp; omega) m (by omega) _ _
abbrev fC:List LT:=[.sc (.int .i64),.sc .bool]
theorem ada {m:Nat} (hm:1048602<=m) (a0:Int) (a1:Bool)  (k:T->T->An):vQ m (.i a0) (.b a1) k=k (.i a0) (.b a1):=by
 obtain ⟨m,rfl⟩ : ∃ m',m=m'+1:=⟨m-1,by omega⟩
 simp only [vQ,T.ah]
theorem JY (m:Nat) (hm:1048602<=m) : ∀ (post pre z:List (List T)),(∀ r∈post,aC fC r)->aj post<=1048576->z.length=post.length->(∀ r∈z,r.length=2)->pre.length+post.length<=1048576 ->
  ∀ n,post.length<n->∀ k0,gM m n (.l (pre++post)) (.i pre.length) (.l (pre++z)) k0=k0 (.l (pre++post))
 | [],pre,z,h,hb,hz,hz2,hs,n,hn,k0=>by
  obtain ⟨n,rfl⟩ : ∃ m',n=m'+1:=⟨n-1,by omega⟩
  obtain rfl:z=[]:=List.eq_nil_of_length_eq_zero hz
  simp only [gM,T.ak,T.ah]
  rw [aH (by simp)]
 | x::post,pre,z,h,hb,hz,hz2,hs,n,hn,k0=>by
  obtain ⟨n,rfl⟩ : ∃ m',n=m'+1:=⟨n-1,by omega⟩
  simp only [List.length_cons] at hs hn hz
  match z,hz,hz2 with
  | r::z,hz,hz2 =>
  simp only [List.length_cons] at hz
  match r,hz2 r (by simp) with
  | [c0,c1],_ =>
  have ih:=JY m hm post (pre++[x]) z (fun r hr=>h r (by simp [hr])) (by simp only [aj] at hb; omega) (by omega) (fun r hr=>hz2 r (by simp [hr])) (by simp; omega) n (by omega) k0
  have hx:=h x (by simp)
  simp only [fC,aC,zl] at hx
  obtain ⟨_,_,rfl,⟨a0,rfl,-⟩,_,_,rfl,⟨a1,rfl⟩,rfl⟩:=hx
  simp only [aj,aV,dX] at hb
  simp only [gM,T.ak,T.ah,iA,bA pre (by omega),vZ,List.getD_cons_zero,List.getD_cons_succ,List.set_cons_zero,List.set_cons_succ]
  rw [au (by simp; omega),au (by simp; omega)]
  rw [ada (by omega) a0 a1,au (by simp; omega),au (by simp)]
  simpa using ih
theorem aaV {m:Nat} (hm:1048603<=m) (rows:List (List T)) (h : ∀ r∈rows,aC fC r) (hb:aj rows<=1048576) (k:T->An):tL m (.l rows) k=k (.l rows):=by
 obtain ⟨m,rfl⟩ : ∃ m',m=m'+1:=⟨m-1,by omega⟩
 have hl:=bC (by simp) h
 simp only [tL,T.ah,T.ak]
 rw [au (by omega),au (by unfold aK; omega)]
 exact JY m (by omega) rows [] (List.replicate _ _) h hb (by simp) (fun r hr=>by rw [List.eq_of_mem_replicate hr]; rfl) (by simp; omega) m (by omega) _
theorem LV : ∀ {rows:List (List T)},(∀ r∈rows,aC fC r)->bB rows=0
 | [],_=>rfl
 | x::rows,h=>by
  have ih:=LV (rows:=rows) fun r hr=>h r (by simp [hr])
  have hx:=h x (by simp)
  simp only [fC,aC,zl] at hx
  obtain ⟨_,_,rfl,⟨a0,rfl,-⟩,_,_,rfl,⟨a1,rfl⟩,rfl⟩:=hx
  simp only [bB,eB,tsz,ih]
theorem aaW {m:Nat} (hm:1048603<=m) (rows:List (List T)) (h : ∀ r∈rows,aC fC r) (hb:aj rows<=1048576) (l:Int) (hl:((rows.length+bB rows:Nat):Int)<=l) (hl2:l<=1048576) (k:T->An):tH m (.l rows) (.i l) k=k (.i (l-(rows.length+bB rows:Nat))):=by
 obtain ⟨m,rfl⟩ : ∃ m',m=m'+1:=⟨m-1,by omega⟩
 have e:=LV h
 rw [e] at hl ⊢
 have hlen:=bC (by simp) h
 simp only [tH,T.ah,T.ak]
 rw [show IntKind.i64.wrap (l-(rows.length:Int))=l-(rows.length:Int) from wrap_i64 (by omega) (by omega),aH (by omega)]
 congr 2
theorem adb {m:Nat} (hm:1048602<=m) (a0:Int) (a1:Bool)  (k:T->An):vW m (.i a0) (.b a1) (.i a0) (.b a1) k=k (.b true):=by
 obtain ⟨m,rfl⟩ : ∃ m',m=m'+1:=⟨m-1,by omega⟩
 simp only [vW,T.ah,T.ak,T.dR,T.aT,bne_self_eq_false,eX,beq_self_eq_true,Bool.not_true,cond_false]
theorem JZ (m:Nat) (hm:1048602<=m) : ∀ (post pre:List (List T)),(∀ r∈post,aC fC r)->aj post<=1048576->pre.length+post.length<=1048576 ->
  ∀ n,post.length<n->∀ k0 k1,gY m n (.l (pre++post)) (.l (pre++post)) (.i pre.length) k0 k1=k1
 | [],pre,h,hb,hs,n,hn,k0,k1=>by
  obtain ⟨n,rfl⟩ : ∃ m',n=m'+1:=⟨n-1,by omega⟩
  simp only [gY,T.ak,T.ah]
  rw [aH (by simp)]
 | x::post,pre,h,hb,hs,n,hn,k0,k1=>by
  obtain ⟨n,rfl⟩ : ∃ m',n=m'+1:=⟨n-1,by omega⟩
  simp only [List.length_cons] at hs hn
  have ih:=JZ m hm post (pre++[x]) (fun r hr=>h r (by simp [hr])) (by simp only [aj] at hb; omega) (by simp; omega) n (by omega) k0 k1
  have hx:=h x (by simp)
  simp only [fC,aC,zl] at hx
  obtain ⟨_,_,rfl,⟨a0,rfl,-⟩,_,_,rfl,⟨a1,rfl⟩,rfl⟩:=hx
  simp only [aj,aV,dX] at hb
  simp only [gY,T.ak,T.ah,iA,bA pre (by omega),List.getD_cons_zero,List.getD_cons_succ]
  rw [au (by simp; omega),au (by simp; omega),au (by simp; omega)]
  rw [adb (by omega) a0 a1]
  simpa using ih
theorem aaX {m:Nat} (hm:1048603<=m) (rows:List (List T)) (h : ∀ r∈rows,aC fC r) (hb:aj rows<=1048576) (k:T->An):uq m (.l rows) (.l rows) k=k (.b true):=by
 obtain ⟨m,rfl⟩ : ∃ m',m=m'+1:=⟨m-1,by omega⟩
 have hlen:=bC (by simp) h
 simp only [uq,T.ah,T.ak,bne_self_eq_false,cond_false]
 exact JZ m (by omega) rows [] h hb (by simp; omega) m (by omega) _ _
abbrev aoA:List LT:=[.sc (.int .i64),.sc (.int .i64),.sc (.int .i64),.sl qH,.sl fC,.sc (.int .i64)]
theorem aen {m:Nat} (hm:1048610<=m) (a0:Int) (a1:Int) (a2:Int) (a3:List (List T)) (a4:List (List T)) (a5:Int) (h3 : ∀ r∈a3,aC qH r) (b3:aj a3<=1048576) (h4 : ∀ r∈a4,aC fC r) (b4:aj a4<=1048576) (k:T->T->T->T->T->T->An):yF m (.i a0) (.i a1) (.i a2) (.l a3) (.l a4) (.i a5) k=k (.i a0) (.i a1) (.i a2) (.l a3) (.l a4) (.i a5):=by
 obtain ⟨m,rfl⟩ : ∃ m',m=m'+1:=⟨m-1,by omega⟩
 simp only [yF,T.ah]
 rw [agT (by omega) a3 h3 b3]
 try simp only [T.ah]
 rw [aaV (by omega) a4 h4 b4]
 try simp only [T.ah]
theorem aeo {m:Nat} (hm:1048610<=m) (a0:Int) (a1:Int) (a2:Int) (a3:List (List T)) (a4:List (List T)) (a5:Int) (h3 : ∀ r∈a3,aC qH r) (b3:aj a3<=1048576) (h4 : ∀ r∈a4,aC fC r) (b4:aj a4<=1048576) (l:Int) (hl:(eB [.i a0,.i a1,.i a2,.l a3,.l a4,.i a5]:Int)<=l) (hl2:l<=1048576) (k:T->An):yA m (.i a0) (.i a1) (.i a2) (.l a3) (.l a4) (.i a5) (.i l) k=k (.i (l-(eB [.i a0,.i a1,.i a2,.l a3,.l a4,.i a5]:Nat))):=by
 obtain ⟨m,rfl⟩ : ∃ m',m=m'+1:=⟨m-1,by omega⟩
 simp only [eB,tsz] at hl ⊢
 simp only [yA,T.ah,T.ak,T.dR]
 rw [agU (by omega) a3 h3 b3 l (by omega) (by omega),T.ak,aH (by omega)]
 rw [aaW (by omega) a4 h4 b4 (l-((a3.length+bB a3:Nat):Int)) (by omega) (by omega),T.ak,aH (by omega)]
 congr 2 <;> omega
theorem aep {m:Nat} (hm:1048610<=m) (a0:Int) (a1:Int) (a2:Int) (a3:List (List T)) (a4:List (List T)) (a5:Int) (h3 : ∀ r∈a3,aC qH r) (b3:aj a3<=1048576) (h4 : ∀ r∈a4,aC fC r) (b4:aj a4<=1048576) (k:T->An):yU m (.i a0) (.i a1) (.i a2) (.l a3) (.l a4) (.i a5) (.i a0) (.i a1) (.i a2) (.l a3) (.l a4) (.i a5) k=k (.b true):=by
 obtain ⟨m,rfl⟩ : ∃ m',m=m'+1:=⟨m-1,by omega⟩
 simp only [yU,T.ah,T.ak,T.dR,T.aT,bne_self_eq_false,eX,beq_self_eq_true,Bool.not_true,cond_false,agV (m:=m) (by omega) a3 h3 b3,aaX (m:=m) (by omega) a4 h4 b4]
abbrev mg:List LT:=[.sc (.int .i64),.sl sO]
theorem aer {m:Nat} (hm:1048606<=m) (a0:Int) (a1:List (List T)) (h1 : ∀ r∈a1,aC sO r) (b1:aj a1<=1048576) (k:T->T->An):yI m (.i a0) (.l a1) k=k (.i a0) (.l a1):=by
 obtain ⟨m,rfl⟩ : ∃ m',m=m'+1:=⟨m-1,by omega⟩
 simp only [yI,T.ah]
 rw [OT (by omega) a1 h1 b1]
 try simp only [T.ah]
theorem LW (m:Nat) (hm:1048606<=m) : ∀ (post pre z:List (List T)),(∀ r∈post,aC mg r)->aj post<=1048576->z.length=post.length->(∀ r∈z,r.length=2)->pre.length+post.length<=1048576 ->
  ∀ n,post.length<n->∀ k0,iP m n (.l (pre++post)) (.i pre.length) (.l (pre++z)) k0=k0 (.l (pre++post))
 | [],pre,z,h,hb,hz,hz2,hs,n,hn,k0=>by
  obtain ⟨n,rfl⟩ : ∃ m',n=m'+1:=⟨n-1,by omega⟩
  obtain rfl:z=[]:=List.eq_nil_of_length_eq_zero hz
  simp only [iP,T.ak,T.ah]
  rw [aH (by simp)]
 | x::post,pre,z,h,hb,hz,hz2,hs,n,hn,k0=>by
  obtain ⟨n,rfl⟩ : ∃ m',n=m'+1:=⟨n-1,by omega⟩
  simp only [List.length_cons] at hs hn hz
  match z,hz,hz2 with
  | r::z,hz,hz2 =>
  simp only [List.length_cons] at hz
  match r,hz2 r (by simp) with
  | [c0,c1],_ =>
  have ih:=LW m hm post (pre++[x]) z (fun r hr=>h r (by simp [hr])) (by simp only [aj] at hb; omega) (by omega) (fun r hr=>hz2 r (by simp [hr])) (by simp; omega) n (by omega) k0
  have hx:=h x (by simp)
  simp only [mg,aC,zl] at hx
  obtain ⟨_,_,rfl,⟨a0,rfl,-⟩,_,_,rfl,⟨a1,rfl,h1⟩,rfl⟩:=hx
  simp only [aj,aV,dX] at hb
  simp only [iP,T.ak,T.ah,iA,bA pre (by omega),vZ,List.getD_cons_zero,List.getD_cons_succ,List.set_cons_zero,List.set_cons_succ]
  rw [au (by simp; omega),au (by simp; omega)]
  rw [aer (by omega) a0 a1 h1 (by omega),au (by simp; omega),au (by simp)]
  simpa using ih
theorem ade {m:Nat} (hm:1048607<=m) (rows:List (List T)) (h : ∀ r∈rows,aC mg r) (hb:aj rows<=1048576) (k:T->An):vS m (.l rows) k=k (.l rows):=by
 obtain ⟨m,rfl⟩ : ∃ m',m=m'+1:=⟨m-1,by omega⟩
 have hl:=bC (by simp) h
 simp only [vS,T.ah,T.ak]
 rw [au (by omega),au (by unfold aK; omega)]
 exact LW m (by omega) rows [] (List.replicate _ _) h hb (by simp) (fun r hr=>by rw [List.eq_of_mem_replicate hr]; rfl) (by simp; omega) m (by omega) _
theorem aes {m:Nat} (hm:1048606<=m) (a0:Int) (a1:List (List T)) (h1 : ∀ r∈a1,aC sO r) (b1:aj a1<=1048576) (l:Int) (hl:(eB [.i a0,.l a1]:Int)<=l) (hl2:l<=1048576) (k:T->An):yD m (.i a0) (.l a1) (.i l) k=k (.i (l-(eB [.i a0,.l a1]:Nat))):=by
 obtain ⟨m,rfl⟩ : ∃ m',m=m'+1:=⟨m-1,by omega⟩
 simp only [eB,tsz] at hl ⊢
 simp only [yD,T.ah,T.ak,T.dR]
 rw [OU (by omega) a1 h1 b1 l (by omega) (by omega),T.ak,aH (by omega)]
 congr 2 <;> omega
theorem LX (m:Nat) (hm:1048606<=m) : ∀ (post pre:List (List T)) (l:Int),(∀ r∈post,aC mg r)->aj post<=1048576->(bB post:Int)<=l->l<=1048576->pre.length+post.length<=1048576 ->
  ∀ n,post.length<n->∀ k0 k1,iN m n (.l (pre++post)) (.i l) (.i pre.length) k0 k1=k1 (.i (l-bB post))
 | [],pre,l,h,hb,hl,hl2,hs,n,hn,k0,k1=>by
  obtain ⟨n,rfl⟩ : ∃ m',n=m'+1:=⟨n-1,by omega⟩
  simp only [iN,T.ak,T.ah]
  rw [aH (by simp)]
  simp [bB]
 | x::post,pre,l,h,hb,hl,hl2,hs,n,hn,k0,k1=>by
  obtain ⟨n,rfl⟩ : ∃ m',n=m'+1:=⟨n-1,by omega⟩
  simp only [List.length_cons] at hs hn
  simp only [bB] at hl ⊢
  have ih:=fun l hl hl2=>LX m hm post (pre++[x]) l (fun r hr=>h r (by simp [hr])) (by simp only [aj] at hb; omega) hl hl2 (by simp; omega) n (by omega) k0 k1
  have hx:=h x (by simp)
  simp only [mg,aC,zl] at hx
  obtain ⟨_,_,rfl,⟨a0,rfl,-⟩,_,_,rfl,⟨a1,rfl,h1⟩,rfl⟩:=hx
  simp only [aj,aV,dX] at hb
  simp only [iN,T.ak,T.ah,iA,bA pre (by omega),List.getD_cons_zero,List.getD_cons_succ]
  rw [au (by simp; omega),au (by simp; omega)]
  rw [aes (by omega) a0 a1 h1 (by omega) l (by omega) hl2,T.ak,aH (by omega)]
  have:=ih (l-(eB [.i a0,.l a1]:Nat)) (by omega) (by omega)
  simp only [List.append_assoc,List.cons_append,List.nil_append,aG] at this
  refine this.trans ?_
  congr 2; omega
theorem adf {m:Nat} (hm:1048607<=m) (rows:List (List T)) (h : ∀ r∈rows,aC mg r) (hb:aj rows<=1048576) (l:Int) (hl:((rows.length+bB rows:Nat):Int)<=l) (hl2:l<=1048576) (k:T->An):vP m (.l rows) (.i l) k=k (.i (l-(rows.length+bB rows:Nat))):=by
 obtain ⟨m,rfl⟩ : ∃ m',m=m'+1:=⟨m-1,by omega⟩
 have hlen:=bC (by simp) h
 simp only [vP,T.ah,T.ak]
 rw [show IntKind.i64.wrap (l-(rows.length:Int))=l-(rows.length:Int) from wrap_i64 (by omega) (by omega),aH (by omega)]
 refine (LX m (by omega) rows [] (l-rows.length) h hb (by omega) (by omega) (by simp; omega) m (by omega) _ _).trans ?_
 congr 2; omega
theorem aeu {m:Nat} (hm:1048606<=m) (a0:Int) (a1:List (List T)) (h1 : ∀ r∈a1,aC sO r) (b1:aj a1<=1048576) (k:T->An):yY m (.i a0) (.l a1) (.i a0) (.l a1) k=k (.b true):=by
 obtain ⟨m,rfl⟩ : ∃ m',m=m'+1:=⟨m-1,by omega⟩
 simp only [yY,T.ah,T.ak,T.dR,T.aT,bne_self_eq_false,eX,beq_self_eq_true,Bool.not_true,cond_false,OV (m:=m) (by omega) a1 h1 b1]
theorem LY (m:Nat) (hm:1048606<=m) : ∀ (post pre:List (List T)),(∀ r∈post,aC mg r)->aj post<=1048576->pre.length+post.length<=1048576 ->
  ∀ n,post.length<n->∀ k0 k1,jl m n (.l (pre++post)) (.l (pre++post)) (.i pre.length) k0 k1=k1
 | [],pre,h,hb,hs,n,hn,k0,k1=>by
  obtain ⟨n,rfl⟩ : ∃ m',n=m'+1:=⟨n-1,by omega⟩
  simp only [jl,T.ak,T.ah]
  rw [aH (by simp)]
 | x::post,pre,h,hb,hs,n,hn,k0,k1=>by
  obtain ⟨n,rfl⟩ : ∃ m',n=m'+1:=⟨n-1,by omega⟩
  simp only [List.length_cons] at hs hn
  have ih:=LY m hm post (pre++[x]) (fun r hr=>h r (by simp [hr])) (by simp only [aj] at hb; omega) (by simp; omega) n (by omega) k0 k1
  have hx:=h x (by simp)
  simp only [mg,aC,zl] at hx
  obtain ⟨_,_,rfl,⟨a0,rfl,-⟩,_,_,rfl,⟨a1,rfl,h1⟩,rfl⟩:=hx
  simp only [aj,aV,dX] at hb
  simp only [jl,T.ak,T.ah,iA,bA pre (by omega),List.getD_cons_zero,List.getD_cons_succ]
  rw [au (by simp; omega),au (by simp; omega),au (by simp; omega)]
  rw [aeu (by omega) a0 a1 h1 (by omega)]
  simpa using ih
theorem adg {m:Nat} (hm:1048607<=m) (rows:List (List T)) (h : ∀ r∈rows,aC mg r) (hb:aj rows<=1048576) (k:T->An):vY m (.l rows) (.l rows) k=k (.b true):=by
 obtain ⟨m,rfl⟩ : ∃ m',m=m'+1:=⟨m-1,by omega⟩
 have hlen:=bC (by simp) h
 simp only [vY,T.ah,T.ak,bne_self_eq_false,cond_false]
 exact LY m (by omega) rows [] h hb (by simp; omega) m (by omega) _ _
abbrev Kr:List LT:=[.sc (.int .i64),.sc (.int .i64),.sc (.int .i64),.sl qH,.sl fC,.sc (.int .i64),.sl l5,.sl lW,.sl lW,.sl mg]
theorem aev {m:Nat} (hm:1048614<=m) (a0:Int) (a1:Int) (a2:Int) (a3:List (List T)) (a4:List (List T)) (a5:Int) (a6:List (List T)) (a7:List (List T)) (a8:List (List T)) (a9:List (List T)) (h3 : ∀ r∈a3,aC qH r) (b3:aj a3<=1048576) (h4 : ∀ r∈a4,aC fC r) (b4:aj a4<=1048576) (h6 : ∀ r∈a6,aC l5 r) (b6:aj a6<=1048576) (h7 : ∀ r∈a7,aC lW r) (b7:aj a7<=1048576) (h8 : ∀ r∈a8,aC lW r) (b8:aj a8<=1048576) (h9 : ∀ r∈a9,aC mg r) (b9:aj a9<=1048576) (k:T->T->T->T->T->T->T->T->T->T->An):qx m (.i a0) (.i a1) (.i a2) (.l a3) (.l a4) (.i a5) (.l a6) (.l a7) (.l a8) (.l a9) k=k (.i a0) (.i a1) (.i a2) (.l a3) (.l a4) (.i a5) (.l a6) (.l a7) (.l a8) (.l a9):=by
 obtain ⟨m,rfl⟩ : ∃ m',m=m'+1:=⟨m-1,by omega⟩
 simp only [qx,T.ah]
 rw [aen (by omega) a0 a1 a2 a3 a4 a5 h3 b3 h4 b4]
 simp only [T.ah]
 rw [ac7 (by omega) a6 h6 b6]
 try simp only [T.ah]
 rw [Wj (by omega) a7 h7 b7]
 try simp only [T.ah]
 rw [Wj (by omega) a8 h8 b8]
 try simp only [T.ah]
 rw [ade (by omega) a9 h9 b9]
 try simp only [T.ah]
theorem aew {m:Nat} (hm:1048614<=m) (a0:Int) (a1:Int) (a2:Int) (a3:List (List T)) (a4:List (List T)) (a5:Int) (a6:List (List T)) (a7:List (List T)) (a8:List (List T)) (a9:List (List T)) (h3 : ∀ r∈a3,aC qH r) (b3:aj a3<=1048576) (h4 : ∀ r∈a4,aC fC r) (b4:aj a4<=1048576) (h6 : ∀ r∈a6,aC l5 r) (b6:aj a6<=1048576) (h7 : ∀ r∈a7,aC lW r) (b7:aj a7<=1048576) (h8 : ∀ r∈a8,aC lW r) (b8:aj a8<=1048576) (h9 : ∀ r∈a9,aC mg r) (b9:aj a9<=1048576) (l:Int) (hl:(eB [.i a0,.i a1,.i a2,.l a3,.l a4,.i a5,.l a6,.l a7,.l a8,.l a9]:Int)<=l) (hl2:l<=1048576) (k:T->An):yE m (.i a0) (.i a1) (.i a2) (.l a3) (.l a4) (.i a5) (.l a6) (.l a7) (.l a8) (.l a9) (.i l) k=k (.i (l-(eB [.i a0,.i a1,.i a2,.l a3,.l a4,.i a5,.l a6,.l a7,.l a8,.l a9]:Nat))):=by
 obtain ⟨m,rfl⟩ : ∃ m',m=m'+1:=⟨m-1,by omega⟩
 simp only [eB,tsz] at hl ⊢
 simp only [yE,T.ah,T.ak,T.dR]
 have ec:eB [.i a0,.i a1,.i a2,.l a3,.l a4,.i a5]=a3.length+bB a3+(a4.length+bB a4):=by simp only [eB,tsz]; omega
 rw [aeo (by omega) a0 a1 a2 a3 a4 a5 h3 b3 h4 b4 l (by omega) (by omega),T.ak,aH (by omega)]
 rw [ac8 (by omega) a6 h6 b6 (l-(eB [.i a0,.i a1,.i a2,.l a3,.l a4,.i a5]:Nat)) (by omega) (by omega),T.ak,aH (by omega)]
 rw [Wl (by omega) a7 h7 b7 ((l-(eB [.i a0,.i a1,.i a2,.l a3,.l a4,.i a5]:Nat))-((a6.length+bB a6:Nat):Int)) (by omega) (by omega),T.ak,aH (by omega)]
 rw [Wl (by omega) a8 h8 b8 (((l-(eB [.i a0,.i a1,.i a2,.l a3,.l a4,.i a5]:Nat))-((a6.length+bB a6:Nat):Int))-((a7.length+bB a7:Nat):Int)) (by omega) (by omega),T.ak,aH (by omega)]
 rw [adf (by omega) a9 h9 b9 ((((l-(eB [.i a0,.i a1,.i a2,.l a3,.l a4,.i a5]:Nat))-((a6.length+bB a6:Nat):Int))-((a7.length+bB a7:Nat):Int))-((a8.length+bB a8:Nat):Int)) (by omega) (by omega),T.ak,aH (by omega)]
 congr 2 <;> omega
theorem aex {m:Nat} (hm:1048614<=m) (a0:Int) (a1:Int) (a2:Int) (a3:List (List T)) (a4:List (List T)) (a5:Int) (a6:List (List T)) (a7:List (List T)) (a8:List (List T)) (a9:List (List T)) (h3 : ∀ r∈a3,aC qH r) (b3:aj a3<=1048576) (h4 : ∀ r∈a4,aC fC r) (b4:aj a4<=1048576) (h6 : ∀ r∈a6,aC l5 r) (b6:aj a6<=1048576) (h7 : ∀ r∈a7,aC lW r) (b7:aj a7<=1048576) (h8 : ∀ r∈a8,aC lW r) (b8:aj a8<=1048576) (h9 : ∀ r∈a9,aC mg r) (b9:aj a9<=1048576) (k:T->An):yZ m (.i a0) (.i a1) (.i a2) (.l a3) (.l a4) (.i a5) (.l a6) (.l a7) (.l a8) (.l a9) (.i a0) (.i a1) (.i a2) (.l a3) (.l a4) (.i a5) (.l a6) (.l a7) (.l a8) (.l a9) k=k (.b true):=by
 obtain ⟨m,rfl⟩ : ∃ m',m=m'+1:=⟨m-1,by omega⟩
 simp only [yZ,T.ah,T.ak,T.dR,T.aT,bne_self_eq_false,eX,beq_self_eq_true,Bool.not_true,cond_false,aep (m:=m) (by omega) a0 a1 a2 a3 a4 a5 h3 b3 h4 b4,ac9 (m:=m) (by omega) a6 h6 b6,Wm (m:=m) (by omega) a7 h7 b7,Wm (m:=m) (by omega) a8 h8 b8,adg (m:=m) (by omega) a9 h9 b9]
end Go.Proofs.YtpmbniddgaecpaaGreat

namespace Go.Proofs.YtpmbniddgaecpaaGreat
open Go Go.E Go.Proofs
theorem ami : ∀ {rows:List (List T)},(∀ r∈rows,aC wV r)->aj rows<=1048576->∃ l:List Int,rows=ir l/\afg l:=fun {rows} h hb=>by
 have key : ∀ rows:List (List T),(∀ r∈rows,aC wV r)->∃ l:List Int,rows=ir l:=fun rows=>by
  induction rows with
  | nil=>exact fun _=>⟨[],rfl⟩
  | cons x rows ih =>
   intro h
   obtain ⟨l,rfl⟩:=ih fun r hr=>h r (by simp [hr])
   have hx:=h x (by simp)
   simp only [wV,aC,zl] at hx
   obtain ⟨_,_,rfl,⟨a,rfl,-⟩,rfl⟩:=hx
   exact ⟨a::l,rfl⟩
 obtain ⟨l,rfl⟩:=key rows h
 have:=bC (es:=wV) (by simp) h
 exact ⟨l,rfl,by unfold afg; rw [gD] at this; omega⟩
def QOp (x:iC):Prop:=x.key.size<=1048576/\x.val.size<=1048576
def aey (l:List iC):Prop:=l.length<=400000 /\ ∀ x∈l,QOp x
theorem ai9 : ∀ {rows:List (List T)},(∀ r∈rows,aC sO r)->aj rows<=1048576->∃ l:List iC,rows=l.map iC.r /\ ∀ x∈l,QOp x
 | [],_,_=>⟨[],rfl,fun x h=>(by cases h)⟩
 | x::rows,h,hb=>by
  have hx:=h x (by simp)
  simp only [sO,aC,zl] at hx
  obtain ⟨_,_,rfl,⟨a0,rfl,-⟩,_,_,rfl,⟨a1,rfl,-⟩,_,_,rfl,⟨a2,rfl,-⟩,rfl⟩:=hx
  simp only [aj,aV,dX] at hb
  obtain ⟨l,rfl,hl⟩:=ai9 (rows:=rows) (fun r hr=>h r (by simp [hr])) (by omega)
  refine ⟨⟨a0,a1,a2⟩::l,rfl,fun y hy=>?_⟩
  rcases List.mem_cons.1 hy with rfl | hy
  ·exact ⟨by simp only; omega,by simp only; omega⟩
  ·exact hl y hy
theorem wt3 : ∀ {rows:List (List T)},(∀ r∈rows,aC sO r)->3 * rows.length<=aj rows
 | [],_=>by simp [aj]
 | x::rows,h=>by
  have hx:=h x (by simp)
  simp only [sO,aC,zl] at hx
  obtain ⟨_,_,rfl,⟨a0,rfl,-⟩,_,_,rfl,⟨a1,rfl,-⟩,_,_,rfl,⟨a2,rfl,-⟩,rfl⟩:=hx
  have:=wt3 (rows:=rows) fun r hr=>h r (by simp [hr])
  simp only [aj,aV,dX,List.length_cons]
  omega
theorem afz {rows:List (List T)} (h : ∀ r∈rows,aC sO r) (hb:aj rows<=1048576) : ∃ l:List iC,rows=l.map iC.r/\aey l:=by
 obtain ⟨l,rfl,hl⟩:=ai9 h hb
 have:=wt3 h
 exact ⟨l,rfl,by simp at this; omega,hl⟩
def an7 (x:bK):Prop:=aey x.ops
def aja (l:List bK):Prop:=l.length<=1048576 /\ ∀ x∈l,an7 x
theorem afA : ∀ {rows:List (List T)},(∀ r∈rows,aC qR r)->aj rows<=1048576->∃ l:List bK,rows=l.map bK.r /\ ∀ x∈l,an7 x
 | [],_,_=>⟨[],rfl,fun x h=>(by cases h)⟩
 | x::rows,h,hb=>by
  have hx:=h x (by simp)
  simp only [qR,aC,zl] at hx
  obtain ⟨_,_,rfl,⟨a0,rfl,-⟩,_,_,rfl,⟨a1,rfl,-⟩,_,_,rfl,⟨a2,rfl,h2⟩,rfl⟩:=hx
  simp only [aj,aV,dX] at hb
  obtain ⟨l,rfl,hl⟩:=afA (rows:=rows) (fun r hr=>h r (by simp [hr])) (by omega)
  obtain ⟨l2,rfl,b2⟩:=afz (rows:=a2) h2 (by omega)
  refine ⟨⟨a0,a1,l2⟩::l,rfl,fun y hy=>?_⟩
  rcases List.mem_cons.1 hy with rfl | hy
  ·exact b2
  ·exact hl y hy
theorem ajb {rows:List (List T)} (h : ∀ r∈rows,aC qR r) (hb:aj rows<=1048576) : ∃ l:List bK,rows=l.map bK.r/\aja l:=by
 obtain ⟨l,rfl,hl⟩:=afA h hb
 have:=bC (es:=qR) (by simp) h
 exact ⟨l,rfl,by simp at this; omega,hl⟩
def an8 (x:iD):Prop:=aey x.ops/\afg x.yes
def an9 (l:List iD):Prop:=l.length<=1048576 /\ ∀ x∈l,an8 x
theorem afB : ∀ {rows:List (List T)},(∀ r∈rows,aC qH r)->aj rows<=1048576->∃ l:List iD,rows=l.map iD.r /\ ∀ x∈l,an8 x
 | [],_,_=>⟨[],rfl,fun x h=>(by cases h)⟩
 | x::rows,h,hb=>by
  have hx:=h x (by simp)
  simp only [qH,aC,zl] at hx
  obtain ⟨_,_,rfl,⟨a0,rfl,-⟩,_,_,rfl,⟨a1,rfl,h1⟩,_,_,rfl,⟨a2,rfl,-⟩,_,_,rfl,⟨a3,rfl,h3⟩,rfl⟩:=hx
  simp only [aj,aV,dX] at hb
  obtain ⟨l,rfl,hl⟩:=afB (rows:=rows) (fun r hr=>h r (by simp [hr])) (by omega)
  obtain ⟨l1,rfl,b1⟩:=afz (rows:=a1) h1 (by omega)
  obtain ⟨l3,rfl,b3⟩:=ami (rows:=a3) h3 (by omega)
  refine ⟨⟨a0,l1,a2,l3⟩::l,rfl,fun y hy=>?_⟩
  rcases List.mem_cons.1 hy with rfl | hy
  ·exact ⟨b1,b3⟩
  ·exact hl y hy
theorem amj {rows:List (List T)} (h : ∀ r∈rows,aC qH r) (hb:aj rows<=1048576) : ∃ l:List iD,rows=l.map iD.r/\an9 l:=by
 obtain ⟨l,rfl,hl⟩:=afB h hb
 have:=bC (es:=qH) (by simp) h
 exact ⟨l,rfl,by simp at this; omega,hl⟩
def afC (x:aZ):Prop:=True
def ajc (l:List aZ):Prop:=l.length<=1048576 /\ ∀ x∈l,afC x
theorem Wn : ∀ {rows:List (List T)},(∀ r∈rows,aC fC r)->aj rows<=1048576->∃ l:List aZ,rows=l.map aZ.r /\ ∀ x∈l,afC x
 | [],_,_=>⟨[],rfl,fun x h=>(by cases h)⟩
 | x::rows,h,hb=>by
  have hx:=h x (by simp)
  simp only [fC,aC,zl] at hx
  obtain ⟨_,_,rfl,⟨a0,rfl,-⟩,_,_,rfl,⟨a1,rfl⟩,rfl⟩:=hx
  simp only [aj,aV,dX] at hb
  obtain ⟨l,rfl,hl⟩:=Wn (rows:=rows) (fun r hr=>h r (by simp [hr])) (by omega)
  refine ⟨⟨a0,a1⟩::l,rfl,fun y hy=>?_⟩
  rcases List.mem_cons.1 hy with rfl | hy
  ·exact trivial
  ·exact hl y hy
theorem agW {rows:List (List T)} (h : ∀ r∈rows,aC fC r) (hb:aj rows<=1048576) : ∃ l:List aZ,rows=l.map aZ.r/\ajc l:=by
 obtain ⟨l,rfl,hl⟩:=Wn h hb
 have:=bC (es:=fC) (by simp) h
 exact ⟨l,rfl,by simp at this; omega,hl⟩
def ak5 (x:bI):Prop:=x.key.size<=1048576/\x.val.size<=1048576
def ajd (l:List bI):Prop:=l.length<=1048576 /\ ∀ x∈l,ak5 x
theorem adh : ∀ {rows:List (List T)},(∀ r∈rows,aC qb r)->aj rows<=1048576->∃ l:List bI,rows=l.map bI.r /\ ∀ x∈l,ak5 x
 | [],_,_=>⟨[],rfl,fun x h=>(by cases h)⟩
 | x::rows,h,hb=>by
  have hx:=h x (by simp)
  simp only [qb,aC,zl] at hx
  obtain ⟨_,_,rfl,⟨a0,rfl,-⟩,_,_,rfl,⟨a1,rfl,-⟩,rfl⟩:=hx
  simp only [aj,aV,dX] at hb
  obtain ⟨l,rfl,hl⟩:=adh (rows:=rows) (fun r hr=>h r (by simp [hr])) (by omega)
  refine ⟨⟨a0,a1⟩::l,rfl,fun y hy=>?_⟩
  rcases List.mem_cons.1 hy with rfl | hy
  ·exact ⟨by simp only; omega,by simp only; omega⟩
  ·exact hl y hy
theorem akg {rows:List (List T)} (h : ∀ r∈rows,aC qb r) (hb:aj rows<=1048576) : ∃ l:List bI,rows=l.map bI.r/\ajd l:=by
 obtain ⟨l,rfl,hl⟩:=adh h hb
 have:=bC (es:=qb) (by simp) h
 exact ⟨l,rfl,by simp at this; omega,hl⟩
def aje (x:aQ):Prop:=aja x.log/\ajd x.map/\aja x.held
def akh (l:List aQ):Prop:=l.length<=1048576 /\ ∀ x∈l,aje x
theorem Y3 : ∀ {rows:List (List T)},(∀ r∈rows,aC l5 r)->aj rows<=1048576->∃ l:List aQ,rows=l.map aQ.r /\ ∀ x∈l,aje x
 | [],_,_=>⟨[],rfl,fun x h=>(by cases h)⟩
 | x::rows,h,hb=>by
  have hx:=h x (by simp)
  simp only [l5,aC,zl] at hx
  obtain ⟨_,_,rfl,⟨a0,rfl,-⟩,_,_,rfl,⟨a1,rfl,h1⟩,_,_,rfl,⟨a2,rfl,-⟩,_,_,rfl,⟨a3,rfl,h3⟩,_,_,rfl,⟨a4,rfl,h4⟩,rfl⟩:=hx
  simp only [aj,aV,dX] at hb
  obtain ⟨l,rfl,hl⟩:=Y3 (rows:=rows) (fun r hr=>h r (by simp [hr])) (by omega)
  obtain ⟨l1,rfl,b1⟩:=ajb (rows:=a1) h1 (by omega)
  obtain ⟨l3,rfl,b3⟩:=akg (rows:=a3) h3 (by omega)
  obtain ⟨l4,rfl,b4⟩:=ajb (rows:=a4) h4 (by omega)
  refine ⟨⟨a0,l1,a2,l3,l4⟩::l,rfl,fun y hy=>?_⟩
  rcases List.mem_cons.1 hy with rfl | hy
  ·exact ⟨b1,b3,b4⟩
  ·exact hl y hy
theorem ajf {rows:List (List T)} (h : ∀ r∈rows,aC l5 r) (hb:aj rows<=1048576) : ∃ l:List aQ,rows=l.map aQ.r/\akh l:=by
 obtain ⟨l,rfl,hl⟩:=Y3 h hb
 have:=bC (es:=l5) (by simp) h
 exact ⟨l,rfl,by simp at this; omega,hl⟩
def ak6 (x:cB):Prop:=aey x.ops
def amk (l:List cB):Prop:=l.length<=1048576 /\ ∀ x∈l,ak6 x
theorem adi : ∀ {rows:List (List T)},(∀ r∈rows,aC lW r)->aj rows<=1048576->∃ l:List cB,rows=l.map cB.r /\ ∀ x∈l,ak6 x
 | [],_,_=>⟨[],rfl,fun x h=>(by cases h)⟩
 | x::rows,h,hb=>by
  have hx:=h x (by simp)
  simp only [lW,aC,zl] at hx
  obtain ⟨_,_,rfl,⟨a0,rfl,-⟩,_,_,rfl,⟨a1,rfl,-⟩,_,_,rfl,⟨a2,rfl,-⟩,_,_,rfl,⟨a3,rfl,h3⟩,_,_,rfl,⟨a4,rfl⟩,rfl⟩:=hx
  simp only [aj,aV,dX] at hb
  obtain ⟨l,rfl,hl⟩:=adi (rows:=rows) (fun r hr=>h r (by simp [hr])) (by omega)
  obtain ⟨l3,rfl,b3⟩:=afz (rows:=a3) h3 (by omega)
  refine ⟨⟨a0,a1,a2,l3,a4⟩::l,rfl,fun y hy=>?_⟩
  rcases List.mem_cons.1 hy with rfl | hy
  ·exact b3
  ·exact hl y hy
theorem afD {rows:List (List T)} (h : ∀ r∈rows,aC lW r) (hb:aj rows<=1048576) : ∃ l:List cB,rows=l.map cB.r/\amk l:=by
 obtain ⟨l,rfl,hl⟩:=adi h hb
 have:=bC (es:=lW) (by simp) h
 exact ⟨l,rfl,by simp at this; omega,hl⟩
def ajg (x:dQ):Prop:=aey x.ops
def aki (l:List dQ):Prop:=l.length<=1048576 /\ ∀ x∈l,ajg x
theorem Y4 : ∀ {rows:List (List T)},(∀ r∈rows,aC mg r)->aj rows<=1048576->∃ l:List dQ,rows=l.map dQ.r /\ ∀ x∈l,ajg x
 | [],_,_=>⟨[],rfl,fun x h=>(by cases h)⟩
 | x::rows,h,hb=>by
  have hx:=h x (by simp)
  simp only [mg,aC,zl] at hx
  obtain ⟨_,_,rfl,⟨a0,rfl,-⟩,_,_,rfl,⟨a1,rfl,h1⟩,rfl⟩:=hx
  simp only [aj,aV,dX] at hb
  obtain ⟨l,rfl,hl⟩:=Y4 (rows:=rows) (fun r hr=>h r (by simp [hr])) (by omega)
  obtain ⟨l1,rfl,b1⟩:=afz (rows:=a1) h1 (by omega)
  refine ⟨⟨a0,l1⟩::l,rfl,fun y hy=>?_⟩
  rcases List.mem_cons.1 hy with rfl | hy
  ·exact b1
  ·exact hl y hy
theorem ajh {rows:List (List T)} (h : ∀ r∈rows,aC mg r) (hb:aj rows<=1048576) : ∃ l:List dQ,rows=l.map dQ.r/\aki l:=by
 obtain ⟨l,rfl,hl⟩:=Y4 h hb
 have:=bC (es:=mg) (by simp) h
 exact ⟨l,rfl,by simp at this; omega,hl⟩
end Go.Proofs.YtpmbniddgaecpaaGreat

namespace Go.Proofs.YtpmbniddgaecpaaGreat
open Go Go.E Go.Proofs
mutual
def neT:LT->Bool
 | .sc .any=>false
 | .sc _=>true
 | .sl es=>!es.isEmpty&&akj es
def akj:List LT->Bool
 | []=>true
 | e::es=>neT e&&akj es
end
theorem Y5 {es:List LT} (hes:es≠[]) (h : ∀ r,aC es r->eB r+es.length<=aV r) : ∀ {rows:List (List T)},(∀ r∈rows,aC es r)->rows.length+bB rows<=aj rows
 | [],_=>by simp [bB]
 | r::rows,hr=>by
  have h1:=Y5 hes h (rows:=rows) fun r h=>hr r (by simp [h])
  have h2:=h r (hr r (by simp))
  have h3:0<es.length:=List.length_pos_iff.2 hes
  simp only [bB,aj,List.length_cons]
  omega
mutual
theorem aml : ∀ (lt:LT),neT lt=true->∀ t,zl lt t->tsz t+1<=dX t
 | .sc (.int k),_,t,h=>by unfold zl at h; obtain ⟨n,rfl,-⟩:=h; simp [tsz,dX]
 | .sc .bool,_,t,h=>by unfold zl at h; obtain ⟨n,rfl⟩:=h; simp [tsz,dX]
 | .sc .str,_,t,h=>by unfold zl at h; obtain ⟨n,rfl,-⟩:=h; simp [tsz,dX]
 | .sc .any,h,_,_=>by unfold neT at h; cases h
 | .sl es,hn,t,h=>by
  unfold neT at hn
  simp only [Bool.and_eq_true,Bool.not_eq_true',List.isEmpty_eq_false_iff] at hn
  unfold zl at h
  obtain ⟨rows,rfl,h⟩:=h
  have:=Y5 hn.1 (Wo es hn.2) h
  simp only [tsz,dX]
  omega
theorem Wo : ∀ (es:List LT),akj es=true->∀ r,aC es r->eB r+es.length<=aV r
 | [],_,r,h=>by unfold aC at h; subst h; simp [eB,aV]
 | e::es,hn,r,h=>by
  unfold akj at hn
  simp only [Bool.and_eq_true] at hn
  unfold aC at h
  obtain ⟨d,r,rfl,h1,h2⟩:=h
  have h3:=aml e hn.1 d h1
  have h4:=Wo es hn.2 r h2
  simp only [eB,aV,List.length_cons]
  omega
end
theorem akk {sh:List aQ} {b:Nat} (h : ∀ s∈sh,s.log.length<=b):(nsP sh).length<=sh.length * b:=by
 induction sh with
 | nil=>simp [nsP]
 | cons s sh ih =>
  have:=ih fun x hx=>h x (by simp [hx])
  have h1:=h s (by simp)
  have e:nsP (s::sh)=(s.log.map fun r=>(r.kind,r.tx))++nsP sh:=by simp [nsP]
  rw [e,List.length_append,List.length_map,List.length_cons,Nat.add_mul,Nat.one_mul]
  omega
theorem aey.b {l:List iC} (h:aey l):qQ l:=⟨by have:=h.1; omega,h.2⟩
theorem agX {m:Nat} (hm:30000000<=m) (N life next:Int) (a3 a4:List (List T)) (sure:Int) (a6 a7 a8 a9:List (List T)) (h:aC Kr [.i N,.i life,.i next,.l a3,.l a4,.i sure,.l a6,.l a7,.l a8,.l a9])
  (hb:aV [.i N,.i life,.i next,.l a3,.l a4,.i sure,.l a6,.l a7,.l a8,.l a9]<=1048576) (k:T->An) :
  vH m (.i N) (.i life) (.i next) (.l a3) (.l a4) (.i sure) (.l a6) (.l a7) (.l a8) (.l a9) k=k (.b true):=by
 obtain ⟨m,rfl⟩ : ∃ m',m=m'+1:=⟨m-1,by omega⟩
 have hz:=Wo Kr (by decide) _ h
 simp only [Kr,List.length_cons,List.length_nil] at hz
 have hh:(∀ r∈a3,aC qH r)/\(∀ r∈a4,aC fC r)/\(∀ r∈a6,aC l5 r)/\(∀ r∈a7,aC lW r)/\(∀ r∈a8,aC lW r)/\(∀ r∈a9,aC mg r):=by
  have h:=h
  simp only [Kr,aC,zl] at h
  obtain ⟨_,_,e,-,_,_,rfl,-,_,_,rfl,-,_,_,rfl,⟨_,rfl,h3⟩,_,_,rfl,⟨_,rfl,h4⟩,_,_,rfl,-,_,_,rfl,⟨_,rfl,h6⟩,_,_,rfl,⟨_,rfl,h7⟩,_,_,rfl,⟨_,rfl,h8⟩,_,_,rfl,⟨_,rfl,h9⟩,-⟩:=h
  cases e
  exact ⟨h3,h4,h6,h7,h8,h9⟩
 obtain ⟨h3,h4,h6,h7,h8,h9⟩:=hh
 have hb':=hb
 simp only [aV,dX] at hb'
 have zs:=aew (m:=m) (by omega) N life next a3 a4 sure a6 a7 a8 a9 h3 (by omega) h4 (by omega) h6 (by omega) h7 (by omega) h8 (by omega) h9 (by omega) 1048576 (by omega) (by omega)
 have ts:=aev (m:=m) (by omega) N life next a3 a4 sure a6 a7 a8 a9 h3 (by omega) h4 (by omega) h6 (by omega) h7 (by omega) h8 (by omega) h9 (by omega)
 have es:=aex (m:=m) (by omega) N life next a3 a4 sure a6 a7 a8 a9 h3 (by omega) h4 (by omega) h6 (by omega) h7 (by omega) h8 (by omega) h9 (by omega)
 obtain ⟨jobs,e3,q3⟩:=amj h3 (by omega)
 obtain ⟨log,e4,q4⟩:=agW h4 (by omega)
 obtain ⟨shs,e6,q6⟩:=ajf h6 (by omega)
 obtain ⟨net,e7,q7⟩:=afD h7 (by omega)
 obtain ⟨outs,e8,q8⟩:=afD h8 (by omega)
 obtain ⟨ze,e9,q9⟩:=ajh h9 (by omega)
 have cw:CW ⟨⟨N,life,next,jobs,log,sure⟩,shs,net,outs,ze⟩ :=
  ⟨⟨q3.1,fun j hj=>⟨(q3.2 j hj).1.b,(q3.2 j hj).2⟩⟩,q4.1,q6.1,fun s hs=>⟨(q6.2 s hs).1.1,(q6.2 s hs).2.2.1,(q6.2 s hs).2.1.1,fun r hr=>((q6.2 s hs).1.2 r hr)⟩,q7.1,fun x hx=>(q7.2 x hx).b,q8.1,fun x hx=>(q8.2 x hx).b,q9.1,fun o ho=>(q9.2 o ho).b⟩
 have hns:(nsP shs).length<=aS:=by
  have:=akk (sh:=shs) (b:=1048576) fun s hs=>(q6.2 s hs).1.1
  have h2:=q6.1
  have:shs.length * 1048576<=1048576 * 1048576:=Nat.mul_le_mul_right _ h2
  unfold aS
  omega
 have sp:=fun K=>ai1 (m:=m) (by omega) _ cw K
 have im:=fun K=>ai0 (m:=m) (by omega) _ cw hns K
 replace e3:a3=rJ jobs:=e3
 replace e4:a4=rC log:=e4
 replace e6:a6=rS shs:=e6
 replace e7:a7=rW net:=e7
 replace e8:a8=rW outs:=e8
 replace e9:a9=rB ze:=e9
 simp only [<-e3,<-e4,<-e6,<-e7,<-e8,<-e9] at sp im
 simp only [vH,T.ah,zs,T.ak]
 rw [aH (by omega)]
 simp only [ts,T.ah,sp,im,T.ak,bne_self_eq_false,cond_false,es,T.aT,Bool.not_true]
end Go.Proofs.YtpmbniddgaecpaaGreat

