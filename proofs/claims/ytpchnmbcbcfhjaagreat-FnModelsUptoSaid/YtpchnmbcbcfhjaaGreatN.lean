/- A part of the proof: texts UN1, UN2, UN3, UN4, UN5, UM1: see the last part's opening words. -/
import Derived.Test.YtpchnmbcbcfhjaaGreatK
set_option linter.unusedVariables false
set_option linter.unusedSimpArgs false
set_option linter.unnecessarySimpa false
namespace Go.Proofs.YtpchnmbcbcfhjaaGreat
open Go Go.E Go.Proofs
def aic (tx:Int) (l:List bF):Option Int:=l.foldl (fun a r=>if r.tx=tx then some r.kind else a) none
def ake (l:List bF) (s:St):Prop:=∀ tx,(∀ h∈s.held,h.tx≠tx)->∀ k,aic tx l=some k->k=2\/k=3
end Go.Proofs.YtpchnmbcbcfhjaaGreat

namespace Go.Proofs.YtpchnmbcbcfhjaaGreat
open Go Go.E Go.Proofs
end Go.Proofs.YtpchnmbcbcfhjaaGreat

namespace Go.Proofs.YtpchnmbcbcfhjaaGreat
open Go Go.E Go.Proofs
structure RW (w:aA):Prop where
 b:tL w
 zZ:w.net.length<=400
 rep : ∀ s∈w.av,∃ seen,dw s.log=some ⟨s.map,s.held,seen⟩
 jd:w.c.jobs.Pairwise fun a b=>a.tx<b.tx
 jy : ∀ j∈w.c.jobs,j.yes.Pairwise (· < ·)
 rng : ∀ x∈w.net,0<=x.bR/\x.bR<w.av.length
def aie (w:aA):aA:=E8 { w with net:=w.net.take 0++w.net.drop (0+1) } (w.net.getD 0 default)
section
variable {I:aA->Prop} (hI : ∀ w,I w->RW w) (hS : ∀ w,I w->w.net≠[]->I (aie w))
include hI hS
end
end Go.Proofs.YtpchnmbcbcfhjaaGreat

namespace Go.Proofs.YtpchnmbcbcfhjaaGreat
open Go Go.E Go.Proofs
theorem Rp {m:Nat} (hm:1<=m) (l:List Int) (h:l.length<=1048576) (K:T->An):fP m (.l (ir l)) K=K (.l (ir l)):=by
 obtain ⟨m,rfl⟩:=aV m
 simp only [fP,T.ah,wL]
 rw [aP (by rw [fF]; unfold ay; omega)]
theorem Io {m:Nat} (hm:1<=m) (l:List aQ) (h:l.length<=1048576) (K:T->An):bP m (.l (rC l)) K=K (.l (rC l)):=by
 obtain ⟨m,rfl⟩:=aV m
 simp only [bP,T.ah,wL]
 rw [aP (by rw [jI]; unfold ay; omega)]
theorem O3 {m:Nat} (hm:1<=m) (l:List aX) (h:l.length<=1048576) (K:T->An):aW m (.l (rP l)) K=K (.l (rP l)):=by
 obtain ⟨m,rfl⟩:=aV m
 simp only [aW,T.ah,wL]
 rw [aP (by rw [tF]; unfold ay; omega)]
theorem afc (x:fM):[T.i x.tx,T.l (rO x.ops),T.i x.state,T.l (ir x.yes)]=x.r:=rfl
theorem WQ (m:Nat) (hm:1<=m) (x6 x7 x8 x9 x10 bT eH jK nY ug uh vB x18 CG x20:T) (l21 l22:List (List T)) : ∀ (post pre:List fM),(∀ j∈post,j.ops.length<=1048576/\j.yes.length<=1048576)->pre.length+post.length<=1048576->∀ n,post.length<n->∀ k0 k1,
  gJ m n (.i 0) (.i 0) (.i 0) (.l (rJ (pre++post))) (.i ((pre++post).length:Nat)) (.i pre.length) x6 x7 x8 x9 x10 bT eH jK nY ug uh vB x18 CG x20 (.l l21) (.l l22) (.l (rJ pre)) k0 k1 =
   k0 (.i 0) (.i 0) (.i 0) x6 x7 x8 x9 x10 bT eH jK nY ug uh vB x18 CG x20 (.l l21) (.l l22) (.l (rJ (pre++post)))
 | [],pre,ho,hs,n,hn,k0,k1=>by
  obtain ⟨n,rfl⟩:=aV n
  simp only [gJ,T.aj,T.ah,aM,aY,wL,bq]
  rw [lT,List.append_nil]
  rfl
 | x::post,pre,ho,hs,n,hn,k0,k1=>by
  obtain ⟨n,rfl⟩:=aV n
  simp only [List.length_cons] at hs hn
  obtain ⟨h1,h2⟩:=ho x (by simp)
  have ih:=WQ m hm x6 x7 x8 x9 x10 bT eH jK nY ug uh vB x18 CG x20 l21 l22 post (pre++[x]) (fun j hj=>ho j (by simp [hj])) (by simp; omega) n (by omega) k0 k1
  rw [aF,List.append_assoc,List.singleton_append] at ih
  have e:rJ pre++[x.r]=rJ (pre++[x]):=by simp
  simp only [gJ,T.aj,T.ah,ixJ,bJ pre (by omega),j0,j1,j2,j3,aM,aY,wL,bq]
  rw [bM,bM,AJ hm x.ops h1,Rp hm x.yes h2]
  simp only [T.ah,afc,e]
  rw [aP (by simp; unfold ay; omega)]
  exact ih
theorem aaN {m:Nat} (hm:1048600<=m) (c:gD) (h1:c.jobs.length<=1048576) (h2 : ∀ j∈c.jobs,j.ops.length<=1048576/\j.yes.length<=1048576) (h3:c.log.length<=1048576) (K:T->T->T->T->T->T->An) :
  rM m (.i c.n) (.i c.life) (.i c.next) (.l (rJ c.jobs)) (.l (rC c.log)) (.i c.sure) K=K (.i c.n) (.i c.life) (.i c.next) (.l (rJ c.jobs)) (.l (rC c.log)) (.i c.sure):=by
 obtain ⟨m,rfl⟩:=aV m
 obtain ⟨m',rfl⟩ : ∃ q,m=q+1:=⟨m-1,by omega⟩
 simp only [rM,pW,T.aj,T.ah,aM,aY,wL,bq]
 cases hj:c.jobs with
 | nil =>
  rw [lT]
  rw [Io (by omega) c.log h3]
  rfl
 | cons x post =>
  rw [hj] at h1 h2
  simp only [List.length_cons] at h1
  obtain ⟨a1,a2⟩:=h2 x (by simp)
  have g:(rJ (x::post)).getD (Int.toNat (0:Int)) []=x.r:=rfl
  simp only [g,j0,j1,j2,j3,T.ah]
  rw [bM,bM,AJ (by omega) x.ops a1,Rp (by omega) x.yes a2]
  simp only [T.ah,afc]
  have l:=WQ (m'+1) (by omega) (.i c.n) (.i c.life) (.i c.next) (.l (rJ (x::post))) (.l (rC c.log)) (.i c.sure) (.i 0) (.i 0) (.i 0) (.i 0) (.i c.n) (.i c.life) (.i c.next) (.l (rC c.log)) (.i c.sure) [] [] post [x] (fun j hj=>h2 j (by simp [hj])) (by simp; omega) m' (by omega)
  rw [show (T.i ((rJ (x::post)).length:Int))=T.i (([x]++post).length:Nat) by simp,show (T.i (IntKind.i64.wrap (0+1)))=T.i ((([x]:List fM).length:Nat):Int) from rfl]
  refine (l _ _).trans ?_
  simp only [T.ah]
  rw [Io (by omega) c.log h3]
  rfl
theorem WR (m:Nat) (hm:1<=m) : ∀ (post pre:List bG),(∀ x∈post,x.ops.length<=1048576)->pre.length+post.length<=1048576->∀ n,post.length<n->∀ k0,
  gK m n (.l (rW (pre++post))) (.i ((pre++post).length:Nat)) (.i pre.length) (.l (rW pre)) k0=k0 (.l (rW (pre++post)))
 | [],pre,ho,hs,n,hn,k0=>by
  obtain ⟨n,rfl⟩:=aV n
  simp only [gK,T.aj,T.ah,aM,aY,wL,bq]
  rw [lT,List.append_nil]
 | x::post,pre,ho,hs,n,hn,k0=>by
  obtain ⟨n,rfl⟩:=aV n
  simp only [List.length_cons] at hs hn
  have ih:=WR m hm post (pre++[x]) (fun j hj=>ho j (by simp [hj])) (by simp; omega) n (by omega) k0
  rw [aF,List.append_assoc,List.singleton_append] at ih
  have e:rW pre++[x.r]=rW (pre++[x]):=by simp
  simp only [gK,T.aj,T.ah,ixW,bJ pre (by omega),w0,w1,w2,w3,w4,aM,aY,wL,bq]
  rw [bM,bM,AJ hm x.ops (ho x (by simp))]
  simp only [T.ah,Zl,e]
  rw [aP (by simp; unfold ay; omega)]
  exact ih
theorem Rq {m:Nat} (hm:1048600<=m) (l:List bG) (h1:l.length<=1048576) (h2 : ∀ x∈l,x.ops.length<=1048576) (K:T->An):oM m (.l (rW l)) K=K (.l (rW l)):=by
 obtain ⟨m,rfl⟩:=aV m
 simp only [oM,T.ah,wL]
 rw [show (T.i ((rW l).length:Int))=T.i ((([]:List bG)++l).length:Nat) by simp]
 exact (WR m (by omega) l [] h2 (by simpa using h1) m (by omega) _).trans rfl
theorem WS (m:Nat) (hm:1<=m) : ∀ (post pre:List bF),(∀ x∈post,x.ops.length<=1048576)->pre.length+post.length<=1048576->∀ n,post.length<n->∀ k0,
  iM m n (.l (rR (pre++post))) (.i ((pre++post).length:Nat)) (.i pre.length) (.l (rR pre)) k0=k0 (.l (rR (pre++post)))
 | [],pre,ho,hs,n,hn,k0=>by
  obtain ⟨n,rfl⟩:=aV n
  simp only [iM,T.aj,T.ah,aM,aY,wL,bq]
  rw [lT,List.append_nil]
 | x::post,pre,ho,hs,n,hn,k0=>by
  obtain ⟨n,rfl⟩:=aV n
  simp only [List.length_cons] at hs hn
  have ih:=WS m hm post (pre++[x]) (fun j hj=>ho j (by simp [hj])) (by simp; omega) n (by omega) k0
  rw [aF,List.append_assoc,List.singleton_append] at ih
  have e:rR pre++[x.r]=rR (pre++[x]):=by simp
  simp only [iM,T.aj,T.ah,V8,bJ pre (by omega),r0,r1,r2,aM,aY,wL,bq]
  rw [bM,bM,AJ hm x.ops (ho x (by simp))]
  simp only [T.ah,acw,e]
  rw [aP (by simp; unfold ay; omega)]
  exact ih
theorem WT {m:Nat} (hm:1048600<=m) (l:List bF) (h1:l.length<=1048576) (h2 : ∀ x∈l,x.ops.length<=1048576) (K:T->An):qg m (.l (rR l)) K=K (.l (rR l)):=by
 obtain ⟨m,rfl⟩:=aV m
 simp only [qg,T.ah,wL]
 rw [show (T.i ((rR l).length:Int))=T.i ((([]:List bF)++l).length:Nat) by simp]
 exact (WS m (by omega) l [] h2 (by simpa using h1) m (by omega) _).trans rfl
structure PS1 (s:aH):Prop where
 log:s.log.length<=1048576
 akg : ∀ r∈s.log,r.ops.length<=1048576
 held:s.held.length<=1048576
 aif : ∀ r∈s.held,r.ops.length<=1048576
 map:s.map.length<=1048576
theorem aaO {m:Nat} (hm:1048610<=m) (s:aH) (h:PS1 s) (K:T->T->T->T->T->An) :
  rQ m (.i s.id) (.l (rR s.log)) (.i s.sure) (.l (rP s.map)) (.l (rR s.held)) K=K (.i s.id) (.l (rR s.log)) (.i s.sure) (.l (rP s.map)) (.l (rR s.held)):=by
 obtain ⟨m,rfl⟩:=aV m
 simp only [rQ,T.ah,wL]
 rw [WT (by omega) s.log h.log h.akg]
 simp only [T.ah]
 rw [O3 (by omega) s.map h.map,WT (by omega) s.held h.held h.aif]
 simp only [T.ah]
theorem sg0 (x:aH):x.r.getD 0 dflt = .i x.id:=rfl
theorem sg2 (x:aH):x.r.getD 2 dflt = .i x.sure:=rfl
theorem sg3 (x:aH):x.r.getD 3 dflt = .l (rP x.map):=rfl
theorem aii (x:aH):[T.i x.id,T.l (rR x.log),T.i x.sure,T.l (rP x.map),T.l (rR x.held)]=x.r:=rfl
theorem WU (m:Nat) (hm:1048610<=m) (x6 x7 x8 x9 x10 bT eH jK nY ug uh vB x18 CG x20 x21 IW x23:T) (l24 l25 l26 l27 l28 l29 l30 l31 l33 l34 l35:List (List T)) : ∀ (post pre:List aH),(∀ s∈post,PS1 s)->pre.length+post.length<=1048576->∀ n,post.length<n->∀ k0,
  gM m n (.i 0) (.i 0) (.i 0) (.l (rS (pre++post))) (.i ((pre++post).length:Nat)) (.i pre.length) x6 x7 x8 x9 x10 bT eH jK nY ug uh vB x18 CG x20 x21 IW x23 (.l l24) (.l l25) (.l l26) (.l l27) (.l l28) (.l l29) (.l l30) (.l l31) (.l (rS pre)) (.l l33) (.l l34) (.l l35) k0 =
   k0 (.i 0) (.i 0) (.i 0) x6 x7 x8 x9 x10 bT eH jK nY ug uh vB x18 CG x20 x21 IW x23 (.l l24) (.l l25) (.l l26) (.l l27) (.l l28) (.l l29) (.l l30) (.l l31) (.l (rS (pre++post))) (.l l33) (.l l34) (.l l35)
 | [],pre,ho,hs,n,hn,k0=>by
  obtain ⟨n,rfl⟩:=aV n
  simp only [gM,T.aj,T.ah,aM,aY,wL,bq]
  rw [lT,List.append_nil]
  rfl
 | x::post,pre,ho,hs,n,hn,k0=>by
  obtain ⟨n,rfl⟩:=aV n
  simp only [List.length_cons] at hs hn
  have ih:=WU m hm x6 x7 x8 x9 x10 bT eH jK nY ug uh vB x18 CG x20 x21 IW x23 l24 l25 l26 l27 l28 l29 l30 l31 l33 l34 l35 post (pre++[x]) (fun j hj=>ho j (by simp [hj])) (by simp; omega) n (by omega) k0
  rw [aF,List.append_assoc,List.singleton_append] at ih
  have e:rS pre++[x.r]=rS (pre++[x]):=by simp
  simp only [gM,T.aj,T.ah,ixS,bJ pre (by omega),sg0,sg1,sg2,sg3,sg4,aM,aY,wL,bq]
  rw [bM,bM,aaO hm x (ho x (by simp))]
  simp only [T.ah,aii,e]
  rw [aP (by simp; unfold ay; omega)]
  exact ih
theorem agw (x:bS):[T.i x.tx,T.l (rO x.ops)]=x.r:=rfl
theorem WV (m:Nat) (hm:1<=m) (x5 x6 x7 x8 x9 x10 bT eH:T) (TP X6 l15 Q5 Q6 l18 l19 l20 l21 l22 l23:List (List T)) : ∀ (post pre:List bS),(∀ s∈post,s.ops.length<=1048576)->pre.length+post.length<=1048576->∀ n,post.length<n->∀ k0,
  gL m n (.i 0) (.i 0) (.l (rB (pre++post))) (.i ((pre++post).length:Nat)) (.i pre.length) x5 x6 x7 x8 x9 x10 bT eH (.l TP) (.l X6) (.l l15) (.l Q5) (.l Q6) (.l l18) (.l l19) (.l l20) (.l l21) (.l l22) (.l l23) (.l (rB pre)) k0 =
   k0 (.i 0) (.i 0) x5 x6 x7 x8 x9 x10 bT eH (.l TP) (.l X6) (.l l15) (.l Q5) (.l Q6) (.l l18) (.l l19) (.l l20) (.l l21) (.l l22) (.l l23) (.l (rB (pre++post)))
 | [],pre,ho,hs,n,hn,k0=>by
  obtain ⟨n,rfl⟩:=aV n
  simp only [gL,T.aj,T.ah,aM,aY,wL,bq]
  rw [lT,List.append_nil]
  rfl
 | x::post,pre,ho,hs,n,hn,k0=>by
  obtain ⟨n,rfl⟩:=aV n
  simp only [List.length_cons] at hs hn
  have ih:=WV m hm x5 x6 x7 x8 x9 x10 bT eH TP X6 l15 Q5 Q6 l18 l19 l20 l21 l22 l23 post (pre++[x]) (fun j hj=>ho j (by simp [hj])) (by simp; omega) n (by omega) k0
  rw [aF,List.append_assoc,List.singleton_append] at ih
  have e:rB pre++[x.r]=rB (pre++[x]):=by simp
  simp only [gL,T.aj,T.ah,ixB,bJ pre (by omega),b0,b1',aM,aY,wL,bq]
  rw [bM,bM,AJ hm x.ops (ho x (by simp))]
  simp only [T.ah,agw,e]
  rw [aP (by simp; unfold ay; omega)]
  exact ih
structure PW (w:aA):Prop where
 DY:w.c.jobs.length<=1048576
 jobs : ∀ j∈w.c.jobs,j.ops.length<=1048576/\j.yes.length<=1048576
 log:w.c.log.length<=1048576
 shl:w.av.length<=1048576
 sh : ∀ s∈w.av,PS1 s
 zZ:w.net.length<=1048576
 net : ∀ x∈w.net,x.ops.length<=1048576
 CV:w.outs.length<=1048576
 outs : ∀ x∈w.outs,x.ops.length<=1048576
 z8:w.begun.length<=1048576
 yh : ∀ x∈w.begun,x.ops.length<=1048576
theorem Rs {m:Nat} (hm:1048630<=m) (w:aA) (h:PW w) (K:KW) :
  mF m (.i w.c.n) (.i w.c.life) (.i w.c.next) (.l (rJ w.c.jobs)) (.l (rC w.c.log)) (.i w.c.sure) (.l (rS w.av)) (.l (rW w.net)) (.l (rW w.outs)) (.l (rB w.begun)) K=kW K w:=by
 obtain ⟨m,rfl⟩:=aV m
 simp only [mF,T.ah,wL]
 have h6:=h.shl
 have h9:=h.z8
 rw [aaN (by omega) w.c h.DY h.jobs h.log,Rq (by omega) w.net h.zZ h.net,Rq (by omega) w.outs h.CV h.outs]
 simp only [T.ah]
 rw [show (T.i ((rS w.av).length:Int))=T.i ((([]:List aH)++w.av).length:Nat) by simp]
 refine (WU m (by omega) _ _ _ _ _ _ _ _ _ _ _ _ _ _ _ _ _ _ _ _ _ _ _ _ _ _ _ _ _ w.av [] h.sh (by simpa using h6) m (by omega) _).trans ?_
 simp only [T.ah,T.aj]
 rw [show (T.i ((rB w.begun).length:Int))=T.i ((([]:List bS)++w.begun).length:Nat) by simp]
 refine (WV m (by omega) _ _ _ _ _ _ _ _ _ _ _ _ _ _ _ _ _ _ _ w.begun [] h.yh (by simpa using h9) m (by omega) _).trans ?_
 simp only [T.ah]
 rfl
theorem bQ.pw {w:aA} (h:bQ w):PW w:=by
 have hb:=tL.of h
 have hbl:=h.z8
 have hjl:=h.DY
 have hll:=h.vN
 have hnl:=h.zZ
 have hol:=h.CV
 have hsl:=hb.shl
 refine ⟨by omega,fun j hj=>⟨by have:=(hb.c.jobs j hj).2.1; omega,by have:=(hb.c.jobs j hj).2.2; omega⟩,by omega,by omega,fun s hs=>?_,by omega,fun x hx=>by have:=(hb.net x hx).2; omega,by omega,fun x hx=>by have:=(hb.out x hx).2; omega,by omega,fun o ho=>?_⟩
 ·have hS:=hb.sh s hs
  exact ⟨by have:=hS.vN; omega,fun r hr=>by have:=(hS.log r hr).1; omega,by have:=hS.EZ; omega,fun r hr=>by have:=(hS.held r hr).1; omega,by have:=hS.map; omega⟩
 ·obtain ⟨h1,-⟩:=h.yh o ho
  have:=(tH h1).2
  omega
theorem bQ.rw {w:aA} (h:bQ w):RW w :=
 ⟨tL.of h,h.zZ,fun s hs=>by
  obtain ⟨k,hS,-⟩:=h.mem hs
  exact hS.2.1.rep,h.Wq,fun j hj=>(h.jobs j hj).yes.1,h.range⟩
end Go.Proofs.YtpchnmbcbcfhjaaGreat

namespace Go.Proofs.YtpchnmbcbcfhjaaGreat
open Go Go.E Go.Proofs
end Go.Proofs.YtpchnmbcbcfhjaaGreat

namespace Go.Proofs.YtpchnmbcbcfhjaaGreat
open Go Go.E Go.Proofs
def Ab (a b:List aX):List aX:=b.foldl (fun acc p=>P6 acc p.key p.val) a
theorem FY : ∀ (b a:List aX),(Ab a b).length<=a.length+b.length
 | [],a=>by simp [Ab]
 | p::b,a=>by
  have h1:=FY b (P6 a p.key p.val)
  have h2:=Ow a p.key p.val
  simp only [Ab,List.foldl_cons,List.length_cons] at *
  omega
theorem Kk (m:Nat) (hm:1048610<=m) : ∀ (post pre acc:List aX),acc.length+post.length<=1048576->pre.length+post.length<=1048576->∀ n,post.length<n->∀ k0,
  jv m n (.l (rP (pre++post))) (.i ((pre++post).length:Nat)) (.i pre.length) (.l (rP acc)) k0=k0 (.l (rP (Ab acc post)))
 | [],pre,acc,ha,hs,n,hn,k0=>by
  obtain ⟨n,rfl⟩:=aV n
  simp only [jv,T.aj,T.ah,aM,aY,wL,bq]
  rw [lT]
  rfl
 | x::post,pre,acc,ha,hs,n,hn,k0=>by
  obtain ⟨n,rfl⟩:=aV n
  simp only [List.length_cons] at hs hn ha
  have hp:=Ow acc x.key x.val
  have ih:=Kk m hm post (pre++[x]) (P6 acc x.key x.val) (by omega) (by simp; omega) n (by omega) k0
  rw [aF,List.append_assoc,List.singleton_append] at ih
  simp only [jv,T.aj,T.ah,ixP,bJ pre (by omega),p0,p1,aM,aY,wL,bq]
  rw [bM,bM,Zr hm acc x.key x.val (by omega)]
  simp only [T.ah]
  exact ih
theorem aaP {m:Nat} (hm:1048620<=m) (a b:List aX) (h:a.length+b.length<=1048576) (K:T->An):wO m (.l (rP a)) (.l (rP b)) K=K (.l (rP (Ab a b))):=by
 obtain ⟨m,rfl⟩:=aV m
 simp only [wO,T.ah,wL]
 rw [O3 (by omega) a (by omega),show (T.i ((rP b).length:Int))=T.i ((([]:List aX)++b).length:Nat) by simp]
 exact (Kk m (by omega) b [] a (by omega) (by simp; omega) m (by omega) _).trans rfl
def LK (l:List aH):List aX:=l.foldl (fun acc s=>Ab acc s.map) []
theorem Rt (m:Nat) (hm:1048630<=m) : ∀ (post pre:List aH) (acc:List aX),(∀ s∈post,s.map.length<=60)->acc.length+60 * post.length<=1048576->pre.length+post.length<=1048576->∀ n,post.length<n->∀ k0,
  kC m n (.l (rS (pre++post))) (.i ((pre++post).length:Nat)) (.i pre.length) (.l (rP acc)) k0=k0 (.l (rP (post.foldl (fun acc s=>Ab acc s.map) acc)))
 | [],pre,acc,ho,ha,hs,n,hn,k0=>by
  obtain ⟨n,rfl⟩:=aV n
  simp only [kC,T.aj,T.ah,aM,aY,wL,bq]
  rw [lT]
  rfl
 | x::post,pre,acc,ho,ha,hs,n,hn,k0=>by
  obtain ⟨n,rfl⟩:=aV n
  simp only [List.length_cons] at hs hn ha
  have hx:=ho x (by simp)
  have hp:=FY x.map acc
  have ih:=Rt m hm post (pre++[x]) (Ab acc x.map) (fun s h=>ho s (by simp [h])) (by omega) (by simp; omega) n (by omega) k0
  rw [aF,List.append_assoc,List.singleton_append] at ih
  simp only [kC,T.aj,T.ah,ixS,bJ pre (by omega),sg3,aM,aY,wL,bq]
  rw [bM,bM,aaP (by omega) acc x.map (by omega)]
  simp only [T.ah]
  exact ih
theorem bQ.maps {w:aA} (h:bQ w) : ∀ s∈w.av,s.map.length<=60:=fun s hs=>by
 obtain ⟨k,hS,-⟩:=h.mem hs
 obtain ⟨seen,-,-,-,h2⟩:=hS.2.1.inv
 omega
theorem O4 {m:Nat} (hm:1048640<=m) (w:aA) (h:bQ w) (K:T->An) :
  vk m (.i w.c.n) (.i w.c.life) (.i w.c.next) (.l (rJ w.c.jobs)) (.l (rC w.c.log)) (.i w.c.sure) (.l (rS w.av)) (.l (rW w.net)) (.l (rW w.outs)) (.l (rB w.begun)) K=K (.l (rP (LK w.av))):=by
 obtain ⟨m,rfl⟩:=aV m
 have h1:=h.shl
 have h2:=h.n
 simp only [vk,T.ah,wL]
 rw [show (T.i ((rS w.av).length:Int))=T.i ((([]:List aH)++w.av).length:Nat) by simp]
 exact (Rt m (by omega) w.av [] [] h.maps (by simp; omega) (by simp; omega) m (by omega) _).trans rfl
def KZ (l:List bS) (acc:List aX) (tx:Int):List aX:=l.foldl (fun a o=>if o.tx=tx then nA a o.ops else a) acc
theorem Zx {tx:Int} : ∀ {l:List bS},(∀ o∈l,o.tx≠tx)->∀ acc,KZ l acc tx=acc
 | [],_,acc=>rfl
 | x::l,h,acc=>by
  have:=Zx (tx:=tx) (l:=l) (fun o ho=>h o (by simp [ho])) acc
  simp only [KZ,List.foldl_cons] at *
  rw [if_neg (h x (by simp))]
  exact this
theorem O5 {tx:Int} : ∀ {l:List bS},(l.Pairwise fun a b=>a.tx<b.tx)->∀ acc,KZ l acc tx=(match mK tx l with | some j=>nA acc (l.getD j default).ops | none=>acc)
 | [],_,acc=>rfl
 | x::l,h,acc=>by
  rw [List.pairwise_cons] at h
  have ih:=O5 (tx:=tx) h.2 acc
  unfold mK
  by_cases h1:x.tx=tx
  ·rw [if_pos h1]
   have:=Zx (tx:=tx) (l:=l) (fun o ho e=>by have:=h.1 o ho; omega) (nA acc x.ops)
   simp only [KZ,List.foldl_cons] at *
   rw [if_pos h1]
   exact this
  ·rw [if_neg h1]
   simp only [KZ,List.foldl_cons] at *
   rw [if_neg h1,ih]
   cases mK tx l <;> rfl
theorem O6 (m:Nat) (hm:1048640<=m) (tx:Int) (x2 x3 x4 x8 x9 x10 bT eH jK nY ug uh vB x20:T) : ∀ (post pre:List bS) (acc:List aX),(∀ o∈post,o.ops.length<=8)->(post.Pairwise fun a b=>a.tx<b.tx)->((∃ o∈post,o.tx=tx)->acc.length+8<=1048576)->pre.length+post.length<=1048576->∀ n,post.length<n->∀ k0,
  lD m n (.i 0) (.i 0) x2 x3 x4 (.l (rB (pre++post))) (.i ((pre++post).length:Nat)) (.i pre.length) x8 x9 x10 bT eH jK nY ug uh vB (.l (rP acc)) (.i tx) x20 k0 =
   k0 (.i 0) x2 x3 x4 x8 x9 x10 bT eH jK nY ug uh vB (.l (rP (KZ post acc tx)))
 | [],pre,acc,ho,hd,ha,hs,n,hn,k0=>by
  obtain ⟨n,rfl⟩:=aV n
  simp only [lD,T.aj,T.ah,aM,aY,wL,bq]
  rw [lT]
  rfl
 | x::post,pre,acc,ho,hd,ha,hs,n,hn,k0=>by
  obtain ⟨n,rfl⟩:=aV n
  simp only [List.length_cons] at hs hn
  rw [List.pairwise_cons] at hd
  have hx:=ho x (by simp)
  have ih:=fun acc h=>O6 m hm tx x2 x3 x4 x8 x9 x10 bT eH jK nY ug uh vB x20 post (pre++[x]) acc (fun s h=>ho s (by simp [h])) hd.2 h (by simp; omega) n (by omega) k0
  rw [aF,List.append_assoc,List.singleton_append] at ih
  simp only [lD,T.aj,T.ah,ixB,bJ pre (by omega),b0,b1',aM,aY,wL,bq]
  rw [bM,bM]
  by_cases h1:x.tx=tx
  ·have hl:=ha ⟨x,by simp,h1⟩
   rw [aB (by simp [h1]),Ra (by omega) acc x.ops (by omega)]
   simp only [T.ah]
   refine (ih (nA acc x.ops) (fun ⟨o,h2,h3⟩=>by have:=hd.1 o h2; omega)).trans ?_
   simp only [KZ,List.foldl_cons]
   rw [if_pos h1]
  ·rw [aD (by simp [h1])]
   refine (ih acc (fun ⟨o,h2,h3⟩=>ha ⟨o,by simp [h2],h3⟩)).trans ?_
   simp only [KZ,List.foldl_cons]
   rw [if_neg h1]
def Ip (begun:List bS) (acc:List aX) (c:aQ):List aX:=if c.yes then KZ begun acc c.tx else acc
def FZ (w:aA):List aX:=(w.c.log.take w.c.sure.toNat).foldl (Ip w.begun) []
theorem O7 {l:List bS} (hd:l.Pairwise fun a b=>a.tx<b.tx) (ho : ∀ o∈l,o.ops.length<=8) (acc:List aX) (c:aQ):(Ip l acc c).length<=acc.length+8:=by
 unfold Ip
 split
 ·rw [O5 hd]
  cases h:mK c.tx l with
  | none=>simp
  | some j =>
   have hj:j<l.length:=by
    have : ∀ {l:List bS} {j:Nat},mK c.tx l=some j->j<l.length:=by
     intro l
     induction l with
     | nil=>intro j h; cases h
     | cons x l ih =>
      intro j h
      unfold mK at h
      split at h
      ·cases h; simp
      ·cases h2:mK c.tx l with
       | none=>rw [h2] at h; cases h
       | some i=>rw [h2] at h; cases h; have:=ih h2; simp; omega
    exact this h
   have h1:=Cj (l.getD j default).ops acc
   have h2:=ho _ (D8 hj)
   simp only []
   omega
 ·omega
theorem Ru (m:Nat) (hm:1048640<=m) (w:aA) (hd:w.begun.Pairwise fun a b=>a.tx<b.tx) (ho : ∀ o∈w.begun,o.ops.length<=8) (hb:w.begun.length<=1000) (x4 x5 x6 x7 x8 x10 bT eH:T) : ∀ (post pre:List aQ) (acc:List aX),acc.length+8 * post.length<=1048576->pre.length+post.length<=1048576->∀ n,post.length+1001<n->∀ k0,
  lF m n (.i 0) (.l (rC (pre++post))) (.i ((pre++post).length:Nat)) (.i pre.length) x4 x5 x6 x7 x8 (.i w.c.sure) x10 bT eH (.l (rB w.begun)) (.l (rP acc)) k0 =
   k0 (.l (rP ((post.take (w.c.sure-pre.length).toNat).foldl (Ip w.begun) acc)))
 | [],pre,acc,ha,hs,n,hn,k0=>by
  obtain ⟨n,rfl⟩:=aV n
  simp only [lF,T.aj,T.ah,aM,aY,wL,bq]
  rw [lT]
  simp
 | x::post,pre,acc,ha,hs,n,hn,k0=>by
  obtain ⟨n,rfl⟩:=aV n
  simp only [List.length_cons] at hs hn ha
  have ih:=fun acc h=>Ru m hm w hd ho hb x4 x5 x6 x7 x8 x10 bT eH post (pre++[x]) acc h (by simp; omega) n (by omega) k0
  rw [aF,List.append_assoc,List.singleton_append] at ih
  simp only [lF,jn,T.aj,T.ah,ixC,bJ pre (by omega),c0,c1,T.aI,aM,aY,wL,bq]
  rw [bM,bM]
  by_cases h2:(pre.length:Int)<w.c.sure
  ·obtain ⟨q,hq⟩ : ∃ q,(w.c.sure-(pre.length:Int)).toNat=q+1:=⟨(w.c.sure-(pre.length:Int)).toNat-1,by omega⟩
   have hq2:(w.c.sure-((pre.length:Int)+1)).toNat=q:=by omega
   rw [hq,List.take_succ_cons,List.foldl_cons]
   rw [hq2] at ih
   cases hy:x.yes with
   | false =>
    rw [aD (by rfl)]
    have e:Ip w.begun acc x=acc:=by unfold Ip; rw [hy]; rfl
    rw [e]
    exact ih acc (by omega)
   | true =>
    have hml:=O7 hd ho acc x
    have e:Ip w.begun acc x=KZ w.begun acc x.tx:=by unfold Ip; rw [hy]; rfl
    rw [e] at hml ⊢
    rw [aB (by rfl),lT]
    rw [show (T.i ((rB w.begun).length:Int))=T.i ((([]:List bS)++w.begun).length:Nat) by simp]
    refine (O6 m hm x.tx _ _ _ _ _ _ _ _ _ _ _ _ _ _ w.begun [] acc ho hd (fun _=>by omega) (by simp; omega) n (by omega) _).trans ?_
    simp only [T.ah,T.aj,bJ pre (by omega)]
    exact ih (KZ w.begun acc x.tx) (by omega)
  ·have hq:(w.c.sure-(pre.length:Int)).toNat=0:=by omega
   have hq2:(w.c.sure-((pre.length:Int)+1)).toNat=0:=by omega
   rw [hq,List.take_zero,List.foldl_nil]
   rw [hq2] at ih
   simp only [List.take_zero,List.foldl_nil] at ih
   cases hy:x.yes with
   | false =>
    rw [aD (by rfl)]
    exact ih acc (by omega)
   | true =>
    rw [aB (by rfl),bM]
    exact ih acc (by omega)
theorem bQ.aen {w:aA} (h:bQ w) : ∀ o∈w.begun,o.ops.length<=8:=fun o ho=>(tH (h.yh o ho).1).2
theorem Ju {m:Nat} (hm:1048650<=m) (w:aA) (h:bQ w) (K:T->An) :
  tq m (.i w.c.n) (.i w.c.life) (.i w.c.next) (.l (rJ w.c.jobs)) (.l (rC w.c.log)) (.i w.c.sure) (.l (rS w.av)) (.l (rW w.net)) (.l (rW w.outs)) (.l (rB w.begun)) K=K (.l (rP (FZ w))):=by
 obtain ⟨m,rfl⟩:=aV m
 have h1:=h.vN
 simp only [tq,T.ah,wL]
 rw [show (T.i ((rC w.c.log).length:Int))=T.i ((([]:List aQ)++w.c.log).length:Nat) by simp]
 refine (Ru m (by omega) w h.Jp h.aen h.z8 _ _ _ _ _ _ _ _ w.c.log [] [] (by simp; omega) (by simp; omega) m (by omega) _).trans ?_
 simp only [T.ah,List.length_nil,Int.natCast_zero,Int.sub_zero]
 rfl
theorem Rv (m:Nat) (hm:1048640<=m) (w:aA) (h:bQ w) : ∀ (post pre:List aQ) (acc:List aX),w.c.log=pre++post->acc.length+8 * post.length<=1048576->∀ n,post.length<n->∀ k0,
  lI m n (.i 0) (.i pre.length) (.i w.c.n) (.i w.c.life) (.i w.c.next) (.l (rJ w.c.jobs)) (.l (rC w.c.log)) (.i w.c.sure) (.l (rS w.av)) (.l (rW w.net)) (.l (rW w.outs)) (.l (rB w.begun)) (.l (rP acc)) k0 =
   k0 (.l (rP ((post.take (w.c.sure-pre.length).toNat).foldl (Ip w.begun) acc)))
 | [],pre,acc,he,ha,n,hn,k0=>by
  obtain ⟨n,rfl⟩:=aV n
  simp only [lI,jn,T.aj,T.ah,qB,aM,aY,wL,bq]
  rw [aD (by rw [jI,he]; simp)]
  simp
 | x::post,pre,acc,he,ha,n,hn,k0=>by
  obtain ⟨n,rfl⟩:=aV n
  simp only [List.length_cons] at hn ha
  have hll:=h.vN
  have hbl:=h.z8
  have hlen:w.c.log.length=pre.length+(post.length+1):=by rw [he]; simp
  have ih:=fun acc ha=>Rv m hm w h post (pre++[x]) acc (by rw [he]; simp) ha n (by omega) k0
  rw [aF] at ih
  have hx:(rC w.c.log).getD (Int.toNat (pre.length:Int)) []=x.r:=by rw [he]; exact ixC _ _ _
  simp only [lI,jn,T.aj,T.ah,hx,bJ pre (by omega),c0,cd1,T.aI,qB,aM,aY,wL,bq]
  rw [aB (by rw [jI]; simp; omega)]
  by_cases h2:(pre.length:Int)<w.c.sure
  ·obtain ⟨q,hq⟩ : ∃ q,(w.c.sure-(pre.length:Int)).toNat=q+1:=⟨(w.c.sure-(pre.length:Int)).toNat-1,by omega⟩
   have hq2:(w.c.sure-((pre.length:Int)+1)).toNat=q:=by omega
   have hml:=O7 h.Jp h.aen acc x
   rw [aP h2,hq,List.take_succ_cons,List.foldl_cons,aP (by rw [jI]; omega),aaG (by omega) _ _ _ _ _ _ _ _ _ w.begun x.tx (by omega)]
   rw [hq2] at ih
   simp only [T.aj]
   rw [aP (by rw [jI]; omega)]
   cases hy:x.yes with
   | false =>
    rw [aD (by rfl),cond_false]
    have e:Ip w.begun acc x=acc:=by unfold Ip; rw [hy]; rfl
    rw [e]
    exact ih acc (by omega)
   | true =>
    rw [aB (by rfl)]
    have e:Ip w.begun acc x=KZ w.begun acc x.tx:=by unfold Ip; rw [hy]; rfl
    rw [e] at hml ⊢
    rw [O5 h.Jp] at hml ⊢
    unfold sD
    cases hf:mK x.tx w.begun with
    | none =>
     rw [hf] at hml
     simp only [] at hml ⊢
     rw [decide_eq_false (by omega),cond_false]
     exact ih acc (by omega)
    | some j =>
     rw [hf] at hml
     have hj:j<w.begun.length:=by
      have e2:sD x.tx w.begun=(j:Int):=by unfold sD; rw [hf]
      obtain ⟨j',hj',hl'⟩:=Ik (tx:=x.tx) (l:=w.begun) (by rw [e2]; omega)
      rw [e2] at hj'
      omega
     simp only [] at hml ⊢
     rw [decide_eq_true (by omega),cond_true,aP (by rw [vP]; omega),Int.toNat_natCast,TT w.begun hj,bd1]
     simp only [T.ah]
     rw [V7 (by omega) acc _ (by have:=h.aen _ (D8 hj); omega)]
     simp only [T.ah]
     exact ih _ (by omega)
  ·have hq:(w.c.sure-(pre.length:Int)).toNat=0:=by omega
   rw [dF h2,hq,List.take_zero,List.foldl_nil]
theorem aaQ {m:Nat} (hm:1048650<=m) (w:aA) (h:bQ w) (K:T->An) :
  Cb m (.i w.c.n) (.i w.c.life) (.i w.c.next) (.l (rJ w.c.jobs)) (.l (rC w.c.log)) (.i w.c.sure) (.l (rS w.av)) (.l (rW w.net)) (.l (rW w.outs)) (.l (rB w.begun)) K=K (.l (rP (FZ w))):=by
 obtain ⟨m,rfl⟩:=aV m
 have h1:=h.vN
 simp only [Cb,T.ah,wL]
 refine (Rv m (by omega) w h w.c.log [] [] rfl (by simp; omega) m (by omega) _).trans ?_
 simp only [T.ah,List.length_nil,Int.natCast_zero,Int.sub_zero]
 rfl
theorem Rw (m:Nat) : ∀ (post pre:List aX),pre.length+post.length<=4611686018427387->∀ n,post.length<n->∀ k0 k1,
  gT m n (.l (rP (pre++post))) (.l (rP (pre++post))) (.i pre.length) k0 k1=k1
 | [],pre,hs,n,hn,k0,k1=>by
  obtain ⟨n,rfl⟩:=aV n
  simp only [gT,T.aj,T.ah,aM,aY,mU,bq]
  rw [lT]
 | x::post,pre,hs,n,hn,k0,k1=>by
  obtain ⟨n,rfl⟩:=aV n
  simp only [List.length_cons] at hs hn
  have ih:=Rw m post (pre++[x]) (by simp; omega) n (by omega) k0 k1
  rw [aF,List.append_assoc,List.singleton_append] at ih
  simp only [gT,T.aj,T.ah,ixP,bJ pre (by omega),p0,p1,T.jN,beq_self_eq_true,Bool.and_true,Bool.not_true,cond_false,aM,aY,mU,bq]
  rw [bM,bM,bM]
  exact ih
theorem TW {m:Nat} (l:List aX) (hl:l.length<=2000000) (hm:2000010<=m) (K:T->An):mI m (.l (rP l)) (.l (rP l)) K=K (.b true):=by
 obtain ⟨m,rfl⟩:=aV m
 simp only [mI,T.ah,bne_self_eq_false,cond_false,wL]
 exact Rw m l [] (by simp; omega) m (by omega) _ _
theorem WW {α:Type} (f:List aX->α->List aX) (b:Nat) (h : ∀ a x,(f a x).length<=a.length+b) : ∀ (l:List α) (a:List aX),(l.foldl f a).length<=a.length+b * l.length
 | [],a=>by simp
 | x::l,a=>by
  have h1:=WW f b h l (f a x)
  have h2:=h a x
  simp only [List.foldl_cons,List.length_cons]
  rw [Nat.mul_succ]
  omega
theorem bQ.agx {w:aA} (h:bQ w):(FZ w).length<=8000:=by
 have h1:=WW (Ip w.begun) 8 (fun a c=>O7 h.Jp h.aen a c) (w.c.log.take w.c.sure.toNat) []
 have h2:=h.vN
 have:(w.c.log.take w.c.sure.toNat).length<=1000:=by rw [List.length_take]; omega
 unfold FZ
 simp only [List.length_nil] at h1
 omega
theorem Zy : ∀ (l:List aH) (a:List aX),(∀ s∈l,s.map.length<=60)->(l.foldl (fun acc s=>Ab acc s.map) a).length<=a.length+60 * l.length
 | [],a,_=>by simp
 | x::l,a,h=>by
  have h1:=Zy l (Ab a x.map) fun s hs=>h s (by simp [hs])
  have h2:=FY x.map a
  have h3:=h x (by simp)
  simp only [List.foldl_cons,List.length_cons]
  omega
theorem adk {m:Nat} (hm:3200220<=m) (w:aA) (h:bQ w) (hl:w.c.life≠900) (bT:T) (K:T->T->T->T->T->T->T->T->T->T->T->An) :
  Lx m (.i w.c.n) (.i w.c.life) (.i w.c.next) (.l (rJ w.c.jobs)) (.l (rC w.c.log)) (.i w.c.sure) (.l (rS w.av)) (.l (rW w.net)) (.l (rW w.outs)) (.l (rB w.begun)) (.i 10) bT (.i 0) (.l []) K =
   kW (fun a b c d e f g h i j=>K a b c d e f g h i j (.b true)) (Jq w (kQ w.c 0).2):=by
 obtain ⟨m,rfl⟩:=aV m
 obtain ⟨m,rfl⟩:=aV m
 obtain ⟨m,rfl⟩:=aV m
 have hx:=h.Ya 0
 have h1:=h.vN
 have h2:=h.sure
 have h3:=h.life
 obtain ⟨q,hq⟩ : ∃ q,q=Jq w (kQ w.c 0).2:=⟨_,rfl⟩
 have e1:(kQ w.c 0).2 = { w.c with log:=w.c.log.take w.c.sure.toNat,sure:=w.c.sure,life:=w.c.life+1,next:=0,jobs:=[] }:=by
  unfold kQ
  rw [if_neg hl]
  have:min (max (0:Int) 0) ((w.c.log.length:Int)-w.c.sure)=0:=by omega
  simp only [this,Int.add_zero]
  congr 1
  rw [List.length_take]
  omega
 simp only [Lx,jn,T.ah,wL]
 rw [Rs (by omega) w h.pw]
 unfold kW
 simp only [T.ah]
 rw [Rm (by omega) w h.cw,h.world]
 simp only [T.aI,beq_self_eq_true,cond_true]
 have ew:IntKind.i64.wrap ((w.c.log.length:Int)-w.c.sure)=(w.c.log.length:Int)-w.c.sure:=wrap_i64 (by omega) (by omega)
 have em:zy (zA 0 0) ((w.c.log.length:Int)-w.c.sure)=0:=by unfold zy zA; split <;> split <;> omega
 have ew2:IntKind.i64.wrap (w.c.sure+0)=w.c.sure:=by rw [Int.add_zero]; exact wrap_i64 (by omega) (by omega)
 have ew3:IntKind.i64.wrap (w.c.life+1)=w.c.life+1:=wrap_i64 (by omega) (by omega)
 have aks:(w.c.life==900)=false:=beq_eq_false_iff_ne.2 hl
 simp only [zW,sZ,jn,T.aj,T.ah,T.aI,jI,ew,em,ew2,ew3,aks,cond_false,wL,bq]
 rw [bM,bM]
 have et:(rC w.c.log).take (Int.toNat w.c.sure)=rC (w.c.log.take w.c.sure.toNat):=by simp [rC]
 rw [et]
 have hc:=Rs (m:=m+1+1) (by omega) q (by rw [hq]; exact hx.pw) (fun a b c d e f g h i j=>K a b c (T.l d.rows) (T.l e.rows) f (T.l g.rows) (T.l h.rows) (T.l i.rows) (T.l j.rows) (.b true))
 rw [hq,e1] at hc
 rw [e1]
 exact hc
theorem Yr (w:aA) (h:bQ w) (hl:w.c.life≠900):FZ (Jq w (kQ w.c 0).2)=FZ w:=by
 have h2:=h.sure
 unfold kQ
 rw [if_neg hl]
 have:min (max (0:Int) 0) ((w.c.log.length:Int)-w.c.sure)=0:=by omega
 simp only [this,Int.add_zero]
 unfold FZ Jq
 simp only []
 rw [Int.toNat_natCast,List.take_length]
theorem WX {m:Nat} (hm:30000000<=m) (b:List (List T)) (K:T->An):zX m (.l b) K=K (.b true):=by
 obtain ⟨m,rfl⟩:=aV m
 have hbig : ∀ K,Hg m (.l b) K=K (.b (decide ((b.length:Int) > 1048576))):=by
  intro K
  obtain ⟨q,rfl⟩ : ∃ q,m=q+1:=⟨m-1,by omega⟩
  simp only [Hg,T.ah]
 simp only [zX,T.ah,wL]
 rw [hbig]
 simp only [T.aI]
 by_cases hb:(b.length:Int) > 1048576
 ·rw [decide_eq_true hb]; rfl
 ·rw [decide_eq_false hb,cond_false]
  obtain ⟨w,⟨h,hlf⟩,hw⟩:=OT (m:=m) (by omega) b (by omega)
  have hl:w.c.life≠900:=by omega
  have hx:=h.Ya 0
  have hmd:=Yr w h hl
  have hts:LK (Jq w (kQ w.c 0).2).av=LK w.av:=rfl
  rw [hw]
  unfold kW
  simp only [T.ah]
  rw [adk (by omega) w h hl]
  unfold kW
  generalize Jq w (kQ w.c 0).2=x at hx hmd hts
  have hm1:=h.agx
  have hs1:=h.shl
  have hs2:=h.n
  have ht1:=Zy w.av [] h.maps
  simp only [T.ah,T.aI,beq_self_eq_true,cond_true]
  rw [Ju (by omega) x hx,Ju (by omega) w h,hmd]
  simp only [T.ah]
  rw [TW _ (by omega) (by omega)]
  simp only [T.aI,beq_self_eq_true,cond_true]
  rw [O4 (by omega) x hx,O4 (by omega) w h,hts]
  simp only [T.ah]
  rw [TW _ (by unfold LK; simp only [List.length_nil] at ht1; omega) (by omega)]
  simp only [T.aI,beq_self_eq_true,cond_true]
  rw [adj (by omega) x hx.cw hx.nsl,hx.safe]
  simp only [T.aj]
  rw [aB (by rfl),Ju (by omega) w h,aaQ (by omega) w h]
  simp only [T.ah]
  rw [TW _ (by omega) (by omega)]
  simp only [T.aI]
end Go.Proofs.YtpchnmbcbcfhjaaGreat

