/- A part of the proof: texts XA, XB, XC, XD, XE, XF, XG, XBI, XBJ, XS, XT, XU, XV, XW, XX, XI1: see the last part's opening words. -/
import Derived.Test.YtpmbniddgaecpaaGreatP
set_option linter.unusedVariables false
set_option linter.unusedSimpArgs false
set_option linter.unnecessarySimpa false
namespace Go.Proofs.YtpmbniddgaecpaaGreat
open Go Go.E Go.Proofs
theorem iA (pre:List (List T)) (x:List T) (post:List (List T)):(pre++x::post).getD (Int.toNat (pre.length:Int)) []=x:=by simp [List.getD]
theorem bA {α:Type} (pre:List α) (h:pre.length<4611686018427387904):IntKind.i64.wrap ((pre.length:Int)+1)=(pre.length:Int)+1:=wrap_i64 (by omega) (by omega)
theorem aG {α:Type} (pre:List α) (x:α):(((pre++[x]).length:Nat):Int)=(pre.length:Int)+1:=by simp
theorem vZ (pre:List (List T)) (x y:List T) (post:List (List T)):(pre++x::post).set (Int.toNat (pre.length:Int)) y=pre++y::post:=by simp [List.set_append]
def ir (l:List Int):List (List T):=l.map kF
theorem gD (l:List Int):(ir l).length=l.length:=by simp [ir]
def afg (l:List Int):Prop:=l.length<=1048576
structure iC where
 kind:Int
 key:ByteArray
 val:ByteArray
 deriving Inhabited
def iC.r (x:iC):List T:=[.i x.kind,.s x.key,.s x.val]
def BOp (x:iC):Prop:=x.key.size<=1048576/\x.val.size<=1048576
def qQ (l:List iC):Prop:=l.length<=1048576 /\ ∀ x∈l,BOp x
structure bI where
 key:ByteArray
 val:ByteArray
 deriving Inhabited
def bI.r (x:bI):List T:=[.s x.key,.s x.val]
structure bK where
 kind:Int
 tx:Int
 ops:List iC
 deriving Inhabited
def bK.r (x:bK):List T:=[.i x.kind,.i x.tx,.l (x.ops.map iC.r)]
structure aQ where
 id:Int
 log:List bK
 sure:Int
 map:List bI
 held:List bK
 deriving Inhabited
def aQ.r (x:aQ):List T:=[.i x.id,.l (x.log.map bK.r),.i x.sure,.l (x.map.map bI.r),.l (x.held.map bK.r)]
structure iD where
 tx:Int
 ops:List iC
 state:Int
 yes:List Int
 deriving Inhabited
def iD.r (x:iD):List T:=[.i x.tx,.l (x.ops.map iC.r),.i x.state,.l (ir x.yes)]
def aie (x:iD):Prop:=qQ x.ops/\afg x.yes
def aif (l:List iD):Prop:=l.length<=1048576 /\ ∀ x∈l,aie x
structure aZ where
 tx:Int
 yes:Bool
 deriving Inhabited
def aZ.r (x:aZ):List T:=[.i x.tx,.b x.yes]
structure cB where
 kind:Int
 nG:Int
 tx:Int
 ops:List iC
 yes:Bool
 deriving Inhabited
def cB.r (x:cB):List T:=[.i x.kind,.i x.nG,.i x.tx,.l (x.ops.map iC.r),.b x.yes]
structure dQ where
 tx:Int
 ops:List iC
 deriving Inhabited
def dQ.r (x:dQ):List T:=[.i x.tx,.l (x.ops.map iC.r)]
structure uy where
 n:Int
 life:Int
 next:Int
 jobs:List iD
 log:List aZ
 sure:Int
 deriving Inhabited
structure bO where
 c:uy
 aI:List aQ
 net:List cB
 outs:List cB
 begun:List dQ
 deriving Inhabited
end Go.Proofs.YtpmbniddgaecpaaGreat

namespace Go.Proofs.YtpmbniddgaecpaaGreat
open Go Go.E Go.Proofs
theorem nM {m:Nat} (hm:1<=m) (x a b:Int) (k:T->An):bZ m (.i x) (.i a) (.i b) k=k (.b (decide (a<=x/\x<=b))):=by
 obtain ⟨m,rfl⟩ : ∃ m',m=m'+1:=⟨m-1,by omega⟩
 simp only [bZ,T.ak]
 by_cases h:a<=x
 ·rw [aD (by simp [h])]; simp [h]
 ·rw [aO (by simp; omega)]; simp [h]
theorem gK {m:Nat} (hm:1<=m) (x a b:Int) (k:T->An):dB m (.i x) (.i a) (.i b) k=k (.b (decide (a<=x/\x<=b))):=by
 obtain ⟨m,rfl⟩ : ∃ m',m=m'+1:=⟨m-1,by omega⟩
 simp only [dB,T.ak]
 by_cases h:a<=x
 ·rw [aD (by simp [h])]; simp [h]
 ·rw [aO (by simp; omega)]; simp [h]
def Gs (b:UInt8):Bool:=(decide (97<=b.toNat)&&decide (b.toNat<=122))||(decide (48<=b.toNat)&&decide (b.toNat<=57))
def plain (s:ByteArray):Bool:=s.data.toList.all Gs
def DT (s:ByteArray):Bool:=plain s&&decide (1<=s.size/\s.size<=12)
theorem SA (pre:List UInt8) (x:UInt8) (post:List UInt8):(pre++x::post).getD (Int.toNat (pre.length:Int)) 0=x:=by simp [List.getD]
theorem akQ {m:Nat} (hm:1<=m) (x a b:Int) (k:T->An):bZ m (.i x) (.i a) (.i b) k=k (.b (decide (a<=x)&&decide (x<=b))):=by
 rw [nM hm,Bool.decide_and]
theorem aii {m:Nat} (hm:1<=m) (x a b:Int) (k:T->An):dB m (.i x) (.i a) (.i b) k=k (.b (decide (a<=x)&&decide (x<=b))):=by
 rw [gK hm,Bool.decide_and]
theorem aaH {m:Nat} (hm:1<=m) (b:UInt8) (k:T->An):uf m (.i (b.toNat:Int)) k=k (.b (Gs b)):=by
 obtain ⟨m,rfl⟩ : ∃ m',m=m'+1:=⟨m-1,by omega⟩
 have e1:decide ((b.toNat:Int)>=97)=decide (97<=b.toNat):=decide_eq_decide.2 (by omega)
 have e2:decide ((b.toNat:Int)<=122)=decide (b.toNat<=122):=decide_eq_decide.2 (by omega)
 have e3:decide ((b.toNat:Int)>=48)=decide (48<=b.toNat):=decide_eq_decide.2 (by omega)
 have e4:decide ((b.toNat:Int)<=57)=decide (b.toNat<=57):=decide_eq_decide.2 (by omega)
 simp only [uf,T.ak,e1,e2,e3,e4,Gs]
 cases decide (97<=b.toNat) <;> cases decide (b.toNat<=122) <;> cases decide (48<=b.toNat) <;> rfl
theorem QT (m:Nat) (hm:1<=m) (s:ByteArray) (hs:s.size<=4611686018427387904) : ∀ (post pre:List UInt8),s.data.toList=pre++post ->
  ∀ n,post.length<n->∀ k0 k1,lq m n (.s s) (.i pre.length) k0 k1=cond (post.all Gs) k1 (k0 (.b false))
 | [],pre,e,n,hn,k0,k1=>by
  obtain ⟨n,rfl⟩ : ∃ m',n=m'+1:=⟨n-1,by omega⟩
  have hz:=qp s
  rw [e] at hz
  simp only [lq,T.ak,T.dR]
  rw [aH (by simp at hz; omega)]
  rfl
 | x::post,pre,e,n,hn,k0,k1=>by
  obtain ⟨n,rfl⟩ : ∃ m',n=m'+1:=⟨n-1,by omega⟩
  have hz:=qp s
  rw [e] at hz
  simp only [List.length_append,List.length_cons] at hz hn
  simp only [lq,T.ak,T.dR,e,SA,ae1 pre x (by omega)]
  rw [au (by omega),au (by omega),aaH hm]
  have ih:=QT m hm s hs post (pre++[x]) (by rw [e]; simp) n (by omega) k0 k1
  cases hx:Gs x with
  | true=>simpa [hx] using ih
  | false=>simp [hx]
theorem agb {m:Nat} (s:ByteArray) (hs:s.size<=1048576) (hm:1048580<=m) (k:T->An):Jp m (.s s) k=k (.b (plain s)):=by
 obtain ⟨m,rfl⟩ : ∃ m',m=m'+1:=⟨m-1,by omega⟩
 have hz:=qp s
 refine (QT m (by omega) s (by omega) s.data.toList [] rfl m (by omega) (fun y=>k y) (k (.b true))).trans ?_
 unfold plain
 cases s.data.toList.all Gs <;> rfl
theorem aij {m:Nat} (hm:1<=m) (x:UInt8) (a b:Int) (k:T->An):bZ m (.i (IntKind.i64.wrap (x.toNat:Int))) (.i a) (.i b) k=k (.b (decide (a<=x.toNat)&&decide ((x.toNat:Int)<=b))):=by
 have hx:=x.toNat_lt
 rw [wrap_i64 (by omega) (by omega),akQ hm]
theorem Vw (m:Nat) (hm:1<=m) (s:ByteArray) (hs:s.size<=4611686018427387904) : ∀ (post pre:List UInt8),s.data.toList=pre++post ->
  ∀ n,post.length<n->∀ k0 k1,kg m n (.s s) (.i pre.length) k0 k1=cond (post.all Gs) (k1 (.s s)) (k0 (.b false))
 | [],pre,e,n,hn,k0,k1=>by
  obtain ⟨n,rfl⟩ : ∃ m',n=m'+1:=⟨n-1,by omega⟩
  have hz:=qp s
  rw [e] at hz
  simp only [kg,T.ak,T.dR]
  rw [aH (by simp at hz; omega)]
  rfl
 | x::post,pre,e,n,hn,k0,k1=>by
  obtain ⟨n,rfl⟩ : ∃ m',n=m'+1:=⟨n-1,by omega⟩
  have hz:=qp s
  rw [e] at hz
  simp only [List.length_append,List.length_cons] at hz hn
  simp only [kg,T.ak,T.dR,e,SA,ae1 pre x (by omega)]
  rw [au (by omega),au (by omega),aij hm,aij hm,au (by omega)]
  have ih:=Vw m hm s hs post (pre++[x]) (by rw [e]; simp) n (by omega) k0 k1
  have e1:decide ((97:Int)<=x.toNat)=decide (97<=x.toNat):=decide_eq_decide.2 (by omega)
  have e2:decide ((x.toNat:Int)<=122)=decide (x.toNat<=122):=decide_eq_decide.2 (by omega)
  have e3:decide ((48:Int)<=x.toNat)=decide (48<=x.toNat):=decide_eq_decide.2 (by omega)
  have e4:decide ((x.toNat:Int)<=57)=decide (x.toNat<=57):=decide_eq_decide.2 (by omega)
  simp only [e1,e2,e3,e4,List.all_cons,Gs,T.aT,ih]
  cases (decide (97<=x.toNat)&&decide (x.toNat<=122)) <;> cases (decide (48<=x.toNat)&&decide (x.toNat<=57)) <;> rfl
theorem YC (n:Nat):(decide ((1:Int)<=n)&&decide ((n:Int)<=12))=decide (1<=n/\n<=12):=by
 rw [Bool.decide_and]
 congr 1 <;> exact decide_eq_decide.2 (by omega)
theorem OD {m:Nat} (s:ByteArray) (hs:s.size<=1048576) (hm:1048580<=m) (k:T->An):FN m (.s s) k=k (.b (DT s)):=by
 obtain ⟨m,rfl⟩ : ∃ m',m=m'+1:=⟨m-1,by omega⟩
 have hz:=qp s
 refine (Vw m (by omega) s (by omega) s.data.toList [] rfl m (by omega) _ _).trans ?_
 simp only [T.dR,DT,plain]
 rw [akQ (by omega),YC]
 cases s.data.toList.all Gs <;> rfl
theorem OE {m:Nat} (s:ByteArray) (hs:s.size<=1048576) (hm:1048581<=m) (k:T->An):Ak m (.s s) k=k (.b (DT s)):=by
 obtain ⟨m,rfl⟩ : ∃ m',m=m'+1:=⟨m-1,by omega⟩
 simp only [Ak,T.dR,DT]
 rw [aii (by omega),YC,agb s hs (by omega)]
 cases decide (1<=s.size/\s.size<=12) <;> cases plain s <;> rfl
def blt (a b:ByteArray):Bool:=Op.bytesLess a.toList b.toList
theorem aik : ∀ a b:List UInt8,(Op.bytesLess a b||a==b) = !Op.bytesLess b a
 | [],[]=>rfl
 | [],y::b=>rfl
 | x::a,[]=>rfl
 | x::a,y::b=>by
  have ih:=aik a b
  simp only [Op.bytesLess,List.cons_beq_cons]
  rcases Nat.lt_trichotomy x.toNat y.toNat with h | h | h
  ·have h1:x<y:=UInt8.lt_iff_toNat_lt.2 h
   have h2 : ¬ y<x:=fun h'=>by have:=UInt8.lt_iff_toNat_lt.1 h'; omega
   have h3:(x==y)=false:=by simp; intro e; subst e; omega
   have h4:(y==x)=false:=by simp; intro e; subst e; omega
   simp [h1,h2,h3,h4]
  ·obtain rfl:x=y:=UInt8.toNat_inj.1 h
   have h2 : ¬ x<x:=fun h'=>by have:=UInt8.lt_iff_toNat_lt.1 h'; omega
   simp only [h2,decide_false,Bool.false_or,beq_self_eq_true,Bool.true_and,ih]
  ·have h1 : ¬ x<y:=fun h'=>by have:=UInt8.lt_iff_toNat_lt.1 h'; omega
   have h2:y<x:=UInt8.lt_iff_toNat_lt.2 h
   have h3:(x==y)=false:=by simp; intro e; subst e; omega
   simp [h1,h2,h3]
end Go.Proofs.YtpmbniddgaecpaaGreat

namespace Go.Proofs.YtpmbniddgaecpaaGreat
open Go Go.E Go.Proofs
def acn (h:Nat):List UInt8->Nat
 | []=>h
 | b::r=>acn (((h ^^^ b.toNat) * 16777619) % 4294967296) r
theorem wrap_u32 (x:Nat):IntKind.u32.wrap (x:Int)=((x % 4294967296:Nat):Int):=by
 have e32:(2:Int) ^ 32=4294967296:=by decide
 simp only [IntKind.wrap,IntKind.bits,IntKind.signed,Bool.false_and,Bool.false_eq_true,if_false,e32]
 omega
theorem Eu (w x:Nat):BitVec.ofInt w (x:Int)=BitVec.ofNat w x:=by simp
theorem aco {a b:Nat} (ha:a<4294967296) (hb:b<4294967296):a ^^^ b<4294967296:=Nat.xor_lt_two_pow (n:=32) ha hb
theorem alZ (h:Nat) (hh:h<4294967296) (b:UInt8) :
  IntKind.u32.wrap ((uR .u32 (BitVec.ofInt IntKind.u32.bits (h:Int) ^^^ BitVec.ofInt IntKind.u32.bits (IntKind.u32.wrap (b.toNat:Int)))).int * 16777619)=((((h ^^^ b.toNat) * 16777619) % 4294967296:Nat):Int):=by
 have hb:=b.toNat_lt
 have e1:b.toNat % 4294967296=b.toNat:=Nat.mod_eq_of_lt (by omega)
 have hx:=aco hh (show b.toNat<4294967296 by omega)
 simp only [uR,T.ak,wrap_u32,e1,Eu]
 have e2:(BitVec.ofNat IntKind.u32.bits h ^^^ BitVec.ofNat IntKind.u32.bits b.toNat).toNat=h ^^^ b.toNat:=by
  rw [BitVec.toNat_xor,BitVec.toNat_ofNat,BitVec.toNat_ofNat]
  show (h % 2 ^ 32) ^^^ (b.toNat % 2 ^ 32)=_
  rw [Nat.mod_eq_of_lt (by simpa using hh),Nat.mod_eq_of_lt (by omega)]
 rw [e2,Nat.mod_eq_of_lt hx,show (((h ^^^ b.toNat:Nat):Int) * 16777619)=(((h ^^^ b.toNat) * 16777619:Nat):Int) by rw [Int.natCast_mul]; rfl,wrap_u32]
theorem al0 (h:Nat) (hh:h<4294967296) (b:UInt8) :
  uR .i64 (BitVec.ofInt IntKind.i64.bits (IntKind.i64.wrap ((uR .i64 (BitVec.ofInt IntKind.i64.bits (h:Int) ^^^ BitVec.ofInt IntKind.i64.bits (IntKind.i64.wrap (b.toNat:Int)))).int * 16777619)) &&& BitVec.ofInt IntKind.i64.bits 4294967295) =
   .i ((((h ^^^ b.toNat) * 16777619) % 4294967296:Nat):Int):=by
 have hb:=b.toNat_lt
 have hx:=aco hh (show b.toNat<4294967296 by omega)
 rw [wrap_i64 (x:=(b.toNat:Int)) (by omega) (by omega)]
 have e2:(BitVec.ofInt IntKind.i64.bits (h:Int) ^^^ BitVec.ofInt IntKind.i64.bits (b.toNat:Int)).toNat=h ^^^ b.toNat:=by
  rw [Eu,Eu,BitVec.toNat_xor,BitVec.toNat_ofNat,BitVec.toNat_ofNat]
  show (h % 2 ^ 64) ^^^ (b.toNat % 2 ^ 64)=_
  rw [Nat.mod_eq_of_lt (by omega),Nat.mod_eq_of_lt (by omega)]
 simp only [uR,T.ak,e2]
 rw [wrap_i64 (x:=((h ^^^ b.toNat:Nat):Int)) (by omega) (by omega),show (((h ^^^ b.toNat:Nat):Int) * 16777619)=(((h ^^^ b.toNat) * 16777619:Nat):Int) by rw [Int.natCast_mul]; rfl,
  wrap_i64 (x:=(((h ^^^ b.toNat) * 16777619:Nat):Int)) (by omega) (by omega)]
 have e3:(BitVec.ofInt IntKind.i64.bits (((h ^^^ b.toNat) * 16777619:Nat):Int) &&& BitVec.ofInt IntKind.i64.bits 4294967295).toNat=((h ^^^ b.toNat) * 16777619) % 4294967296:=by
  rw [Eu,show (4294967295:Int)=((4294967295:Nat):Int) from rfl,Eu,BitVec.toNat_and,BitVec.toNat_ofNat,BitVec.toNat_ofNat]
  show (((h ^^^ b.toNat) * 16777619) % 2 ^ 64) &&& (4294967295 % 2 ^ 64)=_
  rw [Nat.mod_eq_of_lt (by omega)]
  exact Nat.and_two_pow_sub_one_eq_mod _ 32
 rw [e3]
 rw [wrap_i64 (by omega) (by omega)]
theorem LJ (m:Nat) (s:ByteArray) (hs:s.size<=4611686018427387904) : ∀ (post pre:List UInt8) (h:Nat),h<4294967296->s.data.toList=pre++post->∀ n,post.length<n->∀ k0,
  nS m n (.s s) (.i h) (.i pre.length) k0=k0 (.i (acn h post:Nat))
 | [],pre,h,hh,e,n,hn,k0=>by
  obtain ⟨n,rfl⟩ : ∃ m',n=m'+1:=⟨n-1,by omega⟩
  have hz:=qp s
  rw [e] at hz
  simp only [nS,T.ak,T.dR]
  rw [aH (by simp at hz; omega)]
  rfl
 | x::post,pre,h,hh,e,n,hn,k0=>by
  obtain ⟨n,rfl⟩ : ∃ m',n=m'+1:=⟨n-1,by omega⟩
  have hz:=qp s
  rw [e] at hz
  simp only [List.length_append,List.length_cons] at hz hn
  simp only [nS,T.ak,T.dR,e,SA,bA pre (by omega),alZ h hh x]
  rw [au (by omega),au (by omega)]
  have ih:=LJ m s hs post (pre++[x]) _ (Nat.mod_lt ((h ^^^ x.toNat) * 16777619) (by omega)) (by rw [e]; simp) n (by omega) k0
  rw [aG] at ih
  exact ih
theorem LK (m:Nat) (s:ByteArray) (hs:s.size<=4611686018427387904) : ∀ (post pre:List UInt8) (h:Nat),h<4294967296->s.data.toList=pre++post->∀ n,post.length<n->∀ k0,
  nP m n (.s s) (.i h) (.i pre.length) k0=k0 (.i (acn h post:Nat))
 | [],pre,h,hh,e,n,hn,k0=>by
  obtain ⟨n,rfl⟩ : ∃ m',n=m'+1:=⟨n-1,by omega⟩
  have hz:=qp s
  rw [e] at hz
  simp only [nP,T.ak,T.dR]
  rw [aH (by simp at hz; omega)]
  rfl
 | x::post,pre,h,hh,e,n,hn,k0=>by
  obtain ⟨n,rfl⟩ : ∃ m',n=m'+1:=⟨n-1,by omega⟩
  have hz:=qp s
  rw [e] at hz
  simp only [List.length_append,List.length_cons] at hz hn
  simp only [nP,T.ak,T.dR,e,SA,bA pre (by omega),al0 h hh x]
  rw [au (by omega),au (by omega)]
  have ih:=LK m s hs post (pre++[x]) _ (Nat.mod_lt ((h ^^^ x.toNat) * 16777619) (by omega)) (by rw [e]; simp) n (by omega) k0
  rw [aG] at ih
  exact ih
theorem acp : ∀ (l:List UInt8) (h:Nat),h<4294967296->acn h l<4294967296
 | [],h,hh=>hh
 | b::r,h,hh=>acp r _ (Nat.mod_lt _ (by omega))
def acr (s:ByteArray):Nat:=acn 2166136261 s.data.toList
theorem acs (s:ByteArray):acr s<4294967296:=acp _ _ (by omega)
theorem acu {m:Nat} (s:ByteArray) (hs:s.size<=1048576) (hm:1048580<=m) (k:T->An):PU m (.s s) k=k (.i (acr s:Nat)):=by
 obtain ⟨m,rfl⟩ : ∃ m',m=m'+1:=⟨m-1,by omega⟩
 have hz:=qp s
 have hl:=acs s
 refine (LJ m s (by omega) s.data.toList [] 2166136261 (by omega) rfl m (by omega) _).trans ?_
 rw [T.ak]
 exact congrArg (fun x=>k (T.i x)) (wrap_i64 (x:=(acr s:Nat)) (by omega) (by omega))
theorem acv {m:Nat} (s:ByteArray) (hs:s.size<=1048576) (hm:1048580<=m) (k:T->An):PD m (.s s) k=k (.i (acr s:Nat)):=by
 obtain ⟨m,rfl⟩ : ∃ m',m=m'+1:=⟨m-1,by omega⟩
 have hz:=qp s
 exact LK m s (by omega) s.data.toList [] 2166136261 (by omega) rfl m (by omega) _
def oz (s:ByteArray) (n:Int):Nat:=if n<1 then 0 else acr s % n.toNat
theorem amz (s:ByteArray) (n:Int):oz s n<4294967296:=by
 unfold oz
 split
 ·omega
 ·exact Nat.lt_of_le_of_lt (Nat.mod_le _ _) (acs s)
theorem OG {m:Nat} (s:ByteArray) (n:Int) (hs:s.size<=1048576) (hm:1048585<=m) (k:T->An):ug m (.s s) (.i n) k=k (.i (oz s n:Nat)):=by
 obtain ⟨m,rfl⟩ : ∃ m',m=m'+1:=⟨m-1,by omega⟩
 simp only [ug,T.ak]
 unfold oz
 by_cases h:n<1
 ·rw [au h,if_pos h]; rfl
 ·obtain ⟨j,rfl⟩ : ∃ j:Nat,n=j:=⟨n.toNat,by omega⟩
  rw [aH h,acu s hs (by omega),if_neg h,aD (by simp; omega)]
  rw [T.ak,<-Int.ofNat_tmod]; rfl
theorem Gt {m:Nat} (s:ByteArray) (n:Int) (hs:s.size<=1048576) (hm:1048585<=m) (k:T->An):qy m (.s s) (.i n) k=k (.i (oz s n:Nat)):=by
 obtain ⟨m,rfl⟩ : ∃ m',m=m'+1:=⟨m-1,by omega⟩
 simp only [qy,T.ak]
 unfold oz
 by_cases h:n<1
 ·rw [au h,if_pos h]; rfl
 ·obtain ⟨j,rfl⟩ : ∃ j:Nat,n=j:=⟨n.toNat,by omega⟩
  rw [aH h,acv s hs (by omega),if_neg h,aD (by simp; omega)]
  rw [T.ak,<-Int.ofNat_tmod]; rfl
end Go.Proofs.YtpmbniddgaecpaaGreat

namespace Go.Proofs.YtpmbniddgaecpaaGreat
open Go Go.E Go.Proofs
theorem Vx : ∀ {l l':List Int},l.Pairwise (· < ·)->l'.Pairwise (· < ·)->(∀ x,x∈l ↔ x∈l')->l=l'
 | [],[],_,_,_=>rfl
 | [],b::l',_,_,h=>by have:=(h b).2 (by simp); cases this
 | a::l,[],_,_,h=>by have:=(h a).1 (by simp); cases this
 | a::l,b::l',h1,h2,h=>by
  rw [List.pairwise_cons] at h1 h2
  have hab:a=b:=by
   have ha:=(h a).1 (by simp)
   have hb:=(h b).2 (by simp)
   rcases List.mem_cons.1 ha with e | ha
   ·exact e
   ·rcases List.mem_cons.1 hb with e | hb
    ·exact e.symm
    ·have:=h1.1 b hb; have:=h2.1 a ha; omega
  subst hab
  congr 1
  refine Vx h1.2 h2.2 fun x=>⟨fun hx=>?_,fun hx=>?_⟩
  ·rcases List.mem_cons.1 ((h x).1 (List.mem_cons_of_mem _ hx)) with e | hx'
   ·subst e; have:=h1.1 x hx; omega
   ·exact hx'
  ·rcases List.mem_cons.1 ((h x).2 (List.mem_cons_of_mem _ hx)) with e | hx'
   ·subst e; have:=h2.1 x hx; omega
   ·exact hx'
def PZ (n:Int):List Int->List Int->List Int
 | [],s=>n::s
 | p::r,s=>if p > n then PZ n r (p::s) else (p::r).reverse++n::s
theorem acw (n x:Int) : ∀ (r s:List Int),x∈PZ n r s ↔ x=n\/x∈r\/x∈s
 | [],s=>by simp [PZ]
 | p::r,s=>by
  unfold PZ
  split
  ·rw [acw n x r (p::s)]; simp only [List.mem_cons]; grind
  ·simp only [List.mem_append,List.mem_reverse,List.mem_cons]; grind
theorem QU (n:Int) : ∀ (r s:List Int),(r.reverse++s).Pairwise (· < ·)->n ∉ r->(∀ x∈s,n<x)->(PZ n r s).Pairwise (· < ·)
 | [],s,h,_,hs=>by
  simp only [PZ,List.pairwise_cons]
  exact ⟨hs,by simpa using h⟩
 | p::r,s,h,hn,hs=>by
  simp only [List.mem_cons,not_or] at hn
  unfold PZ
  split
  ·rename_i hp
   refine QU n r (p::s) (by simpa using h) hn.2 fun x hx=>?_
   rcases List.mem_cons.1 hx with rfl | hx
   ·exact hp
   ·exact hs x hx
  ·rename_i hp
   rw [List.pairwise_append] at h ⊢
   have h0:=h.1
   rw [List.reverse_cons,List.pairwise_append] at h0
   refine ⟨h.1,List.pairwise_cons.2 ⟨hs,h.2.1⟩,fun a ha b hb=>?_⟩
   have hpn:p<n:=by omega
   have hap:a<=p:=by
    rw [List.reverse_cons,List.mem_append] at ha
    rcases ha with ha | ha
    ·have:=h0.2.2 a ha p (by simp); omega
    ·have:a=p:=by simpa using ha
     omega
   rcases List.mem_cons.1 hb with rfl | hb
   ·omega
   ·have:=hs b hb; omega
def MF (l:List Int) (n:Int):List Int:=if n∈l then l else PZ n l.reverse []
theorem ail (l:List Int) (n x:Int):x∈MF l n ↔ x=n\/x∈l:=by
 unfold MF
 split
 ·grind
 ·rw [acw]; simp
theorem acy (l:List Int) (n:Int) (h:l.Pairwise (· < ·)):(MF l n).Pairwise (· < ·):=by
 unfold MF
 split
 ·exact h
 ·exact QU n _ _ (by simpa using h) (by simpa using ‹_›) (fun x h=>(nomatch h))
def Co:List Int->List Int->List Int
 | acc,[]=>acc
 | acc,x::xs=>Co (MF acc x) xs
theorem P5 (y:Int) : ∀ (xs acc:List Int),y∈Co acc xs ↔ y∈acc\/y∈xs
 | [],acc=>by simp [Co]
 | x::xs,acc=>by
  simp only [Co]
  rw [P5 y xs,ail]; simp only [List.mem_cons]; grind
theorem OH : ∀ (xs acc:List Int),acc.Pairwise (· < ·)->(Co acc xs).Pairwise (· < ·)
 | [],acc,h=>h
 | x::xs,acc,h=>OH xs _ (acy acc x h)
theorem acz (n:Int) : ∀ (r s:List Int),(PZ n r s).length=r.length+s.length+1
 | [],s=>by simp [PZ]
 | p::r,s=>by
  unfold PZ
  split
  ·rw [acz n r (p::s)]; simp; omega
  ·simp; omega
theorem Vy (l:List Int) (n:Int):(MF l n).length<=l.length+1:=by
 unfold MF
 split
 ·omega
 ·rw [acz]; simp
theorem YD : ∀ (xs acc:List Int),(Co acc xs).length<=acc.length+xs.length
 | [],acc=>by simp [Co]
 | x::xs,acc=>by
  have:=YD xs (MF acc x)
  have:=Vy acc x
  simp only [Co,List.length_cons]; omega
theorem Vz (d:Array Int) (hs : ∀ i j,i<=j->j<d.size->d[i]!<=d[j]!) : ∀ m,m<=d.size->(Lib.compactUpTo d m).Pairwise (· < ·)/\(∀ x,x∈Lib.compactUpTo d m ↔ ∃ j,j<m/\d[j]! = x)
 | 0,_=>by simp [Lib.compactUpTo]
 | m+1,hm=>by
  obtain ⟨h1,h2⟩:=Vz d hs m (by omega)
  rw [Lib.compactUpTo_succ]
  cases hk:Lib.keeps d m with
  | true =>
   simp only [if_true]
   refine ⟨List.pairwise_append.2 ⟨h1,by simp,fun a ha b hb=>?_⟩,fun x=>?_⟩
   ·have:b=d[m]!:=by simpa using hb
    subst this
    obtain ⟨j,hj,rfl⟩:=(h2 a).1 ha
    have hk:=of_decide_eq_true hk
    have e1:=hs j (m-1) (by omega) (by omega)
    have e2:=hs (m-1) m (by omega) (by omega)
    have e3:d[m]! ≠ d[m-1]!:=hk.resolve_left (by omega)
    omega
   ·rw [List.mem_append,h2]
    constructor
    ·rintro (⟨j,hj,e⟩ | e)
     ·exact ⟨j,by omega,e⟩
     ·exact ⟨m,by omega,(List.mem_singleton.1 e).symm⟩
    ·rintro ⟨j,hj,e⟩
     by_cases h:j=m
     ·subst h; right; simp [e]
     ·left; exact ⟨j,by omega,e⟩
  | false =>
   have hk:=of_decide_eq_false hk
   simp only [not_or,Decidable.not_not] at hk
   simp only [Bool.false_eq_true,if_false,List.append_nil]
   refine ⟨h1,fun x=>?_⟩
   rw [h2]
   constructor
   ·rintro ⟨j,hj,e⟩; exact ⟨j,by omega,e⟩
   ·rintro ⟨j,hj,e⟩
    by_cases h:j=m
    ·subst h; exact ⟨j-1,by omega,by rw [<-hk.2]; exact e⟩
    ·exact ⟨j,by omega,e⟩
theorem agc (xs:List Int):Lib.compact (xs.mergeSort fun x y=>decide (x<=y))=Co [] xs:=by
 have hp:=List.pairwise_mergeSort (le:=fun x y:Int=>decide (x<=y)) (by intro a b c h1 h2; simp at *; omega) (by intro a b; simp; omega) xs
 have hperm:=List.mergeSort_perm xs fun x y=>decide (x<=y)
 obtain ⟨h1,h2⟩:=Vz (xs.mergeSort fun x y=>decide (x<=y)).toArray (fun i j hij hj=>by
  simp only [List.size_toArray] at hj
  rw [getElem!_pos _ i (by simp only [List.size_toArray]; omega),getElem!_pos _ j (by simp only [List.size_toArray]; omega)]
  by_cases h:i=j
  ·subst h; omega
  ·have:=List.pairwise_iff_getElem.1 hp i j (by omega) hj (by omega)
   simpa using this) (xs.mergeSort fun x y=>decide (x<=y)).length (by simp)
 refine Vx h1 (OH xs [] (by simp)) fun x=>?_
 show x∈Lib.compactUpTo _ _ ↔ _
 rw [h2,P5]
 simp only [List.not_mem_nil,false_or]
 rw [<-hperm.mem_iff (a:=x)]
 constructor
 ·rintro ⟨j,hj,e⟩
  rw [getElem!_pos _ j (by simpa using hj)] at e
  rw [<-e]; simp
 ·intro hx
  obtain ⟨j,hj,e⟩:=List.mem_iff_getElem.1 hx
  exact ⟨j,hj,by rw [getElem!_pos _ j (by simpa using hj)]; simpa using e⟩
end Go.Proofs.YtpmbniddgaecpaaGreat

namespace Go.Proofs.YtpmbniddgaecpaaGreat
open Go Go.E Go.Proofs
theorem P6 (a b:List Int):ir (a++b)=ir a++ir b:=by simp [ir]
theorem afh (x:Int) (b:List Int):ir (x::b)=kF x::ir b:=rfl
theorem al1 (x:Int):[[T.i x]]=ir [x]:=rfl
theorem acA (m:Nat) (x:Int) : ∀ (post pre:List Int),pre.length+post.length<=4611686018427387->∀ n,post.length<n->∀ k0 k1,
  mP m n (.l (ir (pre++post))) (.i x) (.i pre.length) k0 k1=cond (decide (x∈post)) (k0 (.b true)) k1
 | [],pre,hs,n,hn,k0,k1=>by
  obtain ⟨n,rfl⟩ : ∃ m',n=m'+1:=⟨n-1,by omega⟩
  simp only [mP,T.ak,T.ah]
  rw [aH (by simp [gD]),aH (by simp)]
 | y::post,pre,hs,n,hn,k0,k1=>by
  obtain ⟨n,rfl⟩ : ∃ m',n=m'+1:=⟨n-1,by omega⟩
  simp only [List.length_cons] at hs hn
  have ih:=acA m x post (pre++[y]) (by simp; omega) n (by omega) k0 k1
  have e1:(ir (pre++y::post)).getD (Int.toNat (pre.length:Int)) []=kF y:=by
   have:=iA (ir pre) (kF y) (ir post)
   rw [gD] at this
   rw [P6,afh]; exact this
  simp only [mP,T.ak,T.ah,e1,bA pre (by omega)]
  rw [au (by simp [gD]; omega),au (by simp [gD]; omega)]
  simp only [List.append_assoc,List.cons_append,List.nil_append,aG] at ih
  simp only [kF,List.getD_cons_zero,T.ak]
  by_cases h:y=x
  ·subst h
   rw [aD (by simp),au (by simp)]
  ·rw [aO (beq_eq_false_iff_ne.2 h),ih]
   by_cases h2:x∈post
   ·rw [au h2,au (by simp [h2])]
   ·rw [aH h2,aH (by simp [h2,Ne.symm h])]
theorem aaI {m:Nat} (l:List Int) (x:Int) (hl:l.length<=1048576) (hm:1048580<=m) (k:T->An):vk m (.l (ir l)) (.i x) k=k (.b (decide (x∈l))):=by
 obtain ⟨m,rfl⟩ : ∃ m',m=m'+1:=⟨m-1,by omega⟩
 refine (acA m x l [] (by simp; omega) m (by omega) _ _).trans ?_
 by_cases h:x∈l
 ·rw [au h,decide_eq_true h]
 ·rw [aH h,decide_eq_false h]
theorem aaJ (a:List Int) (x:Int) (b:List (List T)):(ir a++kF x::b).getD a.length []=kF x:=by
 rw [<-gD a]; simp [List.getD]
theorem afi (a:List Int) (x:List T) (y:List T) (b:List (List T)):(ir a++x::b).set a.length y=ir a++y::b:=by
 rw [<-gD a]; simp [List.set_append]
def adY (k:T->An):T->T->T->An:=fun y1 y2 y3=>cond (decide ((0:Int)<=y2.int/\y2.int<(y3.rows.length:Int)))
  (cond (decide ((Int.toNat y2.int)<y3.rows.length))
  (k (T.l (y3.rows.set (Int.toNat y2.int) ((y3.rows.getD (Int.toNat y2.int) []).set 0 y1))))
  (.bad))
  (.bad)
theorem YE (k:T->An) (a:List Int) (x z:Int) (s:List Int):adY k (.i x) (.i a.length) (.l (ir a++kF z::ir s))=k (.l (ir (a++x::s))):=by
 simp only [adY,T.ak,T.ah,Int.toNat_natCast]
 rw [au (by simp [gD]; omega),au (by simp [gD]),aaJ,afi,P6,afh]
 rfl
theorem acB (m:Nat) (x:Int) (k:T->An) : ∀ (r s:List Int) (z:Int),r.length+s.length<=4611686018427387->∀ n,r.length<n ->
  mQ m n (.i x) (.i r.length) (.l (ir r.reverse++kF z::ir s)) (adY k)=k (.l (ir (PZ x r s)))
 | [],s,z,hs,n,hn=>by
  obtain ⟨n,rfl⟩ : ∃ m',n=m'+1:=⟨n-1,by omega⟩
  simp only [mQ,jn,T.ak,T.ah,List.length_nil,List.reverse_nil]
  rw [aO (by simp)]
  exact YE k [] x z s
 | p::r,s,z,hs,n,hn=>by
  obtain ⟨n,rfl⟩ : ∃ m',n=m'+1:=⟨n-1,by omega⟩
  simp only [List.length_cons] at hs hn
  have ih:=acB m x k r (p::s) p (by simp; omega) n (by omega)
  have e0:IntKind.i64.wrap (((r.length+1:Nat):Int)-1)=(r.length:Int):=by rw [wrap_i64 (by omega) (by omega)]; omega
  have e1:ir (p::r).reverse++kF z::ir s=ir r.reverse++kF p::kF z::ir s:=by
   rw [List.reverse_cons,P6]; simp [ir]
  have e2:(ir r.reverse++kF p::kF z::ir s).getD r.length []=kF p:=by
   have:=aaJ r.reverse p (kF z::ir s)
   rwa [List.length_reverse] at this
  have e4:(ir r.reverse++kF p::kF z::ir s).getD (r.length+1) []=kF z:=by
   have:=aaJ (r.reverse++[p]) z (ir s)
   rw [P6] at this
   simpa [ir] using this
  have e5:(ir r.reverse++kF p::kF z::ir s).set (r.length+1) (kF p)=ir r.reverse++kF p::ir (p::s):=by
   have:=afi (r.reverse++[p]) (kF z) (kF p) (ir s)
   rw [P6] at this
   simpa [ir] using this
  have e6:(ir r.reverse++kF p::kF z::ir s).length=r.length+s.length+2:=by simp [gD]; omega
  simp only [mQ,jn,T.ak,T.ah,List.length_cons,e0,e1,Int.toNat_natCast,e2,e4,e6]
  rw [aD (by simp),au (by omega),au (by omega)]
  have e7:((kF p).getD 0 dflt).int=p:=rfl
  have e8:(kF z).set 0 ((kF p).getD 0 dflt)=kF p:=rfl
  rw [e7,e8]
  unfold PZ
  by_cases hp:p > x
  ·rw [au hp,au (by omega),au (by omega),au (by omega),au (by omega),e5,if_pos hp]
   exact ih
  ·rw [aH hp,if_neg hp,<-e1]
   have:=YE k (p::r).reverse x z s
   rw [List.length_reverse,List.length_cons] at this
   exact this
theorem ain {m:Nat} (l:List Int) (x:Int) (hl:l.length<=1048576) (hm:1048600<=m) (k:T->An):z8 m (.l (ir l)) (.i x) k=k (.l (ir (MF l x))):=by
 obtain ⟨m,rfl⟩ : ∃ m',m=m'+1:=⟨m-1,by omega⟩
 simp only [z8,T.ah,gD]
 rw [aaI l x hl (by omega)]
 simp only [T.aT]
 unfold MF
 by_cases h:x∈l
 ·rw [au h,if_pos h]
 ·rw [aH h,if_neg h,au (by unfold aS; omega),au (by unfold aS; omega)]
  have e1:IntKind.i64.wrap (((ir l++[[T.i x]]).length:Nat)-1:Int)=(l.reverse.length:Int):=by
   rw [wrap_i64 (by first | (simp [gD]; done) | (simp [gD]; omega)) (by first | (simp [gD]; done) | (simp [gD]; omega))]; simp [gD]
  rw [e1]
  have:=acB m x k l.reverse [] x (by simp; omega) m (by simp; omega)
  rw [List.reverse_reverse] at this
  exact this
def JN (ops:List (List T)) (n:Int):List Int:=ops.map fun r=>((oz (r.getD 1 dflt).str n:Nat):Int)
def acC (r:List T):Prop:=∃ (a:Int) (x y:ByteArray),r=[.i a,.s x,.s y]/\x.size<=1048576
theorem QV (m:Nat) (hm:1048700<=m) (x1:Int) (k1:T->An) : ∀ (post pre:List (List T)) (acc:List Int),(∀ r∈post,acC r)->acc.length+post.length<=1048576->pre.length+post.length<=1048576->∀ n,post.length<n->∀ k0,
  iQ m n (.l (pre++post)) (.i x1) (.l (ir acc)) (.i pre.length) k0 k1=k0 (.l (ir (Co acc (JN post x1))))
 | [],pre,acc,_,hs,hs2,n,hn,k0=>by
  obtain ⟨n,rfl⟩ : ∃ m',n=m'+1:=⟨n-1,by omega⟩
  simp only [iQ,T.ak,T.ah]
  rw [aH (by simp)]
  rfl
 | x::post,pre,acc,ho,hs,hs2,n,hn,k0=>by
  obtain ⟨n,rfl⟩ : ∃ m',n=m'+1:=⟨n-1,by omega⟩
  simp only [List.length_cons] at hs hs2 hn
  obtain ⟨a,key,val,rfl,hk⟩:=ho x (by simp)
  have hpl:=Vy acc ((oz key x1:Nat):Int)
  have ih:=QV m hm x1 k1 post (pre++[[.i a,.s key,.s val]]) (MF acc ((oz key x1:Nat):Int)) (fun r hr=>ho r (by simp [hr])) (by omega) (by simp; omega) n (by omega) k0
  simp only [iQ,T.ak,T.ah,iA,bA pre (by omega),List.drop_succ_cons,List.drop_zero,List.getD_cons_zero]
  rw [au (by simp; omega),au (by simp; omega),Gt key x1 hk (by omega),ain acc _ (by omega) (by omega)]
  simp only [List.append_assoc,List.cons_append,List.nil_append,aG] at ih
  simp only [T.ah]
  exact ih
theorem agd {m:Nat} (ops:List (List T)) (n:Int) (ho : ∀ r∈ops,acC r) (hl:ops.length<=1048576) (hm:1048710<=m) (k:T->An):nA m (.l ops) (.i n) k=k (.l (ir (Co [] (JN ops n)))):=by
 obtain ⟨m,rfl⟩ : ∃ m',m=m'+1:=⟨m-1,by omega⟩
 obtain ⟨m',rfl⟩ : ∃ m',m=m'+1:=⟨m-1,by omega⟩
 simp only [nA,T.ah]
 cases ops with
 | nil =>
  simp only [oh,T.ak,T.ah]
  rw [aH (by simp)]
  rfl
 | cons x post =>
  simp only [List.length_cons] at hl
  obtain ⟨a,key,val,rfl,hk⟩:=ho x (by simp)
  have hpl:=Vy [] ((oz key n:Nat):Int)
  simp only [List.length_nil] at hpl
  have e:=QV (m'+1) (by omega) n (fun y5=>k (T.l y5.rows)) post [[.i a,.s key,.s val]] (MF [] ((oz key n:Nat):Int)) (fun r hr=>ho r (by simp [hr])) (by omega) (by simp; omega) m' (by omega) (fun y4=>k (T.l y4.rows))
  simp only [oh,T.ak,T.ah,List.length_cons]
  rw [au (by omega),au (by omega)]
  have e1:([.i a,.s key,.s val]::post).getD (Int.toNat 0) []=[.i a,.s key,.s val]:=rfl
  rw [e1]
  simp only [List.drop_succ_cons,List.drop_zero,List.getD_cons_zero]
  rw [Gt key n hk (by omega)]
  have e2:=ain (m:=m'+1) [] ((oz key n:Nat):Int) (by simp) (by omega)
  have e3:(T.l []:T) = .l (ir []):=rfl
  rw [e3,e2]
  simp only [T.ah]
  have e4:IntKind.i64.wrap (0+1)=(([[T.i a,.s key,.s val]].length:Nat):Int):=(by decide:IntKind.i64.wrap (0+1)=((1:Nat):Int))
  rw [e4]
  exact e
theorem QW (m:Nat) (hm:1048700<=m) (x0:Int) : ∀ (post pre:List (List T)) (acc:List Int),(∀ r∈post,acC r)->acc.length+post.length<=1048576->pre.length+post.length<=1048576->∀ n,post.length<n->∀ k0,
  je m n (.i x0) (.l (pre++post)) (.i (pre++post).length) (.i pre.length) (.l (ir acc)) k0=k0 (.l (ir (acc++JN post x0)))
 | [],pre,acc,_,hs,hs2,n,hn,k0=>by
  obtain ⟨n,rfl⟩ : ∃ m',n=m'+1:=⟨n-1,by omega⟩
  simp only [je,T.ak,T.ah]
  rw [aH (by simp)]
  simp [JN]
 | x::post,pre,acc,ho,hs,hs2,n,hn,k0=>by
  obtain ⟨n,rfl⟩ : ∃ m',n=m'+1:=⟨n-1,by omega⟩
  simp only [List.length_cons] at hs hs2 hn
  obtain ⟨a,key,val,rfl,hk⟩:=ho x (by simp)
  have ih:=QW m hm x0 post (pre++[[.i a,.s key,.s val]]) (acc++[((oz key x0:Nat):Int)]) (fun r hr=>ho r (by simp [hr])) (by simp; omega) (by simp; omega) n (by omega) k0
  simp only [je,T.ak,T.ah,iA,bA pre (by omega),List.getD_cons_succ,List.getD_cons_zero]
  rw [au (by simp; omega),au (by simp; omega),OG key x0 hk (by omega),au (by rw [gD]; unfold aS; omega)]
  simp only [List.append_assoc,List.cons_append,List.nil_append,aG] at ih
  rw [al1,<-P6]
  exact ih
theorem agf {m:Nat} (ops:List (List T)) (n:Int) (ho : ∀ r∈ops,acC r) (hl:ops.length<=1048576) (hm:1048710<=m) (k:T->An):oM m (.l ops) (.i n) k=k (.l (ir (Co [] (JN ops n)))):=by
 obtain ⟨m,rfl⟩ : ∃ m',m=m'+1:=⟨m-1,by omega⟩
 simp only [oM,T.ah]
 refine (QW m (by omega) n ops [] [] ho (by simp; omega) (by simp; omega) m (by omega) _).trans ?_
 obtain ⟨m,rfl⟩ : ∃ m',m=m'+1:=⟨m-1,by omega⟩
 simp only [List.nil_append,T.ah,Iz,slices_Compact,om]
 have e1:zH (ir (JN ops n))=ir ((JN ops n).mergeSort fun x y=>decide (x<=y)):=Uo _
 have e2:pO (ir ((JN ops n).mergeSort fun x y=>decide (x<=y)))=ir (Co [] (JN ops n)):=(KJ _).trans (congrArg (List.map kF) (agc _))
 rw [e1,e2,au (by omega),au (by omega),Int.toNat_natCast,List.take_length]
end Go.Proofs.YtpmbniddgaecpaaGreat

namespace Go.Proofs.YtpmbniddgaecpaaGreat
open Go Go.E Go.Proofs
abbrev rO (l:List iC):List (List T):=l.map iC.r
theorem nD (l:List iC):(rO l).length=l.length:=by simp
def dS (ops:List iC) (n:Int):List Int:=Co [] (ops.map fun o=>((oz o.key n:Nat):Int))
theorem afj (ops:List iC) (n:Int):JN (rO ops) n=ops.map fun o=>((oz o.key n:Nat):Int):=by
 unfold JN; rw [List.map_map]; rfl
theorem qQ.rows {l:List iC} (h:qQ l) : ∀ r∈rO l,acC r:=fun r hr=>by
 obtain ⟨o,ho,rfl⟩:=List.mem_map.1 hr
 exact ⟨o.kind,o.key,o.val,rfl,(h.2 o ho).1⟩
theorem VB {m:Nat} (hm:1048710<=m) (ops:List iC) (n:Int) (h:qQ ops) (k:T->An):nA m (.l (rO ops)) (.i n) k=k (.l (ir (dS ops n))):=by
 rw [agd (rO ops) n h.rows (by rw [nD]; exact h.1) hm,afj]; rfl
theorem VD {m:Nat} (hm:1048710<=m) (ops:List iC) (n:Int) (h:qQ ops) (k:T->An):oM m (.l (rO ops)) (.i n) k=k (.l (ir (dS ops n))):=by
 rw [agf (rO ops) n h.rows (by rw [nD]; exact h.1) hm,afj]; rfl
theorem ixO (pre:List iC) (x:iC) (post:List iC):(rO (pre++x::post)).getD (Int.toNat (pre.length:Int)) []=x.r:=by simp [List.getD]
theorem anD (pre:List iC) (q x:iC) (post:List iC):(rO (pre++q::x::post)).getD (Int.toNat (pre.length:Int)) []=q.r:=by simp [List.getD]
theorem o0 (x:iC):x.r.getD 0 dflt = .i x.kind:=rfl
theorem o1 (x:iC):x.r.getD 1 dflt = .s x.key:=rfl
theorem o2 (x:iC):x.r.getD 2 dflt = .s x.val:=rfl
theorem od1 (x:iC):(x.r.drop 1).getD 0 dflt = .s x.key:=rfl
theorem akR (x:iC):[T.i x.kind,T.s x.key,T.s x.val]=x.r:=rfl
def emp:ByteArray:=⟨#[]⟩
theorem aio {s:ByteArray} (h:(s.toList==emp.toList)=true):s.size=0:=by
 have h1:s.toList=emp.toList:=by simpa using h
 have h2:s.data.toList=emp.data.toList:=by rw [ByteArray.toList_eq,ByteArray.toList_eq] at h1; exact h1
 rw [qp,h2]; rfl
def VE (o:iC):Bool:=if o.kind=1\/o.kind=3 then DT o.key&&decide (o.val.size<=20) else if o.kind=2 then DT o.key&&(o.val.toList==emp.toList) else false
theorem agh {m:Nat} (hm:1048590<=m) (o:iC) (ho:BOp o) (k:T->An):Ki m (.i o.kind) (.s o.key) (.s o.val) k=k (.b (VE o)):=by
 obtain ⟨m,rfl⟩ : ∃ m',m=m'+1:=⟨m-1,by omega⟩
 have e20:decide ((o.val.size:Int)<=20)=decide (o.val.size<=20):=decide_eq_decide.2 (by omega)
 simp only [Ki,T.ak,T.dR,show (⟨#[]⟩:ByteArray)=emp from rfl]
 rw [nM (by omega)]
 simp only [T.aT]
 unfold VE
 by_cases h1:o.kind=1\/o.kind=3
 ·rw [if_pos h1,decide_eq_true (by omega),aD (by rfl),aO (by simp; omega),OD o.key ho.1 (by omega)]
  simp only [T.aT,e20]
  cases DT o.key <;> rfl
 ·rw [if_neg h1]
  by_cases h2:o.kind=2
  ·rw [if_pos h2,decide_eq_true (by omega),aD (by rfl),aD (by simp [h2])]
   cases he:o.val.toList==emp.toList with
   | false=>simp
   | true =>
    have:=aio he
    simp only [Bool.not_true,cond_false]
    rw [OD o.key ho.1 (by omega)]
    simp only [T.aT,e20,this]
    cases DT o.key <;> rfl
  ·rw [if_neg h2,decide_eq_false (by omega)]
   rfl
theorem agi {m:Nat} (hm:1048590<=m) (o:iC) (ho:BOp o) (k:T->An):Km m (.i o.kind) (.s o.key) (.s o.val) k=k (.b (VE o)):=by
 obtain ⟨m,rfl⟩ : ∃ m',m=m'+1:=⟨m-1,by omega⟩
 have e20:decide ((o.val.size:Int)<=20)=decide (o.val.size<=20):=decide_eq_decide.2 (by omega)
 simp only [Km,jn1,T.ak,T.dR,show (⟨#[]⟩:ByteArray)=emp from rfl]
 have e1:(cond (o.kind==1) (T.b true) (T.b (o.kind==3)))=T.b (decide (o.kind=1\/o.kind=3)):=by
  by_cases h1:o.kind=1
  ·simp [h1]
  ·have:(o.kind==1)=false:=by simp [h1]
   rw [this,cond_false]
   congr 1
   by_cases h3:o.kind=3 <;> simp [h1,h3]
 rw [e1]
 simp only [T.aT]
 unfold VE
 by_cases h1:o.kind=1\/o.kind=3
 ·rw [if_pos h1,decide_eq_true h1,cond_true,OE o.key ho.1 (by omega)]
  simp only [T.aT,e20]
  cases DT o.key <;> rfl
 ·rw [if_neg h1,decide_eq_false h1,cond_false]
  by_cases h2:o.kind=2
  ·rw [if_pos h2,aD (by simp [h2]),OE o.key ho.1 (by omega)]
   simp only [T.aT]
   cases DT o.key <;> rfl
  ·rw [if_neg h2,aO (by simp [h2])]
def QX:Option iC->List iC->Bool
 | _,[]=>true
 | q,p::ps=>VE p&&(match q with | none=>true | some q=>blt q.key p.key)&&QX (some p) ps
def mK (l:List iC):Bool:=QX none l&&decide (1<=l.length/\l.length<=8)
theorem ajU (a b:ByteArray):(!(Op.bytesLess a.toList b.toList))=(Op.bytesLess b.toList a.toList||b.toList==a.toList):=(aik b.toList a.toList).symm
theorem OI (m:Nat) (hm:1048590<=m) : ∀ (post pre:List iC),(∀ p∈post,BOp p)->pre.length+post.length<=1048576->∀ n,post.length<n->∀ k0 k1,
  kr m n (.l (rO (pre++post))) (.i pre.length) k0 k1=cond (QX pre.getLast? post) (k1 (.l (rO (pre++post)))) (k0 (.b false))
 | [],pre,ho,hs,n,hn,k0,k1=>by
  obtain ⟨n,rfl⟩ : ∃ m',n=m'+1:=⟨n-1,by omega⟩
  simp only [kr,T.ak,T.ah]
  rw [aH (by simp)]
  rfl
 | x::post,pre,ho,hs,n,hn,k0,k1=>by
  obtain ⟨n,rfl⟩ : ∃ m',n=m'+1:=⟨n-1,by omega⟩
  simp only [List.length_cons] at hs hn
  have ih:=OI m hm post (pre++[x]) (fun p hp=>ho p (by simp [hp])) (by simp; omega) n (by omega) k0 k1
  rw [aG,List.append_assoc,List.singleton_append,List.getLast?_concat] at ih
  simp only [kr,T.ak,T.ah,ixO,bA pre (by omega),o0,o1,o2,od1]
  rw [au (by simp; omega),au (by simp; omega),agh (by omega) x (ho x (by simp))]
  simp only [QX,T.aT]
  cases h:VE x with
  | false=>rfl
  | true =>
   rcases List.eq_nil_or_concat pre with rfl | ⟨pre,q,rfl⟩
   ·simpa using ih
   ·simp only [List.concat_eq_append] at hs ih ⊢
    simp only [List.length_append,List.length_singleton,List.length_cons,List.length_nil] at hs
    have e:IntKind.i64.wrap (((pre++[q]).length:Int)-1)=(pre.length:Int):=by rw [wrap_i64 (by omega) (by simp; omega)]; simp
    simp only [e,List.append_assoc,List.singleton_append,anD,od1,T.dR,List.getLast?_concat]
    rw [aD (by rfl:((!true)==false)=true),aD (by simp <;> omega),au (by simp <;> omega),au (by simp <;> omega)]
    simp only [List.append_assoc,List.singleton_append] at ih
    unfold blt
    cases hb:Op.bytesLess q.key.toList x.key.toList with
    | false=>rfl
    | true=>simpa using ih
theorem OJ (m:Nat) (hm:1048590<=m) : ∀ (post pre:List iC),(∀ p∈post,BOp p)->pre.length+post.length<=1048576->∀ n,post.length<n->∀ k0 k1,
  kC m n (.l (rO (pre++post))) (.l (rO (pre++post))) (.i ((pre++post).length:Nat)) (.i pre.length) k0 k1=cond (QX pre.getLast? post) (k1 (.l (rO (pre++post)))) (k0 (.b false))
 | [],pre,ho,hs,n,hn,k0,k1=>by
  obtain ⟨n,rfl⟩ : ∃ m',n=m'+1:=⟨n-1,by omega⟩
  simp only [kC,T.ak,T.ah]
  rw [aH (by simp)]
  rfl
 | x::post,pre,ho,hs,n,hn,k0,k1=>by
  obtain ⟨n,rfl⟩ : ∃ m',n=m'+1:=⟨n-1,by omega⟩
  simp only [List.length_cons] at hs hn
  have ih:=OJ m hm post (pre++[x]) (fun p hp=>ho p (by simp [hp])) (by simp; omega) n (by omega) k0 k1
  rw [aG,List.append_assoc,List.singleton_append,List.getLast?_concat] at ih
  simp only [kC,T.ak,T.ah,ixO,bA pre (by omega),o0,o1,o2,od1]
  rw [au (by simp; omega),au (by simp; omega),agi (by omega) x (ho x (by simp))]
  simp only [QX,T.aT]
  cases h:VE x with
  | false=>rfl
  | true =>
   rcases List.eq_nil_or_concat pre with rfl | ⟨pre,q,rfl⟩
   ·simpa using ih
   ·simp only [List.concat_eq_append] at hs ih ⊢
    simp only [List.length_append,List.length_singleton,List.length_cons,List.length_nil] at hs
    have e:IntKind.i64.wrap (((pre++[q]).length:Int)-1)=(pre.length:Int):=by rw [wrap_i64 (by omega) (by simp; omega)]; simp
    simp only [e,List.append_assoc,List.singleton_append,anD,od1,T.dR,List.getLast?_concat]
    rw [aD (by rfl:((!true)==false)=true),aD (by simp <;> omega),au (by simp <;> omega),<-ajU]
    simp only [List.append_assoc,List.singleton_append] at ih
    unfold blt
    cases hb:Op.bytesLess q.key.toList x.key.toList with
    | false=>rfl
    | true=>simpa using ih
theorem len8 (l:List iC):decide ((1:Int)<=(l.length:Int)/\(l.length:Int)<=8)=decide (1<=l.length/\l.length<=8):=decide_eq_decide.2 (by omega)
theorem Gu {m:Nat} (hm:1048600<=m) (l:List iC) (h:qQ l) (K:T->An):og m (.l (rO l)) K=K (.b (mK l)):=by
 obtain ⟨m,rfl⟩ : ∃ m',m=m'+1:=⟨m-1,by omega⟩
 have hl:=h.1
 simp only [og,T.ah]
 refine (OI m (by omega) l [] h.2 (by simpa using hl) m (by omega) _ _).trans ?_
 simp only [List.nil_append,List.getLast?_nil,T.ah,nD,mK]
 rw [nM (by omega),len8]
 cases QX none l <;> rfl
theorem Gv {m:Nat} (hm:1048600<=m) (l:List iC) (h:qQ l) (K:T->An):rH m (.l (rO l)) K=K (.b (mK l)):=by
 obtain ⟨m,rfl⟩ : ∃ m',m=m'+1:=⟨m-1,by omega⟩
 have hl:=h.1
 simp only [rH,T.ah,nD]
 refine (OJ m (by omega) l [] h.2 (by simpa using hl) m (by omega) _ _).trans ?_
 simp only [List.nil_append,List.getLast?_nil,T.ah,nD,mK]
 rw [gK (by omega),len8]
 cases QX none l <;> rfl
def qK (l:List iC) (s n:Int):List iC:=l.filter fun o=>((oz o.key n:Nat):Int)==s
theorem OL (m:Nat) (hm:1048600<=m) (s N:Int) : ∀ (post pre acc:List iC),(∀ p∈post,BOp p)->pre.length+post.length<=1048576->acc.length+post.length<=1048576->∀ n,post.length<n->∀ k0,
  jc m n (.l (rO (pre++post))) (.i s) (.i N) (.i pre.length) (.l (rO acc)) k0=k0 (.l (rO (acc++qK post s N)))
 | [],pre,acc,ho,hs,ha,n,hn,k0=>by
  obtain ⟨n,rfl⟩ : ∃ m',n=m'+1:=⟨n-1,by omega⟩
  simp only [jc,T.ak,T.ah]
  rw [aH (by simp)]
  simp [qK]
 | x::post,pre,acc,ho,hs,ha,n,hn,k0=>by
  obtain ⟨n,rfl⟩ : ∃ m',n=m'+1:=⟨n-1,by omega⟩
  simp only [List.length_cons] at hs hn ha
  have hx:=ho x (by simp)
  have ih:=fun acc ha=>OL m hm s N post (pre++[x]) acc (fun p hp=>ho p (by simp [hp])) (by simp; omega) ha n (by omega) k0
  rw [aG,List.append_assoc,List.singleton_append] at ih
  simp only [jc,T.ak,T.ah,ixO,bA pre (by omega),o0,o1,o2,od1,akR]
  rw [au (by simp; omega),au (by simp; omega),Gt x.key N hx.1 (by omega)]
  simp only [T.ak]
  unfold qK
  cases h:(((oz x.key N:Nat):Int)==s) with
  | false =>
   rw [cond_false,ih acc (by omega),List.filter_cons_of_neg (by simpa using h)]; rfl
  | true =>
   rw [cond_true,au (by simp; omega),au (by rw [nD]; unfold aS; omega)]
   have e:rO acc++[x.r]=rO (acc++[x]):=by simp
   rw [e,ih (acc++[x]) (by simp; omega),List.filter_cons_of_pos (by simpa using h),List.append_assoc]; rfl
theorem OM (m:Nat) (hm:1048600<=m) (s N:Int) : ∀ (post pre acc:List iC),(∀ p∈post,BOp p)->pre.length+post.length<=1048576->acc.length+post.length<=1048576->∀ n,post.length<n->∀ k0,
  jf m n (.i s) (.i N) (.l (rO (pre++post))) (.i ((pre++post).length:Nat)) (.i pre.length) (.l (rO acc)) k0=k0 (.l (rO (acc++qK post s N)))
 | [],pre,acc,ho,hs,ha,n,hn,k0=>by
  obtain ⟨n,rfl⟩ : ∃ m',n=m'+1:=⟨n-1,by omega⟩
  simp only [jf,T.ak,T.ah]
  rw [aH (by simp)]
  simp [qK]
 | x::post,pre,acc,ho,hs,ha,n,hn,k0=>by
  obtain ⟨n,rfl⟩ : ∃ m',n=m'+1:=⟨n-1,by omega⟩
  simp only [List.length_cons] at hs hn ha
  have hx:=ho x (by simp)
  have ih:=fun acc ha=>OM m hm s N post (pre++[x]) acc (fun p hp=>ho p (by simp [hp])) (by simp; omega) ha n (by omega) k0
  rw [aG,List.append_assoc,List.singleton_append] at ih
  simp only [jf,T.ak,T.ah,ixO,bA pre (by omega),o0,o1,o2,od1,akR]
  rw [au (by simp; omega),au (by simp; omega),OG x.key N hx.1 (by omega)]
  simp only [T.ak]
  unfold qK
  cases h:(((oz x.key N:Nat):Int)==s) with
  | false =>
   rw [cond_false,ih acc (by omega),List.filter_cons_of_neg (by simpa using h)]; rfl
  | true =>
   rw [cond_true,au (by rw [nD]; unfold aS; omega)]
   have e:rO acc++[x.r]=rO (acc++[x]):=by simp
   rw [e,ih (acc++[x]) (by simp; omega),List.filter_cons_of_pos (by simpa using h),List.append_assoc]; rfl
theorem adZ {m:Nat} (hm:1048610<=m) (l:List iC) (s N:Int) (h:qQ l) (K:T->An):BX m (.l (rO l)) (.i s) (.i N) K=K (.l (rO (qK l s N))):=by
 obtain ⟨m,rfl⟩ : ∃ m',m=m'+1:=⟨m-1,by omega⟩
 have hl:=h.1
 simp only [BX,T.ah]
 exact (OL m (by omega) s N l [] [] h.2 (by simpa using hl) (by simpa using hl) m (by omega) _).trans rfl
theorem ad1 {m:Nat} (hm:1048610<=m) (l:List iC) (s N:Int) (h:qQ l) (K:T->An):Ci m (.l (rO l)) (.i s) (.i N) K=K (.l (rO (qK l s N))):=by
 obtain ⟨m,rfl⟩ : ∃ m',m=m'+1:=⟨m-1,by omega⟩
 have hl:=h.1
 simp only [Ci,T.ah,nD]
 exact (OM m (by omega) s N l [] [] h.2 (by simpa using hl) (by simpa using hl) m (by omega) _).trans rfl
end Go.Proofs.YtpmbniddgaecpaaGreat

namespace Go.Proofs.YtpmbniddgaecpaaGreat
open Go Go.E Go.Proofs
abbrev rC (l:List aZ):List (List T):=l.map aZ.r
abbrev rJ (l:List iD):List (List T):=l.map iD.r
theorem vI (l:List aZ):(rC l).length=l.length:=by simp
theorem VF (l:List iD):(rJ l).length=l.length:=by simp
theorem pz:(T.i (((T.i 0).int.toNat:Nat):Int))=T.i 0:=rfl
def Ev (tx:Int):List aZ->Option Nat
 | []=>none
 | x::l=>if x.tx=tx then some 0 else (Ev tx l).map (· + 1)
theorem aaK {tx:Int} : ∀ {l:List aZ} {j:Nat},Ev tx l=some j->j<l.length
 | [],j,h=>by simp [Ev] at h
 | x::l,j,h=>by
  unfold Ev at h
  split at h
  ·cases h; simp
  ·cases hf:Ev tx l with
   | none=>rw [hf] at h; cases h
   | some i=>rw [hf] at h; cases h; have:=aaK hf; simp; omega
def chI (tx:Int) (l:List aZ):Int:=match Ev tx l with | some j=>(j:Int) | none=>-1
theorem ixC (pre:List aZ) (x:aZ) (post:List aZ):(rC (pre++x::post)).getD (Int.toNat (pre.length:Int)) []=x.r:=by simp [List.getD]
theorem c0 (x:aZ):x.r.getD 0 dflt = .i x.tx:=rfl
theorem c1 (x:aZ):x.r.getD 1 dflt = .b x.yes:=rfl
theorem anE (l:List aZ) {k:Nat} (h:k<l.length):(((rC l).getD k []).drop 1).getD 0 dflt = .b (l.getD k default).yes:=by
 simp [List.getD,h,aZ.r]
theorem QY (m:Nat) (tx:Int) (x3 x4 x5 x6 x8:T) : ∀ (post pre:List aZ),pre.length+post.length<=1048576->∀ n,post.length<n->∀ k0 k1,
  gN m n (.i tx) (.i 0) (.i pre.length) x3 x4 x5 x6 (.l (rC (pre++post))) x8 k0 k1=(match Ev tx post with | some j=>k0 (.i ((pre.length+j:Nat):Int)) | none=>k1)
 | [],pre,hs,n,hn,k0,k1=>by
  obtain ⟨n,rfl⟩ : ∃ m',n=m'+1:=⟨n-1,by omega⟩
  simp only [gN,T.ak,T.ah]
  rw [aH (by simp)]
  rfl
 | x::post,pre,hs,n,hn,k0,k1=>by
  obtain ⟨n,rfl⟩ : ∃ m',n=m'+1:=⟨n-1,by omega⟩
  simp only [List.length_cons] at hs hn
  have ih:=QY m tx x3 x4 x5 x6 x8 post (pre++[x]) (by simp; omega) n (by omega) k0 k1
  rw [aG,List.append_assoc,List.singleton_append] at ih
  simp only [gN,T.ak,T.ah,ixC,bA pre (by omega),c0]
  rw [au (by simp; omega),au (by simp; omega)]
  unfold Ev
  by_cases h:x.tx=tx
  ·rw [aD (by simp [h]),if_pos h]; rfl
  ·rw [aO (by simp [h]),if_neg h]
   refine Eq.trans ih ?_
   cases Ev tx post with
   | none=>rfl
   | some j=>simp only [Option.map_some]; congr 3; simp; omega
theorem VG {m:Nat} (hm:1048590<=m) (x0 x1 x2 x5:T) (jobs:List (List T)) (log:List aZ) (tx:Int) (hl:log.length<=1048576) (K:T->An) :
  lS m x0 x1 x2 (.l jobs) (.l (rC log)) x5 (.i tx) K=K (.i (chI tx log)):=by
 obtain ⟨m,rfl⟩ : ∃ m',m=m'+1:=⟨m-1,by omega⟩
 simp only [lS,T.ah]
 refine (QY m tx x0 x1 x2 _ _ log [] (by simp; omega) m (by omega) _ _).trans ?_
 unfold chI
 cases Ev tx log <;> simp
theorem VH (m:Nat) (hm:1<=m) (tx:Int) : ∀ (post pre:List aZ),pre.length+post.length<=1048576->∀ n,post.length<n->∀ k0 k1,
  aX m n (.l (rC (pre++post))) (.l [[.i tx]]) (.i ((pre++post).length:Nat)) (.i pre.length) k0 k1=(match Ev tx post with | some j=>k0 (.i ((pre.length+j:Nat):Int)) | none=>k1)
 | [],pre,hs,n,hn,k0,k1=>by
  obtain ⟨n,rfl⟩ : ∃ m',n=m'+1:=⟨n-1,by omega⟩
  simp only [aX,T.ak,T.ah]
  rw [aH (by simp)]
  rfl
 | x::post,pre,hs,n,hn,k0,k1=>by
  obtain ⟨n,rfl⟩ : ∃ m',n=m'+1:=⟨n-1,by omega⟩
  obtain ⟨m,rfl⟩ : ∃ m',m=m'+1:=⟨m-1,by omega⟩
  simp only [List.length_cons] at hs hn
  have ih:=VH (m+1) hm tx post (pre++[x]) (by simp; omega) n (by omega) k0 k1
  rw [aG,List.append_assoc,List.singleton_append] at ih
  have r1:bY (.l [[T.i tx]])=[T.i tx]:=rfl
  simp only [aX,oO,T.ak,T.ah,ixC,bA pre (by omega),r1,List.getD_cons_zero,T.aT,c0]
  rw [au (by simp; omega),au (by simp; omega)]
  unfold Ev
  by_cases h:x.tx=tx
  ·rw [aD (by simp [h]),if_pos h]; rfl
  ·rw [aO (by simp [h]),if_neg h]
   refine Eq.trans ih ?_
   cases Ev tx post with
   | none=>rfl
   | some j=>simp only [Option.map_some]; congr 3; simp; omega
theorem VI {m:Nat} (hm:1048600<=m) (x0 x1 x2 x5:T) (jobs:T) (log:List aZ) (tx:Int) (hl:log.length<=1048576) (K:T->An) :
  kI m (.l [[x0,x1,x2,jobs,.l (rC log),x5]]) (.i tx) K=K (.i (chI tx log)):=by
 obtain ⟨m,rfl⟩ : ∃ m',m=m'+1:=⟨m-1,by omega⟩
 obtain ⟨m,rfl⟩ : ∃ m',m=m'+1:=⟨m-1,by omega⟩
 have r1:bY (.l [[x0,x1,x2,jobs,.l (rC log),x5]])=[x0,x1,x2,jobs,.l (rC log),x5]:=rfl
 have r2:bY (.l [[T.i tx]])=[T.i tx]:=rfl
 simp only [kI,dI,r1,r2,List.drop_succ_cons,List.drop_zero,List.getD_cons_zero,T.ah,vI]
 refine (VH m (by omega) tx log [] (by simp; omega) m (by omega) _ _).trans ?_
 unfold chI
 cases Ev tx log <;> simp
def JO (sh:List Int):Option Int->List Int->Bool
 | _,[]=>true
 | p,y::ys=>decide (y∈sh)&&(match p with | none=>true | some q=>decide (q<y))&&JO sh (some y) ys
theorem ixI (pre:List Int) (x:Int) (post:List Int):((ir (pre++x::post)).getD (Int.toNat (pre.length:Int)) []).getD 0 dflt = .i x:=by
 simp [ir,List.getD,kF]
theorem anF (pre:List Int) (q x:Int) (post:List Int):((ir (pre++q::x::post)).getD (Int.toNat (pre.length:Int)) []).getD 0 dflt = .i q:=by
 simp [ir,List.getD,kF]
theorem afl (m:Nat) (hm:1048600<=m) (sh:List Int) (hsh:sh.length<=1048576) (x4 x5 x6 x7 x8 x9 x10 gy o9:T) : ∀ (post pre:List Int),pre.length+post.length<=1048576->∀ n,post.length<n->∀ k0 k1,
  iR m n (.i 0) (.i 0) (.l (ir sh)) (.i pre.length) x4 x5 x6 x7 x8 x9 x10 gy o9 (.l (ir (pre++post))) k0 k1 =
   cond (JO sh pre.getLast? post) (k1 (.i 0) (.i 0) x4 x5 x6 x7 x8 x9 x10 gy o9 (.l (ir (pre++post)))) (k0 (.b false))
 | [],pre,hs,n,hn,k0,k1=>by
  obtain ⟨n,rfl⟩ : ∃ m',n=m'+1:=⟨n-1,by omega⟩
  simp only [iR,T.ak,T.ah]
  rw [aH (by simp [gD])]
  rfl
 | x::post,pre,hs,n,hn,k0,k1=>by
  obtain ⟨n,rfl⟩ : ∃ m',n=m'+1:=⟨n-1,by omega⟩
  simp only [List.length_cons] at hs hn
  have ih:=afl m hm sh hsh x4 x5 x6 x7 x8 x9 x10 gy o9 post (pre++[x]) (by simp; omega) n (by omega) k0 k1
  rw [aG,List.append_assoc,List.singleton_append,List.getLast?_concat] at ih
  simp only [iR,jn,T.ak,T.ah,ixI,bA pre (by omega)]
  rw [au (by simp [gD]; omega),au (by simp [gD]; omega),aaI sh x hsh (by omega)]
  simp only [JO,T.aT]
  by_cases h:x∈sh
  ·rw [decide_eq_true h,aD (by rfl)]
   rcases List.eq_nil_or_concat pre with rfl | ⟨pre,q,rfl⟩
   ·simpa using ih
   ·simp only [List.concat_eq_append] at hs ih ⊢
    simp only [List.length_append,List.length_singleton,List.length_cons,List.length_nil] at hs
    have e:IntKind.i64.wrap (((pre++[q]).length:Int)-1)=(pre.length:Int):=by rw [wrap_i64 (by omega) (by simp; omega)]; simp
    simp only [e,List.append_assoc,List.singleton_append,anF,T.ak,List.getLast?_concat]
    rw [aD (by simp <;> omega),au (by simp [gD] <;> omega),au (by simp [gD] <;> omega)]
    simp only [List.append_assoc,List.singleton_append] at ih
    by_cases hq:q<x
    ·rw [aH (by omega),decide_eq_true hq]; simpa using ih
    ·rw [au (by omega),decide_eq_false hq]; rfl
  ·rw [decide_eq_false h]; rfl
end Go.Proofs.YtpmbniddgaecpaaGreat

namespace Go.Proofs.YtpmbniddgaecpaaGreat
open Go Go.E Go.Proofs
theorem acD (m:Nat) (x:Int) : ∀ (post pre:List Int),pre.length+post.length<=1048576->∀ n,post.length<n->∀ k0 k1 (K:An),(∀ j:Nat,k0 (.i (j:Int))=K) ->
  cu m n (.l (ir (pre++post))) (.i x) (.i ((pre++post).length:Nat)) (.i pre.length) k0 k1=cond (decide (x∈post)) K k1
 | [],pre,hs,n,hn,k0,k1,K,hK=>by
  obtain ⟨n,rfl⟩ : ∃ m',n=m'+1:=⟨n-1,by omega⟩
  simp only [cu,T.ak,T.ah]
  rw [aH (by simp),aH (by simp)]
 | y::post,pre,hs,n,hn,k0,k1,K,hK=>by
  obtain ⟨n,rfl⟩ : ∃ m',n=m'+1:=⟨n-1,by omega⟩
  simp only [List.length_cons] at hs hn
  have ih:=acD m x post (pre++[y]) (by simp; omega) n (by omega) k0 k1 K hK
  rw [aG,List.append_assoc,List.singleton_append] at ih
  simp only [cu,T.ak,T.ah,ixI,bA pre (by omega)]
  rw [au (by simp; omega),au (by simp [gD]; omega)]
  by_cases h:x=y
  ·subst h
   rw [aD (by simp),au (by simp),hK]
  ·rw [aO (by simp [h]),ih]
   by_cases h2:x∈post
   ·rw [au h2,au (by simp [h2])]
   ·rw [aH h2,aH (by simp [h2,h])]
theorem acE {m:Nat} (hm:1048600<=m) (l:List Int) (x:Int) (hl:l.length<=1048576) (K:T->An):gI m (.l (ir l)) (.i x) K=K (.b (decide (x∈l))):=by
 obtain ⟨m,rfl⟩ : ∃ m',m=m'+2:=⟨m-2,by omega⟩
 simp only [gI,nT,T.ah,gD]
 refine (acD m x l [] (by simp; omega) m (by omega) _ _ (K (.b true)) (fun j=>?_)).trans ?_
 ·simp only [T.ak]
  rw [decide_eq_true (by omega)]
 ·by_cases h:x∈l
  ·rw [au h,decide_eq_true h]
  ·rw [aH h,decide_eq_false h]; rfl
theorem afm (m:Nat) (hm:1048610<=m) (sh:List Int) (hsh:sh.length<=1048576) (r:List T) (x6 x7 x8:T) : ∀ (post pre:List Int),pre.length+post.length<=1048576->∀ n,post.length<n->∀ k0 k1,
  fJ m n (.l [r]) (.i 0) (.l (ir sh)) (.l (ir (pre++post))) (.i ((pre++post).length:Nat)) (.i pre.length) x6 x7 x8 (.l (ir (pre++post))) k0 k1 =
   cond (JO sh pre.getLast? post) (k1 (.l [r]) (.i 0) x6 x7 x8 (.l (ir (pre++post)))) (k0 (.b false))
 | [],pre,hs,n,hn,k0,k1=>by
  obtain ⟨n,rfl⟩ : ∃ m',n=m'+1:=⟨n-1,by omega⟩
  have r1:bY (.l [r])=r:=rfl
  simp only [fJ,T.ak,T.ah,r1]
  rw [aH (by simp)]
  rfl
 | x::post,pre,hs,n,hn,k0,k1=>by
  obtain ⟨n,rfl⟩ : ∃ m',n=m'+1:=⟨n-1,by omega⟩
  simp only [List.length_cons] at hs hn
  have ih:=afm m hm sh hsh r x6 x7 x8 post (pre++[x]) (by simp; omega) n (by omega) k0 k1
  rw [aG,List.append_assoc,List.singleton_append,List.getLast?_concat] at ih
  have r1:bY (.l [r])=r:=rfl
  simp only [fJ,jn,T.ak,T.ah,ixI,bA pre (by omega),r1]
  rw [au (by simp; omega),au (by simp [gD]; omega),acE (by omega) sh x hsh]
  simp only [JO,T.aT]
  by_cases h:x∈sh
  ·rw [decide_eq_true h,aD (by rfl)]
   rcases List.eq_nil_or_concat pre with rfl | ⟨pre,q,rfl⟩
   ·simpa using ih
   ·simp only [List.concat_eq_append] at hs ih ⊢
    simp only [List.length_append,List.length_singleton,List.length_cons,List.length_nil] at hs
    have e:IntKind.i64.wrap (((pre++[q]).length:Int)-1)=(pre.length:Int):=by rw [wrap_i64 (by omega) (by simp; omega)]; simp
    simp only [e,List.append_assoc,List.singleton_append,anF,T.ak,List.getLast?_concat]
    rw [aD (by simp <;> omega),au (by simp [gD] <;> omega)]
    simp only [List.append_assoc,List.singleton_append] at ih
    by_cases hq:q<x
    ·rw [aH (by omega),decide_eq_true hq]; simpa using ih
    ·rw [au (by omega),decide_eq_false hq]; rfl
  ·rw [decide_eq_false h]; rfl
def ajV (life next tx:Int):Bool:=decide (life * 1000<=tx/\tx<=life * 1000+next-1)
def MG:Option iD->iD->Bool
 | none,_=>true
 | some q,x=>decide (q.tx<x.tx)
def uz (log:List aZ) (j:iD):Bool:=match Ev j.tx log with
 | none=>j.state==1
 | some k=>(j.state==2&&(log.getD k default).yes)||(j.state==3 && !(log.getD k default).yes)
def acF (N life next:Int) (log:List aZ) (j:iD):Bool:=ajV life next j.tx&&mK j.ops&&JO (dS j.ops N) none j.yes&&uz log j
theorem XZ {log:List aZ} {j:iD} (h:uz log j=true):1<=j.state/\j.state<=3:=by
 unfold uz at h
 split at h
 ·simp at h; omega
 ·simp at h; omega
theorem ixJ (pre:List iD) (x:iD) (post:List iD):(rJ (pre++x::post)).getD (Int.toNat (pre.length:Int)) []=x.r:=by simp [List.getD]
theorem anG (pre:List iD) (q x:iD) (post:List iD):(rJ (pre++q::x::post)).getD (Int.toNat (pre.length:Int)) []=q.r:=by simp [List.getD]
theorem j0 (x:iD):x.r.getD 0 dflt = .i x.tx:=rfl
theorem j1 (x:iD):x.r.getD 1 dflt = .l (rO x.ops):=rfl
theorem j2 (x:iD):x.r.getD 2 dflt = .i x.state:=rfl
theorem j3 (x:iD):x.r.getD 3 dflt = .l (ir x.yes):=rfl
theorem sI (ops:List iC) (n:Int):(dS ops n).length<=ops.length:=by
 have:=YD (ops.map fun o=>((oz o.key n:Nat):Int)) []
 simpa [dS] using this
theorem aow (tx:Int) (log:List aZ):(chI tx log<0) ↔ Ev tx log=none:=by
 unfold chI; cases Ev tx log <;> simp <;> omega
theorem agj {m:Nat} (hm:1048590<=m) (N life next x5:T) (jobs:List (List T)) (log:List aZ) (j:iD) (hl:log.length<=1048576) (K:T->An) :
  lS m N life next (.l jobs) (.l (rC log)) x5 (.i j.tx) (fun y31=>cond (decide (y31.int<0)) (K (T.b (j.state==1)))
   (cond ((j.state==2)==true)
   (cond (decide ((0:Int)<=y31.int/\y31.int<((rC log).length:Int)))
   (cond (((((rC log).getD (Int.toNat y31.int) []).drop 1).getD 0 dflt).bool==false)
   (cond ((j.state==3)==true)
   (cond (decide ((0:Int)<=y31.int/\y31.int<((rC log).length:Int)))
   (K (T.b (!((((rC log).getD (Int.toNat y31.int) []).drop 1).getD 0 dflt).bool)))
   (.bad))
   (K (T.b false)))
   (K (T.b true)))
   (.bad))
   (cond ((j.state==3)==true)
   (cond (decide ((0:Int)<=y31.int/\y31.int<((rC log).length:Int)))
   (K (T.b (!((((rC log).getD (Int.toNat y31.int) []).drop 1).getD 0 dflt).bool)))
   (.bad))
   (K (T.b false)))))=K (.b (uz log j)):=by
 rw [VG hm N life next x5 jobs log j.tx hl]
 simp only [T.ak]
 unfold chI uz
 cases hc:Ev j.tx log with
 | none=>rfl
 | some k =>
  have hk:=aaK hc
  simp only [Int.toNat_natCast,vI,anE log hk,T.aT]
  rw [aH (by omega),au (by omega),au (by omega)]
  cases h2:(j.state==2) <;> cases h3:(j.state==3) <;> cases (log.getD k default).yes <;> first | rfl | (simp at h2 h3; omega)
noncomputable def aaL (m:Nat) (N life next:Int) (x5:T) (jobs:List (List T)) (log:List aZ) (x:iD) (K:T->An):An:=nA m (.l (rO x.ops)) (.i N) (fun Je=>iR m m (T.i 0) (T.i 0) (T.l Je.rows) (T.i 0) (.i N) (.i life) (.i next) (T.l jobs) (T.l (rC log)) x5 (.i x.tx) (T.l (rO x.ops)) (.i x.state) (T.l (ir x.yes))
   (fun Hy=>K Hy)
   (fun y19 y20 y21 y22 y23 y24 y25 y26 y27 y28 y29 y30=>lS m y21 y22 y23 (T.l y24.rows) (T.l y25.rows) y26 y27
   (fun y31=>cond (decide (y31.int<0))
   (K (T.b (y29.int==1)))
   (cond ((y29.int==2)==true)
   (cond (decide ((0:Int)<=y31.int/\y31.int<(y25.rows.length:Int)))
   (cond ((((y25.rows.getD (Int.toNat y31.int) []).drop 1).getD 0 dflt).bool==false)
   (cond ((y29.int==3)==true)
   (cond (decide ((0:Int)<=y31.int/\y31.int<(y25.rows.length:Int)))
   (K (T.b (!(((y25.rows.getD (Int.toNat y31.int) []).drop 1).getD 0 dflt).bool)))
   (.bad))
   (K (T.b false)))
   (K (T.b true)))
   (.bad))
   (cond ((y29.int==3)==true)
   (cond (decide ((0:Int)<=y31.int/\y31.int<(y25.rows.length:Int)))
   (K (T.b (!(((y25.rows.getD (Int.toNat y31.int) []).drop 1).getD 0 dflt).bool)))
   (.bad))
   (K (T.b false)))))))
theorem ajW {m:Nat} (hm:1050000<=m) (N life next:Int) (x5:T) (log:List aZ) (hl:log.length<=1048576) (h1:1<=life/\life<=900) (h2:0<=next/\next<=999) (pre:List iD) (x:iD) (post:List iD) (hx:aie x) (hs:pre.length+post.length<1048576) (K:T->An) :
  BL m (.i N) (.i life) (.i next) (.l (rJ (pre++x::post))) (.l (rC log)) x5 (.i pre.length) K=K (.b (MG pre.getLast? x&&acF N life next log x)):=by
 obtain ⟨m,rfl⟩ : ∃ m',m=m'+1:=⟨m-1,by omega⟩
 have e1:IntKind.i64.wrap (life * 1000)=life * 1000:=wrap_i64 (by omega) (by omega)
 have e2:IntKind.i64.wrap (life * 1000+next)=life * 1000+next:=wrap_i64 (by omega) (by omega)
 have e3:IntKind.i64.wrap (life * 1000+next-1)=life * 1000+next-1:=wrap_i64 (by omega) (by omega)
 simp only [BL,T.ak,T.ah,ixJ,j0,j1,j2,j3,e1,e2,e3]
 rw [au (by simp; omega)]
 have fin : ∀ (K:T->An),acF N life next log x=(ajV life next x.tx&&mK x.ops&&JO (dS x.ops N) none x.yes&&uz log x):=fun _=>rfl
 simp only [jn]
 rw [nM (by omega)]
 simp only [T.aT]
 have hyl:=sI x.ops N
 have hxo:=hx.1.1
 have hyes:x.yes.length<=1048576:=hx.2
 have tail : ∀ (K:T->An),aaL m N life next x5 (rJ (pre++x::post)) log x K=K (.b (JO (dS x.ops N) none x.yes&&uz log x)):=fun K=>by
  unfold aaL
  rw [VB (by omega) x.ops N hx.1]
  refine (afl m (by omega) (dS x.ops N) (by omega) _ _ _ _ _ _ _ _ _ x.yes [] (by simpa using hyes) m (by omega) _ _).trans ?_
  simp only [List.nil_append,List.getLast?_nil,T.ak,T.ah]
  rw [agj (by omega) (.i N) (.i life) (.i next) x5 _ log x hl]
  cases JO (dS x.ops N) none x.yes <;> rfl
 have rest : ∀ (K:T->An),og m (.l (rO x.ops)) (fun y1=>cond ((!y1.bool)==false) (bZ m (.i x.state) (T.i 1) (T.i 3) (fun y2=>cond (!y2.bool) (K (T.b false)) (aaL m N life next x5 (rJ (pre++x::post)) log x K))) (K (T.b false)))=K (.b (mK x.ops&&JO (dS x.ops N) none x.yes&&uz log x)):=fun K=>by
  rw [Gu (by omega) x.ops hx.1]
  simp only [T.aT]
  cases ho:mK x.ops with
  | false=>rfl
  | true =>
   rw [aD (by rfl),nM (by omega)]
   simp only [T.aT]
   by_cases hr:1<=x.state/\x.state<=3
   ·rw [decide_eq_true hr]
    simp only [Bool.not_true,cond_false]
    rw [tail]
    rfl
   ·rw [decide_eq_false hr]
    have:uz log x=false:=by
     cases hq:uz log x with
     | false=>rfl
     | true=>exact absurd (XZ hq) hr
    rw [this,Bool.and_false]
    rfl
 unfold acF ajV
 by_cases ht:life * 1000<=x.tx/\x.tx<=life * 1000+next-1
 ·rw [decide_eq_true ht,aD (by rfl)]
  rcases List.eq_nil_or_concat pre with rfl | ⟨pre,q,rfl⟩
  ·rw [aO (by simp)]
   refine (rest K).trans ?_
   simp [MG]
  ·simp only [List.concat_eq_append] at hs rest ⊢
   simp only [List.length_append,List.length_singleton,List.length_cons,List.length_nil] at hs
   have e:IntKind.i64.wrap (((pre++[q]).length:Int)-1)=(pre.length:Int):=by rw [wrap_i64 (by omega) (by simp; omega)]; simp
   simp only [e,List.append_assoc,List.singleton_append,anG,j0,T.ak,List.getLast?_concat] at rest ⊢
   rw [aD (by simp <;> omega),au (by simp <;> omega)]
   rw [show MG (some q) x=decide (q.tx<x.tx) from rfl]
   by_cases hq:q.tx<x.tx
   ·rw [decide_eq_true hq,aD (by simp; omega)]
    refine (rest K).trans ?_
    simp
   ·rw [decide_eq_false hq,aO (by simp; omega)]
    simp
 ·rw [decide_eq_false ht]
  simp
end Go.Proofs.YtpmbniddgaecpaaGreat

namespace Go.Proofs.YtpmbniddgaecpaaGreat
open Go Go.E Go.Proofs
abbrev P7 (N life next:Int) (jobs log:List (List T)) (x5:T):List T:=[.i N,.i life,.i next,.l jobs,.l log,x5]
theorem ad2 {m:Nat} (hm:1<=m) (N life next:Int) (jobs log:List (List T)) (x5:T) (h1:1<=life/\life<=900) (h2:0<=next/\next<=999) (K:T->An):jT m (.l [P7 N life next jobs log x5]) K=K (.i (life * 1000+next)):=by
 obtain ⟨m,rfl⟩ : ∃ m',m=m'+1:=⟨m-1,by omega⟩
 have r1:bY (.l [P7 N life next jobs log x5])=P7 N life next jobs log x5:=rfl
 simp only [jT,r1,P7,List.drop_succ_cons,List.drop_zero,List.getD_cons_zero,T.ak]
 rw [wrap_i64 (x:=life * 1000) (by omega) (by omega),wrap_i64 (by omega) (by omega)]
theorem ajX {m:Nat} (hm:1050000<=m) (N life next:Int) (x5:T) (jobs:List (List T)) (log:List aZ) (hl:log.length<=1048576) (h1:1<=life/\life<=900) (h2:0<=next/\next<=999) (x:iD) (hx:aie x) (K:T->An) :
  qB m (.l [P7 N life next jobs (rC log) x5]) (.i x.tx) (.l (rO x.ops)) (.i x.state) (.l (ir x.yes)) K=K (.b (acF N life next log x)):=by
 obtain ⟨m,rfl⟩ : ∃ m',m=m'+1:=⟨m-1,by omega⟩
 have e1:IntKind.i64.wrap (life * 1000)=life * 1000:=wrap_i64 (by omega) (by omega)
 have e3:IntKind.i64.wrap (life * 1000+next-1)=life * 1000+next-1:=wrap_i64 (by omega) (by omega)
 have r1:bY (.l [P7 N life next jobs (rC log) x5])=P7 N life next jobs (rC log) x5:=rfl
 have r2:(P7 N life next jobs (rC log) x5).take 6=P7 N life next jobs (rC log) x5:=rfl
 have r3:((P7 N life next jobs (rC log) x5).drop 1).getD 0 dflt = .i life:=rfl
 have r4:(P7 N life next jobs (rC log) x5).getD 0 dflt = .i N:=rfl
 have r5:((P7 N life next jobs (rC log) x5).drop 4).getD 0 dflt = .l (rC log):=rfl
 have hyl:=sI x.ops N
 have hxo:=hx.1.1
 have hyes:x.yes.length<=1048576:=hx.2
 simp only [qB,jn,r1,r2,r3,r4,r5,T.ak,T.ah]
 rw [ad2 (by omega) N life next jobs (rC log) x5 h1 h2]
 simp only [T.ak,e1,e3]
 rw [gK (by omega)]
 unfold acF ajV
 simp only [T.aT]
 by_cases ht:life * 1000<=x.tx/\x.tx<=life * 1000+next-1
 ·rw [decide_eq_true ht,aD (by rfl),Gv (by omega) x.ops hx.1]
  simp only [T.aT]
  cases ho:mK x.ops with
  | false=>rfl
  | true =>
   simp only [Bool.not_true,cond_false]
   rw [VD (by omega) x.ops N hx.1]
   simp only [T.ah,gD]
   refine (afm m (by omega) (dS x.ops N) (by omega) _ _ _ _ x.yes [] (by simpa using hyes) m (by omega) _ _).trans ?_
   simp only [List.nil_append,List.getLast?_nil,T.ak,T.ah,r1,r2,r5]
   rw [VI (by omega) (.i N) (.i life) (.i next) x5 _ log x.tx hl]
   simp only [T.ak]
   cases JO (dS x.ops N) none x.yes with
   | false=>rfl
   | true =>
    simp only [cond_true,Bool.true_and,Bool.and_true]
    unfold chI uz
    cases hc:Ev x.tx log with
    | none =>
     simp only
     by_cases s1:x.state=1
     ·rw [aD (by simp [s1])]; simp [s1]
     ·rw [aO (by simp [s1])]
      by_cases s2:x.state=2
      ·rw [aD (by simp [s2]),beq_eq_false_iff_ne.2 s1]; rfl
      ·rw [aO (by simp [s2]),beq_eq_false_iff_ne.2 s1]
       by_cases s3:x.state=3
       ·rw [aD (by simp [s3])]; rfl
       ·rw [aO (by simp [s3])]
    | some k =>
     have hk:=aaK hc
     have hd0:(decide ((k:Int)<0))=false:=decide_eq_false (by omega)
     have hd1:(decide ((k:Int)>=0))=true:=decide_eq_true (by omega)
     simp only [Int.toNat_natCast,anE log hk,T.aT,hd0,hd1,vI]
     by_cases s1:x.state=1
     ·rw [aD (by simp [s1])]; simp [s1]
     ·rw [aO (by simp [s1])]
      by_cases s2:x.state=2
      ·rw [aD (by simp [s2]),aD (by rfl),au (by omega)]; simp [s2]
      ·rw [aO (by simp [s2])]
       by_cases s3:x.state=3
       ·rw [aD (by simp [s3]),aD (by rfl),au (by omega)]; simp [s3]
       ·rw [aO (by simp [s3]),beq_eq_false_iff_ne.2 s2,beq_eq_false_iff_ne.2 s3]; rfl
 ·rw [decide_eq_false ht]; rfl
def QZ (life next:Int) (full:List aZ):Nat->List aZ->Bool
 | _,[]=>true
 | i,x::xs=>decide (1000<=x.tx/\x.tx<=life * 1000+next-1)&&decide (chI x.tx full=i)&&QZ life next full (i+1) xs
def JQ (N life next:Int) (log:List aZ):Option iD->List iD->Bool
 | _,[]=>true
 | p,x::xs=>(MG p x&&acF N life next log x)&&JQ N life next log (some x) xs
theorem afn (m:Nat) (hm:1050000<=m) (N life next:Int) (x7:T) (jobs:List (List T)) (h1:1<=life/\life<=900) (h2:0<=next/\next<=999) : ∀ (post pre:List aZ),pre.length+post.length<=1048576->∀ n,post.length<n->∀ k0 k1,
  jN m n (.i 0) (.i pre.length) (.i N) (.i life) (.i next) (.l jobs) (.l (rC (pre++post))) x7 k0 k1 =
   cond (QZ life next (pre++post) pre.length post) (k1 (.i 0) (.i N) (.i life) (.i next) (.l jobs) (.l (rC (pre++post))) x7) (k0 (.b false))
 | [],pre,hs,n,hn,k0,k1=>by
  obtain ⟨n,rfl⟩ : ∃ m',n=m'+1:=⟨n-1,by omega⟩
  simp only [jN,T.ak,T.ah]
  rw [aH (by simp)]
  rfl
 | x::post,pre,hs,n,hn,k0,k1=>by
  obtain ⟨n,rfl⟩ : ∃ m',n=m'+1:=⟨n-1,by omega⟩
  simp only [List.length_cons] at hs hn
  have ih:=afn m hm N life next x7 jobs h1 h2 post (pre++[x]) (by simp; omega) n (by omega) k0 k1
  rw [aG,List.append_assoc,List.singleton_append] at ih
  have e1:IntKind.i64.wrap (life * 1000)=life * 1000:=wrap_i64 (by omega) (by omega)
  have e2:IntKind.i64.wrap (life * 1000+next)=life * 1000+next:=wrap_i64 (by omega) (by omega)
  have e3:IntKind.i64.wrap (life * 1000+next-1)=life * 1000+next-1:=wrap_i64 (by omega) (by omega)
  simp only [jN,jn,T.ak,T.ah,ixC,bA pre (by omega),c0,e1,e2,e3]
  rw [au (by simp; omega),au (by simp; omega),nM (by omega)]
  simp only [T.aT,QZ]
  by_cases ht:1000<=x.tx/\x.tx<=life * 1000+next-1
  ·rw [decide_eq_true ht,aD (by rfl),au (by simp; omega),VG (by omega) (.i N) (.i life) (.i next) x7 jobs (pre++x::post) x.tx (by simp; omega)]
   simp only [T.ak]
   by_cases hc:chI x.tx (pre++x::post)=(pre.length:Int)
   ·rw [aO (by simp [hc]),decide_eq_true hc]
    refine ih.trans ?_
    simp
   ·rw [aD (by simp [hc]),decide_eq_false hc]
    simp
  ·rw [decide_eq_false ht]; rfl
theorem afo (m:Nat) (hm:1050000<=m) (N life next:Int) (x9:T) (jobs:List (List T)) (h1:1<=life/\life<=900) (h2:0<=next/\next<=999) : ∀ (post pre:List aZ),pre.length+post.length<=1048576->∀ n,post.length<n->∀ k0 k1,
  jU m n (.i 0) (.l (rC (pre++post))) (.i ((pre++post).length:Nat)) (.i pre.length) (.i N) (.i life) (.i next) (.l jobs) (.l (rC (pre++post))) x9 k0 k1 =
   cond (QZ life next (pre++post) pre.length post) (k1 (.i 0) (.i N) (.i life) (.i next) (.l jobs) (.l (rC (pre++post))) x9) (k0 (.b false))
 | [],pre,hs,n,hn,k0,k1=>by
  obtain ⟨n,rfl⟩ : ∃ m',n=m'+1:=⟨n-1,by omega⟩
  simp only [jU,T.ak,T.ah]
  rw [aH (by simp)]
  rfl
 | x::post,pre,hs,n,hn,k0,k1=>by
  obtain ⟨n,rfl⟩ : ∃ m',n=m'+1:=⟨n-1,by omega⟩
  simp only [List.length_cons] at hs hn
  have ih:=afo m hm N life next x9 jobs h1 h2 post (pre++[x]) (by simp; omega) n (by omega) k0 k1
  rw [aG,List.append_assoc,List.singleton_append] at ih
  have e3:IntKind.i64.wrap (life * 1000+next-1)=life * 1000+next-1:=wrap_i64 (by omega) (by omega)
  simp only [jU,jn,T.ak,T.ah,ixC,bA pre (by omega),c0]
  rw [au (by simp; omega),au (by simp; omega),ad2 (by omega) N life next jobs (rC (pre++x::post)) x9 h1 h2]
  simp only [T.ak,e3]
  rw [gK (by omega)]
  simp only [T.aT,QZ]
  by_cases ht:1000<=x.tx/\x.tx<=life * 1000+next-1
  ·rw [decide_eq_true ht,aD (by rfl),VI (by omega) (.i N) (.i life) (.i next) x9 (.l jobs) (pre++x::post) x.tx (by simp; omega)]
   simp only [T.ak]
   by_cases hc:chI x.tx (pre++x::post)=(pre.length:Int)
   ·rw [aO (by simp [hc]),decide_eq_true hc]
    refine ih.trans ?_
    simp
   ·rw [aD (by simp [hc]),decide_eq_false hc]
    simp
  ·rw [decide_eq_false ht]; rfl
theorem acG (m:Nat) (hm:1050010<=m) (N life next:Int) (x7:T) (log:List aZ) (hl:log.length<=1048576) (h1:1<=life/\life<=900) (h2:0<=next/\next<=999) : ∀ (post pre:List iD),(∀ x∈post,aie x)->pre.length+post.length<=1048576->∀ n,post.length<n->∀ k0 k1,
  jM m n (.i 0) (.i pre.length) (.i N) (.i life) (.i next) (.l (rJ (pre++post))) (.l (rC log)) x7 k0 k1=cond (JQ N life next log pre.getLast? post) k1 (k0 (.b false))
 | [],pre,ho,hs,n,hn,k0,k1=>by
  obtain ⟨n,rfl⟩ : ∃ m',n=m'+1:=⟨n-1,by omega⟩
  simp only [jM,T.ak,T.ah]
  rw [aH (by simp)]
  rfl
 | x::post,pre,ho,hs,n,hn,k0,k1=>by
  obtain ⟨n,rfl⟩ : ∃ m',n=m'+1:=⟨n-1,by omega⟩
  simp only [List.length_cons] at hs hn
  have ih:=acG m hm N life next x7 log hl h1 h2 post (pre++[x]) (fun p hp=>ho p (by simp [hp])) (by simp; omega) n (by omega) k0 k1
  rw [aG,List.append_assoc,List.singleton_append,List.getLast?_concat] at ih
  simp only [jM,jn,T.ak,T.ah,bA pre (by omega)]
  rw [au (by simp; omega),ajW (by omega) N life next x7 log hl h1 h2 pre x post (ho x (by simp)) (by omega)]
  simp only [T.aT,JQ]
  cases MG pre.getLast? x&&acF N life next log x with
  | false=>rfl
  | true=>exact ih
theorem acH (m:Nat) (hm:1050010<=m) (N life next:Int) (x9:T) (log:List aZ) (hl:log.length<=1048576) (h1:1<=life/\life<=900) (h2:0<=next/\next<=999) : ∀ (post pre:List iD),(∀ x∈post,aie x)->pre.length+post.length<=1048576->∀ n,post.length<n->∀ k0 k1,
  gJ m n (.i 0) (.l (rJ (pre++post))) (.i ((pre++post).length:Nat)) (.i pre.length) (.i N) (.i life) (.i next) (.l (rJ (pre++post))) (.l (rC log)) x9 k0 k1=cond (JQ N life next log pre.getLast? post) k1 (k0 (.b false))
 | [],pre,ho,hs,n,hn,k0,k1=>by
  obtain ⟨n,rfl⟩ : ∃ m',n=m'+1:=⟨n-1,by omega⟩
  simp only [gJ,T.ak,T.ah]
  rw [aH (by simp)]
  rfl
 | x::post,pre,ho,hs,n,hn,k0,k1=>by
  obtain ⟨n,rfl⟩ : ∃ m',n=m'+1:=⟨n-1,by omega⟩
  simp only [List.length_cons] at hs hn
  have ih:=acH m hm N life next x9 log hl h1 h2 post (pre++[x]) (fun p hp=>ho p (by simp [hp])) (by simp; omega) n (by omega) k0 k1
  rw [aG,List.append_assoc,List.singleton_append,List.getLast?_concat] at ih
  simp only [gJ,jn,T.ak,T.ah,ixJ,bA pre (by omega),j0,j1,j2,j3]
  rw [au (by simp; omega),au (by simp; omega),ajX (by omega) N life next x9 (rJ (pre++x::post)) log hl h1 h2 x (ho x (by simp))]
  simp only [T.aT,JQ]
  cases hj:acF N life next log x with
  | false=>simp
  | true =>
   rcases List.eq_nil_or_concat pre with rfl | ⟨pre,q,rfl⟩
   ·simpa [MG] using ih
   ·simp only [List.concat_eq_append] at hs ih ⊢
    simp only [List.length_append,List.length_singleton,List.length_cons,List.length_nil] at hs
    have e:IntKind.i64.wrap (((pre++[q]).length:Int)-1)=(pre.length:Int):=by rw [wrap_i64 (by omega) (by simp; omega)]; simp
    simp only [e,List.append_assoc,List.singleton_append,anG,j0,T.ak,List.getLast?_concat] at ih ⊢
    rw [aD (by rfl:((!true)==false)=true),aD (by simp <;> omega),au (by simp <;> omega)]
    rw [show MG (some q) x=decide (q.tx<x.tx) from rfl]
    by_cases hq:q.tx<x.tx
    ·rw [aH (by omega),decide_eq_true hq]; simpa using ih
    ·rw [au (by omega),decide_eq_false hq]; rfl
def uD (N life next:Int) (jobs:List iD) (log:List aZ) (sure:Int):Bool :=
 decide (1<=N/\N<=8)&&(decide (1<=life/\life<=900)&&(decide (0<=next/\next<=999)&&(decide (log.length<=1000)&&(decide (0<=sure/\sure<=log.length)&&(QZ life next log 0 log&&JQ N life next log none jobs)))))
theorem afp (l:List aZ):((decide ((l.length:Int) > 1000))==false)=decide (l.length<=1000):=by
 by_cases h:l.length<=1000
 ·rw [decide_eq_true h,decide_eq_false (by omega)]; rfl
 ·rw [decide_eq_false h,decide_eq_true (by omega)]; rfl
theorem agk {m:Nat} (hm:1050100<=m) (N life next sure:Int) (jobs:List iD) (log:List aZ) (hj:aif jobs) (hl:log.length<=1048576) (K:T->An) :
  yJ m (.i N) (.i life) (.i next) (.l (rJ jobs)) (.l (rC log)) (.i sure) K=K (.b (uD N life next jobs log sure)):=by
 obtain ⟨m,rfl⟩ : ∃ m',m=m'+1:=⟨m-1,by omega⟩
 have hjl:=hj.1
 simp only [yJ,jn,T.ah,T.ak,vI,afp]
 unfold uD
 rw [nM (by omega)]
 by_cases a1:1<=N/\N<=8
 ·rw [decide_eq_true a1,aD (by rfl),nM (by omega)]
  by_cases a2:1<=life/\life<=900
  ·rw [decide_eq_true a2,aD (by rfl),nM (by omega)]
   by_cases a3:0<=next/\next<=999
   ·rw [decide_eq_true a3,aD (by rfl)]
    by_cases a4:log.length<=1000
    ·rw [decide_eq_true a4,cond_true,nM (by omega)]
     by_cases a5:0<=sure/\sure<=log.length
     ·rw [decide_eq_true a5,aO (by rfl)]
      refine (afn m (by omega) N life next (.i sure) (rJ jobs) a2 a3 log [] (by simpa using hl) m (by omega) _ _).trans ?_
      simp only [List.nil_append,List.length_nil]
      cases QZ life next log 0 log with
      | false=>rfl
      | true =>
       refine (acG m (by omega) N life next (.i sure) log hl a2 a3 jobs [] hj.2 (by simpa using hjl) m (by omega) _ _).trans ?_
       simp only [List.getLast?_nil]
       cases JQ N life next log none jobs <;> rfl
     ·rw [decide_eq_false a5]; rfl
    ·rw [decide_eq_false a4]; rfl
   ·rw [decide_eq_false a3]; rfl
  ·rw [decide_eq_false a2]; rfl
 ·rw [decide_eq_false a1]; rfl
theorem agl {m:Nat} (hm:1050100<=m) (N life next sure:Int) (jobs:List iD) (log:List aZ) (hj:aif jobs) (hl:log.length<=1048576) (K:T->An) :
  yO m (.i N) (.i life) (.i next) (.l (rJ jobs)) (.l (rC log)) (.i sure) K=K (.b (uD N life next jobs log sure)):=by
 obtain ⟨m,rfl⟩ : ∃ m',m=m'+1:=⟨m-1,by omega⟩
 have hjl:=hj.1
 simp only [yO,jn,T.ah,T.ak,vI,afp]
 unfold uD
 rw [gK (by omega)]
 by_cases a1:1<=N/\N<=8
 ·rw [decide_eq_true a1,aD (by rfl),gK (by omega)]
  by_cases a2:1<=life/\life<=900
  ·rw [decide_eq_true a2,aD (by rfl),gK (by omega)]
   by_cases a3:0<=next/\next<=999
   ·rw [decide_eq_true a3,aD (by rfl)]
    by_cases a4:log.length<=1000
    ·rw [decide_eq_true a4,cond_true,gK (by omega)]
     by_cases a5:0<=sure/\sure<=log.length
     ·rw [decide_eq_true a5,aO (by rfl)]
      refine (afo m (by omega) N life next (.i sure) (rJ jobs) a2 a3 log [] (by simpa using hl) m (by omega) _ _).trans ?_
      simp only [List.nil_append,List.length_nil,T.ah,VF]
      cases QZ life next log 0 log with
      | false=>rfl
      | true =>
       refine (acH m (by omega) N life next (.i sure) log hl a2 a3 jobs [] hj.2 (by simpa using hjl) m (by omega) _ _).trans ?_
       simp only [List.getLast?_nil]
       cases JQ N life next log none jobs <;> rfl
     ·rw [decide_eq_false a5]; rfl
    ·rw [decide_eq_false a4]; rfl
   ·rw [decide_eq_false a3]; rfl
  ·rw [decide_eq_false a2]; rfl
 ·rw [decide_eq_false a1]; rfl
end Go.Proofs.YtpmbniddgaecpaaGreat

namespace Go.Proofs.YtpmbniddgaecpaaGreat
open Go Go.E Go.Proofs
abbrev rP (l:List bI):List (List T):=l.map bI.r
theorem xS (l:List bI):(rP l).length=l.length:=by simp
theorem ixP (pre:List bI) (x:bI) (post:List bI):(rP (pre++x::post)).getD (Int.toNat (pre.length:Int)) []=x.r:=by simp [List.getD]
theorem p0 (x:bI):x.r.getD 0 dflt = .s x.key:=rfl
theorem p1 (x:bI):x.r.getD 1 dflt = .s x.val:=rfl
theorem pd1 (x:bI):(x.r.drop 1).getD 0 dflt = .s x.val:=rfl
theorem anH (x:bI):[T.s x.key,T.s x.val]=x.r:=rfl
theorem od2 (x:iC):(x.r.drop 2).getD 0 dflt = .s x.val:=rfl
def keq (a b:ByteArray):Bool:=a.toList==b.toList
def sJ (k:ByteArray):List bI->ByteArray×Bool
 | []=>(emp,false)
 | p::l=>if keq p.key k then (p.val,true) else sJ k l
theorem acI (m:Nat) (k:ByteArray) : ∀ (post pre:List bI),pre.length+post.length<=1048576->∀ n,post.length<n->∀ k0 k1,
  kV m n (.l (rP (pre++post))) (.s k) (.i pre.length) k0 k1=cond (sJ k post).2 (k0 (.s (sJ k post).1) (.b true)) k1
 | [],pre,hs,n,hn,k0,k1=>by
  obtain ⟨n,rfl⟩ : ∃ m',n=m'+1:=⟨n-1,by omega⟩
  simp only [kV,T.ak,T.ah]
  rw [aH (by simp)]
  rfl
 | x::post,pre,hs,n,hn,k0,k1=>by
  obtain ⟨n,rfl⟩ : ∃ m',n=m'+1:=⟨n-1,by omega⟩
  simp only [List.length_cons] at hs hn
  have ih:=acI m k post (pre++[x]) (by simp; omega) n (by omega) k0 k1
  rw [aG,List.append_assoc,List.singleton_append] at ih
  simp only [kV,T.ak,T.ah,ixP,bA pre (by omega),p0,pd1,T.dR]
  rw [au (by simp <;> omega),au (by simp <;> omega)]
  unfold sJ
  cases hk:keq x.key k with
  | true=>rw [aD (show (x.key.toList==k.toList)=true from hk),au (by simp <;> omega)]; rfl
  | false=>rw [aO (show (x.key.toList==k.toList)=false from hk)]; exact ih
theorem acJ (k:ByteArray) : ∀ l,(sJ k l).2=false->(sJ k l).1=emp
 | [],_=>rfl
 | p::l,h=>by
  unfold sJ at h ⊢
  split at h
  ·cases h
  ·rename_i hk; rw [if_neg hk]; exact acJ k l h
theorem al2 {m:Nat} (hm:1048590<=m) (l:List bI) (k:ByteArray) (hl:l.length<=1048576) (K:T->T->An):BN m (.l (rP l)) (.s k) K=K (.s (sJ k l).1) (.b (sJ k l).2):=by
 obtain ⟨m,rfl⟩ : ∃ m',m=m'+1:=⟨m-1,by omega⟩
 simp only [BN,T.ah]
 refine (acI m k l [] (by simpa using hl) m (by omega) _ _).trans ?_
 cases h:(sJ k l).2 with
 | true=>rfl
 | false=>rw [acJ k l h]; rfl
def acK (m:List bI) (o:iC):Bool:=o.kind != 3||((sJ o.key m).2 == !(o.val.toList==emp.toList))&&((sJ o.key m).1.toList==o.val.toList)
def rU (m:List bI) (l:List iC):Bool:=l.all (acK m)
theorem VJ (m:Nat) (hm:1048600<=m) (mp:List bI) (hp:mp.length<=1048576) : ∀ (post pre:List iC),pre.length+post.length<=1048576->∀ n,post.length<n->∀ k0 k1,
  ku m n (.l (rP mp)) (.l (rO (pre++post))) (.i pre.length) k0 k1=cond (rU mp post) k1 (k0 (.b false))
 | [],pre,hs,n,hn,k0,k1=>by
  obtain ⟨n,rfl⟩ : ∃ m',n=m'+1:=⟨n-1,by omega⟩
  simp only [ku,T.ak,T.ah]
  rw [aH (by simp)]
  rfl
 | x::post,pre,hs,n,hn,k0,k1=>by
  obtain ⟨n,rfl⟩ : ∃ m',n=m'+1:=⟨n-1,by omega⟩
  simp only [List.length_cons] at hs hn
  have ih:=VJ m hm mp hp post (pre++[x]) (by simp; omega) n (by omega) k0 k1
  rw [aG,List.append_assoc,List.singleton_append] at ih
  have hB:decide ((0:Int)<=(pre.length:Int)/\(pre.length:Int)<((rO (pre++x::post)).length:Int))=true:=decide_eq_true (by simp; omega)
  simp only [ku,T.ak,T.ah,ixO,bA pre (by omega),o0,od1,od2,T.dR,hB,cond_true]
  rw [au (by simp <;> omega),al2 (by omega) mp x.key hp]
  simp only [T.aT,T.dR,show (⟨#[]⟩:ByteArray)=emp from rfl]
  show _=cond (acK mp x&&rU mp post) k1 (k0 (.b false))
  unfold acK
  cases hk:x.kind != 3 with
  | true=>simp only [cond_true,Bool.true_or,Bool.true_and]; exact ih
  | false =>
   simp only [cond_false,Bool.false_or]
   cases h1:(sJ x.key mp).2 == !(x.val.toList==emp.toList) with
   | false=>simp
   | true =>
    simp only [Bool.not_true,beq_self_eq_true,cond_true,Bool.true_and]
    cases h2:(sJ x.key mp).1.toList==x.val.toList with
    | false=>simp
    | true=>simp only [Bool.not_true,cond_false,Bool.true_and]; exact ih
theorem aiq {m:Nat} (hm:1048610<=m) (mp:List bI) (l:List iC) (hp:mp.length<=1048576) (hl:l.length<=1048576) (K:T->An):FW m (.l (rP mp)) (.l (rO l)) K=K (.b (rU mp l)):=by
 obtain ⟨m,rfl⟩ : ∃ m',m=m'+1:=⟨m-1,by omega⟩
 simp only [FW,T.ah]
 refine (VJ m (by omega) mp hp l [] (by simpa using hl) m (by omega) _ _).trans ?_
 cases rU mp l <;> rfl
def bE (k v:ByteArray):List bI->Option (List bI)
 | []=>none
 | p::l=>if keq p.key k then some (⟨p.key,v⟩::l) else (bE k v l).map (p :: ·)
def kle (a b:ByteArray):Bool:=Op.bytesLess a.toList b.toList||(a.toList==b.toList)
def Ew (k:ByteArray):List bI->Nat
 | []=>0
 | p::l=>if kle p.key k then Ew k l+1 else 0
theorem SB (k:ByteArray) : ∀ l,Ew k l<=l.length
 | []=>by simp [Ew]
 | r::l=>by
  have:=SB k l
  unfold Ew
  split <;> simp <;> omega
def ad3 (l:List bI) (k v:ByteArray):List bI:=match bE k v l with
 | some l'=>l'
 | none=>l.take (Ew k l)++[⟨k,v⟩]++l.drop (Ew k l)
theorem acL (k v:ByteArray) : ∀ {l l':List bI},bE k v l=some l'->l'.length=l.length
 | [],l',h=>by cases h
 | p::l,l',h=>by
  unfold bE at h
  split at h
  ·cases h; rfl
  ·cases h2:bE k v l with
   | none=>rw [h2] at h; cases h
   | some l2=>rw [h2] at h; cases h; simp [acL k v h2]
theorem air (l:List bI) (k v:ByteArray):(ad3 l k v).length<=l.length+1:=by
 unfold ad3
 split
 ·rename_i h; have:=acL k v h; omega
 ·have:=SB k l
  simp; omega
theorem VK (m:Nat) (l x1:T) (k v:ByteArray) : ∀ (post pre:List bI),pre.length+post.length<=4611686018427387->∀ n,post.length<n->∀ k0 k1,
  kY m n l (.s k) (.s v) (.i pre.length) (.l (rP (pre++post))) k0 k1 =
   match bE k v post with
   | some post'=>k0 (.l (rP (pre++post')))
   | none=>k1 l (.s k) (.s v)
 | [],pre,hs,n,hn,k0,k1=>by
  obtain ⟨n,rfl⟩ : ∃ m',n=m'+1:=⟨n-1,by omega⟩
  simp only [kY,T.ak,T.ah,bE]
  rw [aH (by simp)]
 | x::post,pre,hs,n,hn,k0,k1=>by
  obtain ⟨n,rfl⟩ : ∃ m',n=m'+1:=⟨n-1,by omega⟩
  simp only [List.length_cons] at hs hn
  have ih:=VK m l x1 k v post (pre++[x]) (by simp; omega) n (by omega) k0 k1
  rw [aG,List.append_assoc,List.singleton_append] at ih
  simp only [kY,T.ak,T.ah,ixP,bA pre (by omega),p0,T.dR]
  rw [au (by simp <;> omega),au (by simp <;> omega),au (by simp)]
  unfold bE
  cases hk:keq x.key k with
  | true =>
   rw [aD (show (x.key.toList==k.toList)=true from hk),au (by simp <;> omega),au (by simp)]
   have e:(rP (pre++x::post)).set (Int.toNat (pre.length:Int)) (x.r.set 1 (.s v))=rP (pre++⟨x.key,v⟩::post):=by
    simp only [rP,List.map_append,List.map_cons]
    have:=vZ (pre.map bI.r) x.r (x.r.set 1 (.s v)) (post.map bI.r)
    rw [List.length_map] at this
    exact this
   rw [e]; rfl
  | false =>
   rw [aO (show (x.key.toList==k.toList)=false from hk)]
   refine ih.trans ?_
   simp only [Bool.false_eq_true,if_false]
   cases bE k v post with
   | none=>rfl
   | some j=>simp
theorem VL (m:Nat) (k:ByteArray) (x2:T) : ∀ (post pre:List bI),pre.length+post.length<=4611686018427387->∀ n,post.length<n->∀ k0,
  kX m n (.l (rP (pre++post))) (.s k) x2 (.i pre.length) k0=k0 (.l (rP (pre++post))) (.s k) x2 (.i ((pre.length+Ew k post:Nat):Int))
 | [],pre,hs,n,hn,k0=>by
  obtain ⟨n,rfl⟩ : ∃ m',n=m'+1:=⟨n-1,by omega⟩
  simp only [kX,T.ak,T.ah,Ew]
  rw [aO (by simp)]
  rfl
 | x::post,pre,hs,n,hn,k0=>by
  obtain ⟨n,rfl⟩ : ∃ m',n=m'+1:=⟨n-1,by omega⟩
  simp only [List.length_cons] at hs hn
  have ih:=VL m k x2 post (pre++[x]) (by simp; omega) n (by omega) k0
  rw [aG,List.append_assoc,List.singleton_append] at ih
  simp only [kX,T.ak,T.ah,ixP,bA pre (by omega),Ew,p0,T.dR]
  rw [aD (by simp <;> omega),au (by simp <;> omega)]
  cases hk:kle x.key k with
  | true =>
   rw [aD (show (Op.bytesLess x.key.toList k.toList||(x.key.toList==k.toList))=true from hk)]
   refine ih.trans ?_
   have e:(pre++[x]).length+Ew k post=pre.length+(Ew k post+1):=by simp; omega
   rw [if_pos rfl,e]
  | false =>
   rw [aO (show (Op.bytesLess x.key.toList k.toList||(x.key.toList==k.toList))=false from hk)]
   rfl
theorem ajZ {m:Nat} (l:List bI) (k v:ByteArray) (hl:l.length<=1048576) (hm:1048580<=m) (K:T->An):BO m (.l (rP l)) (.s k) (.s v) K=K (.l (rP (ad3 l k v))):=by
 obtain ⟨m,rfl⟩ : ∃ m',m=m'+1:=⟨m-1,by omega⟩
 simp only [BO,T.ah]
 rw [au (by rw [xS]; unfold aS; omega)]
 refine (VK m (.l (rP l)) (.s k) k v l [] (by simp; omega) m (by omega) _ _).trans ?_
 unfold ad3
 cases bE k v l with
 | some j=>rfl
 | none =>
  simp only []
  refine (VL m k (.s v) l [] (by simp; omega) m (by omega) _).trans ?_
  have hc:=SB k l
  have e1:Int.toNat ((0+Ew k l:Nat):Int)=Ew k l:=by simp
  have e2:Int.toNat ((rP l).length:Int)=(rP l).length:=rfl
  simp only [T.ah,T.ak,List.nil_append,List.length_nil,e1,e2,List.take_length]
  rw [au (by simp; omega),au (by omega),au (by simp [aS]; omega),au (by simp [aS]; omega),au (by omega),au (by simp; omega),au (by simp [aS]; omega)]
  simp [rP,List.map_take,List.map_drop,bI.r]
def acM (l:List bI) (k:ByteArray):List bI:=l.filter fun p=>!keq p.key k
theorem acN (m:Nat) (k:ByteArray) : ∀ (post pre acc:List bI),pre.length+post.length<=1048576->acc.length+post.length<=1048576->∀ n,post.length<n->∀ k0,
  iY m n (.l (rP (pre++post))) (.s k) (.i pre.length) (.l (rP acc)) k0=k0 (.l (rP (acc++acM post k)))
 | [],pre,acc,hs,ha,n,hn,k0=>by
  obtain ⟨n,rfl⟩ : ∃ m',n=m'+1:=⟨n-1,by omega⟩
  simp only [iY,T.ak,T.ah]
  rw [aH (by simp)]
  simp [acM]
 | x::post,pre,acc,hs,ha,n,hn,k0=>by
  obtain ⟨n,rfl⟩ : ∃ m',n=m'+1:=⟨n-1,by omega⟩
  simp only [List.length_cons] at hs hn ha
  have ih:=fun acc ha=>acN m k post (pre++[x]) acc (by simp; omega) ha n (by omega) k0
  rw [aG,List.append_assoc,List.singleton_append] at ih
  simp only [iY,T.ak,T.ah,ixP,bA pre (by omega),p0,p1,T.dR,anH]
  rw [au (by simp <;> omega),au (by simp <;> omega)]
  unfold acM
  cases hk:keq x.key k with
  | true =>
   rw [show (x.key.toList==k.toList)=true from hk,List.filter_cons_of_neg (by simp [hk])]
   simp only [Bool.not_true,cond_false]
   exact ih acc (by omega)
  | false =>
   rw [show (x.key.toList==k.toList)=false from hk,List.filter_cons_of_pos (by simp [hk])]
   simp only [Bool.not_false,cond_true]
   rw [au (by simp <;> omega),au (by rw [xS]; unfold aS; omega)]
   have e:rP acc++[x.r]=rP (acc++[x]):=by simp
   rw [e,ih (acc++[x]) (by simp; omega),List.append_assoc]; rfl
theorem al3 {m:Nat} (hm:1048590<=m) (l:List bI) (k:ByteArray) (hl:l.length<=1048576) (K:T->An):BP m (.l (rP l)) (.s k) K=K (.l (rP (acM l k))):=by
 obtain ⟨m,rfl⟩ : ∃ m',m=m'+1:=⟨m-1,by omega⟩
 simp only [BP,T.ah]
 exact (acN m k l [] [] (by simpa using hl) (by simpa using hl) m (by omega) _).trans rfl
theorem ais (l:List bI) (k:ByteArray):(acM l k).length<=l.length:=List.length_filter_le _ _
def app1 (m:List bI) (o:iC):List bI:=if o.kind=1 then ad3 m o.key o.val else if o.kind=2 then acM m o.key else m
def AP (m:List bI) (l:List iC):List bI:=l.foldl app1 m
theorem VO (m:List bI) (o:iC):(app1 m o).length<=m.length+1:=by
 unfold app1
 split
 ·exact air _ _ _
 ·split
  ·have:=ais m o.key; omega
  ·omega
theorem VP : ∀ (l:List iC) (m:List bI),(AP m l).length<=m.length+l.length
 | [],m=>by simp [AP]
 | o::l,m=>by
  have h1:=VO m o
  have h2:=VP l (app1 m o)
  show (AP (app1 m o) l).length<=_
  simp; omega
theorem VQ (m:Nat) (hm:1048600<=m) : ∀ (post pre:List iC) (acc:List bI),pre.length+post.length<=1048576->acc.length+post.length<=1048576->∀ n,post.length<n->∀ k0,
  ig m n (.l (rO (pre++post))) (.i pre.length) (.l (rP acc)) k0=k0 (.l (rP (AP acc post)))
 | [],pre,acc,hs,ha,n,hn,k0=>by
  obtain ⟨n,rfl⟩ : ∃ m',n=m'+1:=⟨n-1,by omega⟩
  simp only [ig,T.ak,T.ah]
  rw [aH (by simp)]
  rfl
 | x::post,pre,acc,hs,ha,n,hn,k0=>by
  obtain ⟨n,rfl⟩ : ∃ m',n=m'+1:=⟨n-1,by omega⟩
  simp only [List.length_cons] at hs hn ha
  have h1:=VO acc x
  have ih:=VQ m hm post (pre++[x]) (app1 acc x) (by simp; omega) (by omega) n (by omega) k0
  rw [aG,List.append_assoc,List.singleton_append] at ih
  have hB:decide ((0:Int)<=(pre.length:Int)/\(pre.length:Int)<((rO (pre++x::post)).length:Int))=true:=decide_eq_true (by simp; omega)
  simp only [ig,T.ak,T.ah,ixO,bA pre (by omega),o0,od1,od2,hB,cond_true]
  rw [au (by simp <;> omega),ajZ acc x.key x.val (by omega) (by omega),al3 (by omega) acc x.key (by omega)]
  simp only [T.ah]
  show _=k0 (.l (rP (AP (app1 acc x) post)))
  rw [<-ih]
  unfold app1
  by_cases h1:x.kind=1
  ·rw [aD (by simp [h1]),if_pos h1]
  ·rw [aO (by simp [h1]),if_neg h1]
   by_cases h2:x.kind=2
   ·rw [aD (by simp [h2]),if_pos h2]
   ·rw [aO (by simp [h2]),if_neg h2]
theorem ait {m:Nat} (hm:1048610<=m) (mp:List bI) (l:List iC) (hs:mp.length+l.length<=1048576) (K:T->An):FY m (.l (rP mp)) (.l (rO l)) K=K (.l (rP (AP mp l))):=by
 obtain ⟨m,rfl⟩ : ∃ m',m=m'+1:=⟨m-1,by omega⟩
 simp only [FY,T.ah]
 rw [au (by rw [xS]; unfold aS; omega)]
 exact (VQ m (by omega) l [] mp (by simp; omega) (by omega) m (by omega) _).trans rfl
end Go.Proofs.YtpmbniddgaecpaaGreat

namespace Go.Proofs.YtpmbniddgaecpaaGreat
open Go Go.E Go.Proofs
abbrev rR (l:List bK):List (List T):=l.map bK.r
theorem lV (l:List bK):(rR l).length=l.length:=by simp
theorem ixR (pre:List bK) (x:bK) (post:List bK):(rR (pre++x::post)).getD (Int.toNat (pre.length:Int)) []=x.r:=by simp [List.getD]
theorem r0 (x:bK):x.r.getD 0 dflt = .i x.kind:=rfl
theorem r1 (x:bK):x.r.getD 1 dflt = .i x.tx:=rfl
theorem r2 (x:bK):x.r.getD 2 dflt = .l (rO x.ops):=rfl
theorem rd1 (x:bK):(x.r.drop 1).getD 0 dflt = .i x.tx:=rfl
theorem rd2 (x:bK):(x.r.drop 2).getD 0 dflt = .l (rO x.ops):=rfl
theorem anJ (x:bK):[T.i x.kind,T.i x.tx,T.l (rO x.ops)]=x.r:=rfl
def OO (r:bK):Prop:=r.ops.length<=400000 /\ ∀ o∈r.ops,BOp o
def anK (l:List bK):Prop:=l.length<=400000 /\ ∀ r∈l,OO r
theorem OO.ops {r:bK} (h:OO r):qQ r.ops:=⟨by have:=h.1; omega,h.2⟩
def wS (tx:Int):List bK->Option Nat
 | []=>none
 | r::l=>if r.tx=tx then some 0 else (wS tx l).map (· + 1)
theorem Gw {tx:Int} : ∀ {l:List bK} {j:Nat},wS tx l=some j->j<l.length
 | [],j,h=>by cases h
 | r::l,j,h=>by
  unfold wS at h
  split at h
  ·cases h; simp
  ·cases h2:wS tx l with
   | none=>rw [h2] at h; cases h
   | some i=>rw [h2] at h; cases h; have:=Gw h2; simp; omega
def atI (tx:Int) (l:List bK):Int:=match wS tx l with | some j=>(j:Int) | none=>-1
theorem at_loop (m:Nat) (tx:Int) : ∀ (post pre:List bK),pre.length+post.length<=1048576->∀ n,post.length<n->∀ k0 k1,
  nQ m n (.l (rR (pre++post))) (.i tx) (.i pre.length) k0 k1=match wS tx post with
   | some j=>k0 (.i ((pre.length+j:Nat):Int))
   | none=>k1
 | [],pre,hs,n,hn,k0,k1=>by
  obtain ⟨n,rfl⟩ : ∃ m',n=m'+1:=⟨n-1,by omega⟩
  simp only [nQ,T.ak,T.ah,wS]
  rw [aH (by simp)]
 | x::post,pre,hs,n,hn,k0,k1=>by
  obtain ⟨n,rfl⟩ : ∃ m',n=m'+1:=⟨n-1,by omega⟩
  simp only [List.length_cons] at hs hn
  have ih:=at_loop m tx post (pre++[x]) (by simp; omega) n (by omega) k0 k1
  rw [aG,List.append_assoc,List.singleton_append] at ih
  simp only [nQ,T.ak,T.ah,ixR,bA pre (by omega),rd1]
  rw [au (by simp <;> omega),au (by simp <;> omega)]
  unfold wS
  by_cases h:x.tx=tx
  ·rw [aD (by simpa using h),if_pos h]; rfl
  ·rw [aO (by simpa using h),if_neg h,ih]
   cases wS tx post with
   | none=>rfl
   | some j =>
    have e:(pre++[x]).length+j=pre.length+(j+1):=by simp; omega
    simp only [Option.map_some,e]
theorem anL {m:Nat} (hm:1048590<=m) (l:List bK) (tx:Int) (hl:l.length<=1048576) (K:T->An):Kk m (.l (rR l)) (.i tx) K=K (.i (atI tx l)):=by
 obtain ⟨m,rfl⟩ : ∃ m',m=m'+1:=⟨m-1,by omega⟩
 simp only [Kk,T.ah]
 refine (at_loop m tx l [] (by simpa using hl) m (by omega) _ _).trans ?_
 unfold atI
 cases wS tx l <;> simp
def OP (ops:List iC) (o:iC):Bool:=ops.any fun q=>keq o.key q.key
def VR (ops:List iC) (r:bK):Bool:=r.ops.any (OP ops)
def o8 (held:List bK) (ops:List iC):Bool:=held.any (VR ops)
theorem akS (m:Nat) (hp hq:List bK) (r:bK) (op oq:List iC) (o:iC) (hr:r.ops=op++o::oq) (h1:hp.length<=1048576) (h2:op.length<=1048576) : ∀ (post pre:List iC),pre.length+post.length<=1048576->∀ n,post.length<n->∀ k0 k1,
  iV m n (.l (rR (hp++r::hq))) (.l (rO (pre++post))) (.i hp.length) (.i op.length) (.i pre.length) k0 k1=cond (OP post o) (k0 (.b true)) (k1 (.l (rR (hp++r::hq))) (.l (rO (pre++post))) (.i hp.length) (.i op.length))
 | [],pre,hs,n,hn,k0,k1=>by
  obtain ⟨n,rfl⟩ : ∃ m',n=m'+1:=⟨n-1,by omega⟩
  simp only [iV,T.ak,T.ah]
  rw [aH (by simp)]
  rfl
 | x::post,pre,hs,n,hn,k0,k1=>by
  obtain ⟨n,rfl⟩ : ∃ m',n=m'+1:=⟨n-1,by omega⟩
  simp only [List.length_cons] at hs hn
  have ih:=akS m hp hq r op oq o hr h1 h2 post (pre++[x]) (by simp; omega) n (by omega) k0 k1
  rw [aG,List.append_assoc,List.singleton_append] at ih
  simp only [iV,T.ak,T.ah,ixR,ixO,bA pre (by omega),rd2,hr,od1,T.dR]
  rw [au (by simp <;> omega),au (by simp <;> omega),au (by simp <;> omega),au (by simp <;> omega)]
  show _=cond (keq o.key x.key||OP post o) _ _
  cases h:keq o.key x.key with
  | true=>rw [aD (show (o.key.toList==x.key.toList)=true from h)]; rfl
  | false=>rw [aO (show (o.key.toList==x.key.toList)=false from h),ih]; rfl
theorem akT (m:Nat) (hp hq:List bK) (r:bK) (ops:List iC) (h1:hp.length<=1048576) (h2:r.ops.length<=1048576) (h3:ops.length<=1048576) : ∀ (oq op:List iC),r.ops=op++oq->∀ n,oq.length+ops.length+1<n->∀ k0 k1,
  iW m n (.l (rR (hp++r::hq))) (.l (rO ops)) (.i hp.length) (.i op.length) k0 k1=cond (oq.any (OP ops)) (k0 (.b true)) (k1 (.l (rR (hp++r::hq))) (.l (rO ops)) (.i hp.length))
 | [],op,hr,n,hn,k0,k1=>by
  obtain ⟨n,rfl⟩ : ∃ m',n=m'+1:=⟨n-1,by omega⟩
  simp only [iW,T.ak,T.ah,ixR,rd2,hr]
  rw [au (by simp <;> omega),aH (by simp)]
  rfl
 | o::oq,op,hr,n,hn,k0,k1=>by
  obtain ⟨n,rfl⟩ : ∃ m',n=m'+1:=⟨n-1,by omega⟩
  simp only [List.length_cons] at hn
  have hlo:op.length+(oq.length+1)<=1048576:=by rw [hr] at h2; simpa using h2
  have ih:=akT m hp hq r ops h1 h2 h3 oq (op++[o]) (by rw [hr]; simp) n (by omega) k0 k1
  rw [aG] at ih
  have l2:=akS m hp hq r op oq o hr h1 (by omega) ops [] (by simpa using h3) n (by omega) k0
  simp only [List.nil_append,List.length_nil,Int.natCast_zero] at l2
  simp only [iW,T.ak,T.ah,ixR,rd2,hr]
  rw [au (by simp <;> omega),au (by simp <;> omega)]
  refine (l2 _).trans ?_
  simp only [T.ak,bA op (by omega),List.any_cons]
  rw [ih]
  cases OP ops o <;> rfl
theorem akU (m:Nat) (ops:List iC) (h3:ops.length<=1048576) : ∀ (hq hp:List bK),(∀ r∈hq,r.ops.length<=1048576)->hp.length+hq.length<=1048576->∀ n,hq.length+ops.length+1048580<n->∀ k0 k1,
  iX m n (.l (rR (hp++hq))) (.l (rO ops)) (.i hp.length) k0 k1=cond (o8 hq ops) (k0 (.b true)) k1
 | [],hp,ho,hs,n,hn,k0,k1=>by
  obtain ⟨n,rfl⟩ : ∃ m',n=m'+1:=⟨n-1,by omega⟩
  simp only [iX,T.ak,T.ah]
  rw [aH (by simp)]
  rfl
 | r::hq,hp,ho,hs,n,hn,k0,k1=>by
  obtain ⟨n,rfl⟩ : ∃ m',n=m'+1:=⟨n-1,by omega⟩
  simp only [List.length_cons] at hn hs
  have hr:=ho r (by simp)
  have ih:=akU m ops h3 hq (hp++[r]) (fun q hq=>ho q (by simp [hq])) (by simp; omega) n (by omega) k0 k1
  rw [aG,List.append_assoc,List.singleton_append] at ih
  simp only [iX,T.ak,T.ah]
  rw [au (by simp <;> omega)]
  have l1:=akT m hp hq r ops (by omega) hr h3 r.ops [] rfl n (by omega) k0
  simp only [List.length_nil,Int.natCast_zero] at l1
  refine (l1 _).trans ?_
  simp only [T.ak,bA hp (by omega)]
  show cond (VR ops r) _ _=cond (VR ops r||o8 hq ops) _ _
  rw [ih]
  cases VR ops r <;> rfl
theorem agm {m:Nat} (hm:3200000<=m) (held:List bK) (ops:List iC) (h1:held.length<=1048576) (h2 : ∀ r∈held,r.ops.length<=1048576) (h3:ops.length<=1048576) (K:T->An) :
  vT m (.l (rR held)) (.l (rO ops)) K=K (.b (o8 held ops)):=by
 obtain ⟨m,rfl⟩ : ∃ m',m=m'+1:=⟨m-1,by omega⟩
 simp only [vT,T.ah]
 refine (akU m ops h3 held [] h2 (by simpa using h1) m (by omega) _ _).trans ?_
 cases o8 held ops <;> rfl
def p8 (r:bK):Bool:=decide (1<=r.tx/\r.tx<=1000000)&&(if r.kind=1 then mK r.ops else if r.kind=2\/r.kind=3 then r.ops.length==0 else false)
theorem aiu {m:Nat} (hm:1048610<=m) (r:bK) (h:OO r) (K:T->An):FU m (.i r.kind) (.i r.tx) (.l (rO r.ops)) K=K (.b (p8 r)):=by
 obtain ⟨m,rfl⟩ : ∃ m',m=m'+1:=⟨m-1,by omega⟩
 have e0:(((rO r.ops).length:Int)==0)=(r.ops.length==0):=by rw [nD]; cases r.ops <;> simp <;> omega
 simp only [FU,T.ah,T.ak]
 rw [nM (by omega)]
 simp only [T.aT,e0]
 unfold p8
 cases h1:decide (1<=r.tx/\r.tx<=1000000) with
 | false=>rfl
 | true =>
  simp only [Bool.not_true,cond_false,Bool.true_and]
  by_cases k1:r.kind=1
  ·rw [aD (by simp [k1]),if_pos k1,Gu (by omega) r.ops h.ops]
  ·rw [aO (by simp [k1]),if_neg k1]
   by_cases k2:r.kind=2
   ·rw [aD (by simp [k2]),if_pos (.inl k2)]
   ·rw [aO (by simp [k2])]
    by_cases k3:r.kind=3
    ·rw [aD (by simp [k3]),if_pos (.inr k3)]
    ·rw [aO (by simp [k3]),if_neg (by simp [k2,k3])]
theorem aj0 {m:Nat} (hm:1<=m) (l:List iC) (h:l.length<=1048576) (K:T->An):tV m (.l (rO l)) K=K (.l (rO l)):=by
 obtain ⟨m,rfl⟩ : ∃ m',m=m'+1:=⟨m-1,by omega⟩
 simp only [tV,T.ah,nD]
 rw [au (by unfold aS; omega)]
theorem aj1 {m:Nat} (hm:2<=m) (a b:T) (l:List iC) (h:l.length<=1048576) (K:T->T->T->An):tX m a b (.l (rO l)) K=K a b (.l (rO l)):=by
 obtain ⟨m,rfl⟩ : ∃ m',m=m'+1:=⟨m-1,by omega⟩
 simp only [tX,T.ah]
 rw [aj0 (by omega) l h]
 rfl
structure St where
 map:List bI
 held:List bK
 seen:List Int
def uJ (s:St) (r:bK):Bool×St :=
 if p8 r=false then (false,s)
 else if r.kind=1 then
  if decide (r.tx∈s.seen)||o8 s.held r.ops || !rU s.map r.ops then (false,s)
  else (true,⟨s.map,s.held++[r],s.seen++[r.tx]⟩)
 else match wS r.tx s.held with
  | none=>(r.kind==3 && !decide (r.tx∈s.seen),⟨s.map,s.held,s.seen++[r.tx]⟩)
  | some j =>
   let m':=if r.kind=2 then AP s.map (s.held.getD j default).ops else s.map
   (decide (m'.length<=60),⟨m',s.held.take j++s.held.drop (j+1),s.seen⟩)
structure BSt (s:St):Prop where
 map:s.map.length<=400000
 held:anK s.held
 seen:s.seen.length<=400000
theorem SC {α:Type} [Inhabited α] (l:List α) {j:Nat} (h:j<l.length) : ∃ pre x post,l=pre++x::post/\pre.length=j/\l.getD j default=x/\l.take j=pre/\l.drop (j+1)=post :=
 ⟨l.take j,l[j],l.drop (j+1),by simp,by simp; omega,by simp [List.getD,h],rfl,rfl⟩
theorem aj2 (n:Nat):decide ((n:Int)<=60)=decide (n<=60):=decide_eq_decide.2 (by omega)
theorem al5 {m:Nat} (hm:3200010<=m) (s:St) (hs:BSt s) (r:bK) (hr:OO r) (J:T->T->T->T->An) :
  F3 m (.l (rP s.map)) (.l (rR s.held)) (.l (ir s.seen)) (.i r.kind) (.i r.tx) (.l (rO r.ops)) (fun a b c d=>J a b c d) (fun a _ b c d=>J a b c d) =
   J (.b (uJ s r).1) (.l (rP (uJ s r).2.map)) (.l (rR (uJ s r).2.held)) (.l (ir (uJ s r).2.seen)):=by
 obtain ⟨m,rfl⟩ : ∃ m',m=m'+1:=⟨m-1,by omega⟩
 have hmp:=hs.map
 have hhl:=hs.held.1
 have hsl:=hs.seen
 have hol:=hr.1
 simp only [F3,T.ah]
 rw [anL (by omega) s.held r.tx (by omega),aiu (by omega) r hr]
 simp only [T.aT,T.ak]
 unfold uJ
 cases h1:p8 r with
 | false=>rfl
 | true =>
  simp only [Bool.not_true,cond_false,Bool.true_eq_false,if_false]
  by_cases k1:r.kind=1
  ·rw [aD (by simp [k1]),if_pos k1,jn,aaI s.seen r.tx (by omega) (by omega)]
   simp only [T.aT,k1]
   cases h2:decide (r.tx∈s.seen) with
   | true=>simp
   | false =>
    rw [aD (by rfl),agm (by omega) s.held r.ops (by omega) (fun q hq=>by have:=(hs.held.2 q hq).1; omega) (by omega)]
    simp only [T.aT,Bool.false_or]
    cases h3:o8 s.held r.ops with
    | true=>simp
    | false =>
     rw [aD (by rfl),aiq (by omega) s.map r.ops (by omega) (by omega)]
     simp only [T.aT,Bool.false_or]
     cases h4:rU s.map r.ops with
     | false=>simp
     | true =>
      simp only [Bool.not_true,cond_false,Bool.false_eq_true,if_false]
      rw [aj1 (by omega) _ _ r.ops (by omega),au (by rw [lV]; unfold aS; omega),au (by rw [gD]; unfold aS; omega)]
      have e:T.i 1=T.i r.kind:=by rw [k1]
      simp only [T.ah,e,anJ]
      simp [rR,ir,kF]
  ·rw [aO (by simp [k1]),if_neg k1]
   unfold atI
   cases hf:wS r.tx s.held with
   | none =>
    simp only []
    rw [au (by omega)]
    by_cases k3:r.kind=3
    ·rw [aD (by simp [k3]),aaI s.seen r.tx (by omega) (by omega),au (by rw [gD]; unfold aS; omega)]
     simp [k3,ir,kF]
    ·rw [aO (by simp [k3]),au (by rw [gD]; unfold aS; omega),beq_eq_false_iff_ne.2 k3]
     simp [ir,kF]
   | some j =>
    obtain ⟨pre,x,post,e1,rfl,e3,e4,e5⟩:=SC s.held (Gw hf)
    have hxl:x.ops.length<=400000:=(hs.held.2 x (by rw [e1]; simp)).1
    have hpl:pre.length+post.length+1<=400000:=by rw [e1] at hhl; simp at hhl; omega
    simp only [e3,e4,e5]
    rw [e1]
    have f1:IntKind.i64.wrap ((pre.length:Int)+1)=(pre.length:Int)+1:=bA pre (by omega)
    have f2:Int.toNat ((pre.length:Int)+1)=pre.length+1:=by omega
    have f3:(rR (pre++x::post)).take (Int.toNat (pre.length:Int))=rR pre:=by simp [rR]
    have f4:((rR (pre++x::post)).take (Int.toNat ((rR (pre++x::post)).length:Int))).drop (pre.length+1)=rR post:=by
     rw [Int.toNat_natCast,List.take_length]
     simp [rR,List.drop_append,Nat.add_sub_cancel_left]
    have f5:(rR (pre++x::post)).length=pre.length+post.length+1:=by simp; omega
    simp only [ixR,r2,f1,f2,f3,f4,T.ah]
    rw [aH (by omega)]
    by_cases k2:r.kind=2
    ·rw [aD (by simp [k2]),if_pos k2,ait (by omega) s.map x.ops (by omega)]
     simp only [T.ah]
     rw [au (by omega),au (by omega),au (by omega),au (by omega),au (by rw [lV]; unfold aS; omega),au (by omega),au (by omega),au (by rw [lV,lV]; unfold aS; omega)]
     rw [xS,aj2]
     simp [rR]
    ·rw [aO (by simp [k2]),if_neg k2]
     rw [au (by omega),au (by omega),au (by rw [lV]; unfold aS; omega),au (by omega),au (by omega),au (by rw [lV,lV]; unfold aS; omega)]
     rw [xS,aj2]
     simp [rR]
end Go.Proofs.YtpmbniddgaecpaaGreat

namespace Go.Proofs.YtpmbniddgaecpaaGreat
open Go Go.E Go.Proofs
def aiv (r:bK):Prop:=r.ops.length<=8 /\ ∀ o∈r.ops,BOp o
theorem aiv.b {r:bK} (h:aiv r):OO r:=⟨by have:=h.1; omega,h.2⟩
theorem YF {l:List iC} (h:mK l=true):1<=l.length/\l.length<=8:=by
 unfold mK at h
 simp only [Bool.and_eq_true,decide_eq_true_eq] at h
 exact h.2
def fK:St->List bK->Option St
 | s,[]=>some s
 | s,r::l=>if (uJ s r).1 then fK (uJ s r).2 l else none
def st0:St:=⟨[],[],[]⟩
structure GSt (k:Nat) (s:St):Prop where
 map:s.map.length<=8 * k
 YG:s.held.length<=k
 held : ∀ r∈s.held,aiv r
 seen:s.seen.length<=k
theorem GSt.b {k:Nat} {s:St} (h:GSt k s) (hk:k<=20000):BSt s:=⟨by have:=h.map; omega,⟨by have:=h.YG; omega,fun r hr=>(h.held r hr).b⟩,by have:=h.seen; omega⟩
theorem GSt.mono {k k':Nat} {s:St} (h:GSt k s) (hk:k<=k'):GSt k' s:=⟨by have:=h.map; omega,by have:=h.YG; omega,h.held,by have:=h.seen; omega⟩
theorem afq {α:Type} {l:List α} {j:Nat} {x:α} (h:x∈l.take j++l.drop (j+1)):x∈l:=by
 rcases List.mem_append.1 h with h | h
 ·exact List.mem_of_mem_take h
 ·exact List.mem_of_mem_drop h
theorem aix {k:Nat} {s:St} (h:GSt k s) {r:bK} (hr : ∀ o∈r.ops,BOp o):GSt (k+1) (uJ s r).2:=by
 have h1:=h.map
 have h2:=h.YG
 have h3:=h.seen
 unfold uJ
 split
 ·exact h.mono (by omega)
 ·rename_i hok
  split
  ·rename_i hk
   split
   ·exact h.mono (by omega)
   ·refine ⟨by simp; omega,by simp; omega,fun q hq=>?_,by simp; omega⟩
    rcases List.mem_append.1 hq with hq | hq
    ·exact h.held q hq
    ·rw [List.mem_singleton.1 hq]
     refine ⟨?_,hr⟩
     simp only [Bool.not_eq_false] at hok
     unfold p8 at hok
     rw [if_pos hk] at hok
     simp only [Bool.and_eq_true] at hok
     exact (YF hok.2).2
  ·split
   ·refine ⟨by simp; omega,by simp; omega,h.held,by simp; omega⟩
   ·rename_i j hj
    refine ⟨?_,?_,fun q hq=>h.held q (afq hq),by simp; omega⟩
    ·simp only
     split
     ·have e:=VP (s.held.getD j default).ops s.map
      obtain ⟨pre,x,post,e1,-,e3,-⟩:=SC s.held (Gw hj)
      have:=(h.held x (by rw [e1]; simp)).1
      rw [e3] at e ⊢
      omega
     ·omega
    ·have:=Gw hj
     simp; omega
theorem Q0 (m:Nat) (hm:3200010<=m) : ∀ (post pre:List bK) (k:Nat) (s:St),GSt k s->k+post.length<=20000->(∀ r∈post,OO r)->pre.length+post.length<=1048576->∀ n,post.length<n->∀ k0 k1,
  eO m n (.l (rR (pre++post))) (.i 0) (.i pre.length) (.l (rP s.map)) (.l (rR s.held)) (.l (ir s.seen)) k0 k1=match fK s post with
   | none=>k0 (.b false) (.l []) (.l [])
   | some s'=>k1 (.i 0) (.l (rP s'.map)) (.l (rR s'.held)) (.l (ir s'.seen))
 | [],pre,k,s,hg,hk,hr,hs,n,hn,k0,k1=>by
  obtain ⟨n,rfl⟩ : ∃ m',n=m'+1:=⟨n-1,by omega⟩
  simp only [eO,T.ak,T.ah,fK]
  rw [aH (by simp)]
  rfl
 | x::post,pre,k,s,hg,hk,hr,hs,n,hn,k0,k1=>by
  obtain ⟨n,rfl⟩ : ∃ m',n=m'+1:=⟨n-1,by omega⟩
  simp only [List.length_cons] at hs hn hk
  have hx:=hr x (by simp)
  have ih:=Q0 m hm post (pre++[x]) (k+1) (uJ s x).2 (aix hg hx.2) (by omega) (fun r h=>hr r (by simp [h])) (by simp; omega) n (by omega) k0 k1
  rw [aG,List.append_assoc,List.singleton_append] at ih
  simp only [eO,T.ak,T.ah,ixR,bA pre (by omega),r0,r1,r2]
  rw [au (by simp <;> omega),au (by simp <;> omega)]
  refine (al5 hm s (hg.b (by omega)) x hx (fun a b c d=>cond (!a.bool) (k0 (.b false) (.l []) (.l [])) (eO m n (.l (rR (pre++x::post))) (T.i (((0:Int).toNat:Nat):Int)) (T.i ((pre.length:Int)+1)) (T.l b.rows) (T.l c.rows) (T.l d.rows) k0 k1))).trans ?_
  simp only [T.aT,T.ah]
  unfold fK
  cases h:(uJ s x).1 with
  | false=>rfl
  | true=>exact ih
def mapOf (o:Option St):List bI:=match o with | some s=>s.map | none=>[]
def DU (o:Option St):List bK:=match o with | some s=>s.held | none=>[]
def fO (l:List bK):Option St:=fK st0 l
theorem agn {m:Nat} (hm:3200020<=m) (l:List bK) (hl:l.length<=10000) (hr : ∀ r∈l,OO r) (K:T->T->T->An) :
  qW m (.l (rR l)) K=K (.l (rP (mapOf (fO l)))) (.l (rR (DU (fO l)))) (.b (fO l).isSome):=by
 obtain ⟨m,rfl⟩ : ∃ m',m=m'+1:=⟨m-1,by omega⟩
 simp only [qW,T.ah]
 refine (Q0 m (by omega) l [] 0 st0 ⟨by simp [st0],by simp [st0],by simp [st0],by simp [st0]⟩ (by omega) hr (by simp; omega) m (by omega) _ _).trans ?_
 unfold fO
 cases fK st0 l <;> rfl
def apI (tx:Int) (acc:Int) (r:bK):Int:=if r.tx=tx then (if r.kind=2 then 3 else if r.kind=3 then 4 else acc) else acc
def JR (s:aQ) (tx:Int):Int:=if (wS tx s.held).isSome then 1 else s.log.foldl (apI tx) 2
def aaM (l:List bK):Nat:=(l.map fun r=>r.ops.length).sum
def anM (s:aQ) (ops:List iC):Nat:=s.map.length+ops.length+aaM s.held
def ad4 (s:aQ) (r:bK):aQ:={ s with log:=s.log++[r],map:=(uJ ⟨s.map,s.held,[]⟩ r).2.map,held:=(uJ ⟨s.map,s.held,[]⟩ r).2.held }
structure ad5 (s:aQ):Prop where
 apJ:s.log.length<=1000
 log : ∀ r∈s.log,aiv r
 YG:s.held.length<=1000
 held : ∀ r∈s.held,aiv r
 map:s.map.length<=10000
 sure:0<=s.sure/\s.sure<=s.log.length
theorem ad5.st {s:aQ} (h:ad5 s):BSt ⟨s.map,s.held,[]⟩:=⟨by have:=h.map; simp; omega,⟨by have:=h.YG; simp; omega,fun r hr=>(h.held r hr).b⟩,by simp⟩
def afr (s:aQ) (tx:Int) (ops:List iC):Int×aQ :=
 if decide (1<=tx/\tx<=1000000)=false\/mK ops=false then (5,s)
 else if JR s tx≠2 then (JR s tx,s)
 else if o8 s.held ops=true\/rU s.map ops=false\/60<anM s ops\/300<s.log.length+s.held.length+2 then (2,s)
 else (1,ad4 s ⟨1,tx,ops⟩)
theorem agp {B:Nat} : ∀ {l:List bK},(∀ r∈l,r.ops.length<=B)->aaM l<=l.length * B
 | [],_=>by simp [aaM]
 | r::l,h=>by
  have h1:=h r (by simp)
  have h2:=agp (B:=B) (l:=l) fun q hq=>h q (List.mem_cons_of_mem _ hq)
  simp only [aaM,List.map_cons,List.sum_cons,List.length_cons] at *
  rw [Nat.add_mul]; omega
def SE (s:aQ) (tx:Int) (yes:Bool):Bool×aQ :=
 if decide (1<=tx/\tx<=1000000)=false then (false,s)
 else if JR s tx=1 then (true,ad4 s ⟨if yes then 2 else 3,tx,[]⟩)
 else if JR s tx=3 then (yes,s)
 else if JR s tx=4 then (!yes,s)
 else if yes=true\/300<=s.log.length+s.held.length then (false,s)
 else (true,ad4 s ⟨3,tx,[]⟩)
def aiy (s:aQ) (keep:Int):aQ :=
 let k:=min (max keep 0) (s.log.length-s.sure)
 let l:=s.log.take (s.sure+k).toNat
 { s with log:=l,sure:=l.length,map:=mapOf (fO l),held:=DU (fO l) }
end Go.Proofs.YtpmbniddgaecpaaGreat

namespace Go.Proofs.YtpmbniddgaecpaaGreat
open Go Go.E Go.Proofs
abbrev rW (l:List cB):List (List T):=l.map cB.r
theorem ad6 (l:List cB):(rW l).length=l.length:=by simp
theorem MH (ops:List iC) (s N:Int):(qK ops s N).length<=ops.length:=List.length_filter_le _ _
theorem arW (pre:List Int) (x:Int) (post:List Int):((ir (pre++x::post)).getD (Int.toNat (pre.length:Int)) []).getD 0 dflt = .i x:=ixI pre x post
def anN (n tx:Int) (ops:List iC) (s:Int):cB:=⟨1,s,tx,qK ops s n,false⟩
def VT (n tx:Int) (ops:List iC) (yes:List Int) (sh:List Int):List cB:=(sh.filter fun s=>!decide (s∈yes)).map (anN n tx ops)
structure aiz (c:uy):Prop where
 n:1<=c.n/\c.n<=8
 life:1<=c.life/\c.life<=900
 next:0<=c.next/\c.next<=999
 apK:c.jobs.length<=10000
 jobs : ∀ j∈c.jobs,qQ j.ops/\j.ops.length<=8/\j.yes.length<=100000
 apJ:c.log.length<=10000
 sure:0<=c.sure/\c.sure<=c.log.length
def JU (c:uy) (ops:List iC):List cB×Int×uy :=
 if mK ops=false\/c.next=999\/1000<=c.log.length then ([],0,c)
 else (VT c.n (c.life * 1000+c.next) ops [] (dS ops c.n),c.life * 1000+c.next,{ c with next:=c.next+1,jobs:=c.jobs++[⟨c.life * 1000+c.next,ops,1,[]⟩] })
def agq (tx:Int):List iD->Option Nat
 | []=>none
 | r::l=>if r.tx=tx then some 0 else (agq tx l).map (· + 1)
theorem aj3 {tx:Int} : ∀ {l:List iD} {j:Nat},agq tx l=some j->j<l.length
 | [],j,h=>by cases h
 | r::l,j,h=>by
  unfold agq at h
  split at h
  ·cases h; simp
  ·cases h2:agq tx l with
   | none=>rw [h2] at h; cases h
   | some i=>rw [h2] at h; cases h; have:=aj3 h2; simp; omega
def aqA (tx:Int) (l:List iD):Int:=match agq tx l with | some j=>(j:Int) | none=>-1
def anO (c:uy) (s tx:Int) (yes:Bool):uy:=match agq tx c.jobs with
 | none=>c
 | some k =>
  let j:=c.jobs.getD k default
  if j.state≠1\/1000<=c.log.length then c
  else if s ∉ dS j.ops c.n then c
  else if yes=false then { c with jobs:=c.jobs.take k ++ { j with state:=3 } :: c.jobs.drop (k+1),log:=c.log++[⟨tx,false⟩] }
  else if (MF j.yes s).length=(dS j.ops c.n).length then { c with jobs:=c.jobs.take k ++ { j with yes:=MF j.yes s,state:=2 } :: c.jobs.drop (k+1),log:=c.log++[⟨tx,true⟩] }
  else { c with jobs:=c.jobs.take k ++ { j with yes:=MF j.yes s } :: c.jobs.drop (k+1) }
theorem apL (pre:List iD) (x y:iD) (post:List iD):(rJ (pre++x::post)).set (Int.toNat (pre.length:Int)) y.r=rJ (pre++y::post):=by
 simp [List.set_append]
theorem aqB (log:List aZ) (tx:Int) (b:Bool):rC log++[[T.i tx,T.b b]]=rC (log++[⟨tx,b⟩]):=by simp [aZ.r]
def SF (c:uy) (tx:Int):Bool×Bool :=
 if tx<1000 then (false,false)
 else match Ev tx c.log with
  | some k=>((c.log.getD k default).yes&&decide ((k:Int)<c.sure),decide ((k:Int)<c.sure))
  | none=>(false,decide (tx<c.life * 1000))
def afs (tx:Int) (yes:Bool) (s:Int):cB:=⟨3,s,tx,[],yes⟩
def P8 (c:uy) (j:iD):List cB :=
 if j.state=1 then VT c.n j.tx j.ops j.yes (dS j.ops c.n)
 else if (SF c j.tx).2 then (dS j.ops c.n).map (afs j.tx (SF c j.tx).1) else []
def VU (c:uy):List cB:=c.jobs.flatMap (P8 c)
theorem ad7 (c:uy) (j:iD):(P8 c j).length<=j.ops.length:=by
 have s1:=sI j.ops c.n
 unfold P8
 split
 ·unfold VT
  rw [List.length_map]
  exact Nat.le_trans (List.length_filter_le _ _) s1
 ·split
  ·simpa using s1
  ·simp
def aft (c:uy) (keep:Int):Bool×uy :=
 if c.life=900 then (false,c)
 else
  let k:=min (max keep 0) (c.log.length-c.sure)
  let l:=c.log.take (c.sure+k).toNat
  (true,{ c with log:=l,sure:=l.length,life:=c.life+1,next:=0,jobs:=[] })
end Go.Proofs.YtpmbniddgaecpaaGreat

namespace Go.Proofs.YtpmbniddgaecpaaGreat
open Go Go.E Go.Proofs
abbrev rS (l:List aQ):List (List T):=l.map aQ.r
abbrev rB (l:List dQ):List (List T):=l.map dQ.r
theorem p9 (l:List aQ):(rS l).length=l.length:=by simp
theorem uE (l:List dQ):(rB l).length=l.length:=by simp
theorem ixW (pre:List cB) (x:cB) (post:List cB):(rW (pre++x::post)).getD (Int.toNat (pre.length:Int)) []=x.r:=by simp [List.getD]
theorem ixS (pre:List aQ) (x:aQ) (post:List aQ):(rS (pre++x::post)).getD (Int.toNat (pre.length:Int)) []=x.r:=by simp [List.getD]
theorem w0 (x:cB):x.r.getD 0 dflt = .i x.kind:=rfl
theorem w1 (x:cB):x.r.getD 1 dflt = .i x.nG:=rfl
theorem w2 (x:cB):x.r.getD 2 dflt = .i x.tx:=rfl
theorem w3 (x:cB):x.r.getD 3 dflt = .l (rO x.ops):=rfl
theorem w4 (x:cB):x.r.getD 4 dflt = .b x.yes:=rfl
theorem aqD (x:cB):[T.i x.kind,T.i x.nG,T.i x.tx,T.l (rO x.ops),T.b x.yes]=x.r:=rfl
theorem s0 (x:aQ):x.r.headD dflt = .i x.id:=rfl
theorem s1 (x:aQ):x.r.tail.headD dflt = .l (rR x.log):=rfl
theorem s2 (x:aQ):x.r.tail.tail.headD dflt = .i x.sure:=rfl
theorem s3 (x:aQ):x.r.tail.tail.tail.headD dflt = .l (rP x.map):=rfl
theorem s4 (x:aQ):x.r.tail.tail.tail.tail.headD dflt = .l (rR x.held):=rfl
theorem sg1 (x:aQ):x.r.getD 1 dflt = .l (rR x.log):=rfl
theorem sg4 (x:aQ):x.r.getD 4 dflt = .l (rR x.held):=rfl
theorem apM (pre:List aQ) (x y:aQ) (post:List aQ):(rS (pre++x::post)).set (Int.toNat (pre.length:Int)) y.r=rS (pre++y::post):=by
 simp [List.set_append]
def acO (x:cB):Prop:=qQ x.ops/\x.ops.length<=8
structure apN (w:bO):Prop where
 c:aiz w.c
 shl:w.aI.length<=1000
 sh : ∀ s∈w.aI,ad5 s
 al6:w.net.length<=10000
 net : ∀ x∈w.net,acO x
 al7:w.outs.length<=10000
 out : ∀ x∈w.outs,acO x
 ad8:w.begun.length<=10000
abbrev KW:=T->T->T->T->T->T->T->T->T->T->An
def kW (J:KW) (w:bO):An:=J (.i w.c.n) (.i w.c.life) (.i w.c.next) (.l (rJ w.c.jobs)) (.l (rC w.c.log)) (.i w.c.sure) (.l (rS w.aI)) (.l (rW w.net)) (.l (rW w.outs)) (.l (rB w.begun))
def Hl:List cB->List cB->List cB
 | net,[]=>net
 | net,x::l=>Hl (if net.length<400 then net++[x] else net) l
theorem agr : ∀ (a b net:List cB),Hl net (a++b)=Hl (Hl net a) b
 | [],b,net=>rfl
 | x::a,b,net=>agr a b _
theorem ags : ∀ (l net:List cB),net.length<=400->(Hl net l).length<=400
 | [],net,h=>h
 | x::l,net,h=>ags l _ (by
  by_cases hc:net.length<400
  ·rw [if_pos hc]; simp; omega
  ·rw [if_neg hc]; exact h)
theorem agt {x:cB} : ∀ (l net:List cB),x∈Hl net l->x∈net\/x∈l
 | [],net,h=>.inl h
 | y::l,net,h=>by
  rcases agt l _ h with h | h
  ·split at h
   ·rcases List.mem_append.1 h with h | h
    ·exact .inl h
    ·exact .inr (by rw [List.mem_singleton.1 h]; simp)
   ·exact .inl h
  ·exact .inr (by simp [h])
abbrev KX:=T->T->T->T->T->T->T->T->T->T->T->An
def al8 (w:bO) (ops:List iC):Bool×bO :=
 if w.begun.length=1000 then (false,w)
 else if (JU w.c ops).2.1=0 then (false,{ w with c:=(JU w.c ops).2.2 })
 else (true,{ w with c:=(JU w.c ops).2.2,begun:=w.begun++[⟨(JU w.c ops).2.1,ops⟩],net:=Hl w.net (JU w.c ops).1 })
theorem acP {n tx:Int} {ops:List iC} {yes sh:List Int} (ho:qQ ops) (hl:ops.length<=8) : ∀ x∈VT n tx ops yes sh,acO x:=fun x hx=>by
 obtain ⟨s,-,rfl⟩:=List.mem_map.1 hx
 have:=MH ops s n
 refine ⟨⟨by show (qK ops s n).length<=_; omega,fun o h=>ho.2 o (List.mem_filter.1 h).1⟩,by show (qK ops s n).length<=_; omega⟩
theorem anP {c:uy} {ops:List iC} (ho:qQ ops):(JU c ops).1.length<=8 /\ ∀ x∈(JU c ops).1,acO x:=by
 unfold JU
 split
 ·exact ⟨by simp,fun x h=>by cases h⟩
 ·rename_i h
  have h8:=(YF (by cases h1:mK ops with | true=>rfl | false=>exact absurd (.inl h1) h)).2
  have h9:=sI ops c.n
  refine ⟨?_,acP ho h8⟩
  unfold VT
  rw [List.length_map]
  have:=List.length_filter_le (fun s=>!decide (s∈([]:List Int))) (dS ops c.n)
  omega
def afu (w:bO) (k:Nat) (s:aQ):bO:={ w with aI:=w.aI.take k++s::w.aI.drop (k+1) }
def al9 (w:bO) (x:cB):bO :=
 let q:=afr (w.aI.getD x.nG.toNat default) x.tx x.ops
 let w':=afu w x.nG.toNat q.2
 if q.1≠5/\w.outs.length<400 then { w' with outs:=w.outs++[⟨2,x.nG,x.tx,[],decide (q.1=1\/q.1=3)⟩] } else w'
theorem aqE {l:List aQ} {k:Int} (h1:0<=k) (h2:k<l.length) : ∃ pre x post,l=pre++x::post/\k=(pre.length:Int)/\l.getD k.toNat default=x/\l.take k.toNat=pre/\l.drop (k.toNat+1)=post:=by
 obtain ⟨pre,x,post,e1,e2,e3,e4,e5⟩:=SC l (j:=k.toNat) (by omega)
 exact ⟨pre,x,post,e1,by omega,e3,e4,e5⟩
end Go.Proofs.YtpmbniddgaecpaaGreat

namespace Go.Proofs.YtpmbniddgaecpaaGreat
open Go Go.E Go.Proofs
def anQ (w:bO) (x:cB):bO :=
 if x.kind=1 then al9 w x
 else if x.kind=3 then afu w x.nG.toNat (SE (w.aI.getD x.nG.toNat default) x.tx x.yes).2
 else if x.kind=2 then { w with c:=anO w.c x.nG x.tx x.yes }
 else if x.kind=4 then (if (SF w.c x.tx).2 then { w with net:=Hl w.net [⟨3,x.nG,x.tx,[],(SF w.c x.tx).1⟩] } else w)
 else w
theorem anR (s:aQ) (tx:Int) (ops:List iC):(afr s tx ops).2.id=s.id/\(afr s tx ops).2.sure=s.sure:=by
 unfold afr
 split; exact ⟨rfl,rfl⟩
 split; exact ⟨rfl,rfl⟩
 split <;> exact ⟨rfl,rfl⟩
theorem ama (s:aQ) (tx:Int) (y:Bool):(SE s tx y).2.id=s.id/\(SE s tx y).2.sure=s.sure:=by
 unfold SE
 split; exact ⟨rfl,rfl⟩
 split; exact ⟨rfl,rfl⟩
 split; exact ⟨rfl,rfl⟩
 split; exact ⟨rfl,rfl⟩
 split <;> exact ⟨rfl,rfl⟩
theorem apO {q s:aQ} (h:q.id=s.id/\q.sure=s.sure):[T.i s.id,T.l (rR q.log),T.i s.sure,T.l (rP q.map),T.l (rR q.held)]=q.r:=by
 rw [<-h.1,<-h.2]; rfl
def apP (w:bO) (kind at_:Int):Bool×bO :=
 if ¬(0<=at_/\at_<=(w.net.length:Int)-1) then (false,w)
 else if kind=4 then (true,{ w with net:=Hl w.net [w.net.getD at_.toNat default] })
 else if kind=2 then (true,anQ { w with net:=w.net.take at_.toNat++w.net.drop (at_.toNat+1) } (w.net.getD at_.toNat default))
 else (true,{ w with net:=w.net.take at_.toNat++w.net.drop (at_.toNat+1) })
def anS (l:List cB) (at_:Int):List cB:=l.filter fun x=>x.nG==at_
def anT (l:List cB) (at_:Int):List cB:=l.filter fun x=>!(x.nG==at_)
def apQ (at_:Int) (r:bK):cB:=⟨4,at_,r.tx,[],false⟩
def amb (w:bO) (kind at_ k:Int):bO :=
 let s:=w.aI.getD at_.toNat default
 if kind=5 then { afu w at_.toNat { s with sure:=s.log.length } with outs:=anT w.outs at_,net:=Hl w.net (anS w.outs at_) }
 else if kind=9 then { afu w at_.toNat (aiy s k) with outs:=anT w.outs at_ }
 else if kind=8 then { w with net:=Hl w.net (s.held.map (apQ at_)) }
 else w
theorem amB (s:aQ) (k:Int):(aiy s k).id=s.id:=rfl
structure amc where
 kind:Int
 at_:Int
 n:Int
 ops:List iC
def doP (w:bO) (e:amc):Bool×bO :=
 if e.kind=1 then al8 w e.ops
 else if e.kind=2\/e.kind=3\/e.kind=4 then apP w e.kind e.at_
 else if e.kind=5\/e.kind=8\/e.kind=9 then (if ¬(0<=e.at_/\e.at_<=(w.aI.length:Int)-1) then (false,w) else (true,amb w e.kind e.at_ e.n))
 else if e.kind=6 then (true,{ w with c:={ w.c with sure:=w.c.log.length } })
 else if e.kind=7 then (true,{ w with net:=Hl w.net (VU w.c) })
 else if e.kind=10 then ((aft w.c e.n).1,{ w with c:=(aft w.c e.n).2 })
 else (false,w)
theorem sw3 (a b c r:Int) (g:T->An):jn (fun (j:T->An)=>cond (r==a) (j (T.b true)) (cond (r==b) (j (T.b true)) (j (T.b (r==c))))) g=g (T.b (decide (r=a\/r=b\/r=c))):=by
 show cond (r==a) (g (T.b true)) (cond (r==b) (g (T.b true)) (g (T.b (r==c))))=_
 by_cases a0:r=a
 ·subst a0; simp
 rw [aO (by simpa using a0)]
 by_cases a1:r=b
 ·subst a1; simp
 rw [aO (by simpa using a1)]
 by_cases a2:r=c
 ·subst a2; simp
 ·rw [beq_eq_false_iff_ne.2 a2,decide_eq_false (by simp [a0,a1,a2])]
theorem amC {c:uy} (h:aiz c):(VU c).length<=80000 /\ ∀ x∈VU c,acO x:=by
 constructor
 ·have : ∀ l:List iD,(∀ j∈l,j.ops.length<=8)->(l.flatMap (P8 c)).length<=8 * l.length:=by
   intro l
   induction l with
   | nil=>intro _; simp
   | cons j l ih =>
    intro hj
    have h1:=ad7 c j
    have h2:=hj j (by simp)
    have h3:=ih fun q hq=>hj q (by simp [hq])
    rw [List.flatMap_cons,List.length_append,List.length_cons]
    omega
  have h1:=this c.jobs fun j hj=>(h.jobs j hj).2.1
  have h2:=h.apK
  show (c.jobs.flatMap (P8 c)).length<=_
  omega
 ·intro x hx
  obtain ⟨j,hj,hx⟩:=List.mem_flatMap.1 hx
  unfold P8 at hx
  split at hx
  ·exact acP (h.jobs j hj).1 (h.jobs j hj).2.1 x hx
  ·split at hx
   ·obtain ⟨s,-,rfl⟩:=List.mem_map.1 hx
    exact ⟨⟨by simp [afs],by simp [afs]⟩,by simp [afs]⟩
   ·cases hx
end Go.Proofs.YtpmbniddgaecpaaGreat

namespace Go.Proofs.YtpmbniddgaecpaaGreat
open Go Go.E Go.Proofs
theorem aaN : ∀ (a b:List bK) (s:St),fK s (a++b)=(fK s a).bind fun t=>fK t b
 | [],b,s=>rfl
 | r::a,b,s=>by
  simp only [List.cons_append,fK]
  cases (uJ s r).1 with
  | true=>exact aaN a b _
  | false=>rfl
theorem aj4 (s:St) (r:bK):fK s [r]=if (uJ s r).1 then some (uJ s r).2 else none:=by
 simp only [fK]
theorem P9 {tx:Int} : ∀ {l:List bK} {j:Nat},wS tx l=some j->(l.getD j default).tx=tx
 | [],j,h=>by cases h
 | r::l,j,h=>by
  unfold wS at h
  split at h
  ·rename_i hr; cases h; simpa using hr
  ·cases h2:wS tx l with
   | none=>rw [h2] at h; cases h
   | some i=>rw [h2] at h; cases h; have:=P9 h2; simpa using this
theorem Qa {tx:Int} : ∀ {l:List bK},wS tx l=none ↔ ∀ r∈l,r.tx≠tx
 | []=>by simp [wS]
 | r::l=>by
  unfold wS
  by_cases h:r.tx=tx
  ·simp [h]
  ·rw [if_neg h]
   have:=Qa (tx:=tx) (l:=l)
   cases h2:wS tx l with
   | none=>simp [h]; exact this.1 h2
   | some i =>
    simp [h]
    have h3 : ¬ ∀ r∈l,r.tx≠tx:=fun h4=>by rw [this.2 h4] at h2; cases h2
    simpa using h3
structure RInv (l:List bK) (s:St):Prop where
 seen : ∀ x,x∈s.seen ↔ ∃ r∈l,r.tx=x
 held : ∀ h∈s.held,h∈l/\h.kind=1
 cov : ∀ r∈l,(∃ h∈s.held,h.tx=r.tx) \/ ∃ q∈l,q.tx=r.tx/\(q.kind=2\/q.kind=3)
 ok : ∀ r∈l,p8 r=true
 dist:s.held.Pairwise fun a b=>a.tx≠b.tx
theorem ad9 {r:bK} (h:p8 r=true):(1<=r.tx/\r.tx<=1000000)/\(r.kind=1/\mK r.ops=true\/(r.kind=2\/r.kind=3)/\r.ops=[]):=by
 unfold p8 at h
 simp only [Bool.and_eq_true,decide_eq_true_eq] at h
 refine ⟨h.1,?_⟩
 by_cases k1:r.kind=1
 ·rw [if_pos k1] at h; exact .inl ⟨k1,h.2⟩
 ·rw [if_neg k1] at h
  by_cases k2:r.kind=2\/r.kind=3
  ·rw [if_pos k2] at h
   exact .inr ⟨k2,by have:=h.2; simpa using this⟩
  ·rw [if_neg k2] at h; exact absurd h.2 (by simp)
inductive Step (s:St) (r:bK) (s':St):Prop
 | hold (hk:r.kind=1) (h1:r.tx ∉ s.seen) (h2:o8 s.held r.ops=false) (h3:rU s.map r.ops=true) (e:s'=⟨s.map,s.held++[r],s.seen++[r.tx]⟩)
 | gone (hk:r.kind=3) (h0:wS r.tx s.held=none) (h1:r.tx ∉ s.seen) (e:s'=⟨s.map,s.held,s.seen++[r.tx]⟩)
 | done (j:Nat) (hk:r.kind=2\/r.kind=3) (h0:wS r.tx s.held=some j) (h1:s'.map.length<=60) (e:s'=⟨if r.kind=2 then AP s.map (s.held.getD j default).ops else s.map,s.held.take j++s.held.drop (j+1),s.seen⟩)
theorem YH {s:St} {r:bK} (h:(uJ s r).1=true):p8 r=true/\Step s r (uJ s r).2:=by
 unfold uJ at h ⊢
 by_cases h1:p8 r=false
 ·rw [if_pos h1] at h; cases h
 ·rw [if_neg h1] at h ⊢
  have hok:p8 r=true:=by simpa using h1
  refine ⟨hok,?_⟩
  obtain ⟨-,hk⟩:=ad9 hok
  by_cases k1:r.kind=1
  ·rw [if_pos k1] at h ⊢
   cases hc:(decide (r.tx∈s.seen)||o8 s.held r.ops || !rU s.map r.ops) with
   | true=>rw [hc] at h; cases h
   | false =>
    simp only [Bool.or_eq_false_iff,decide_eq_false_iff_not,Bool.not_eq_false'] at hc
    exact .hold k1 hc.1.1 hc.1.2 hc.2 rfl
  ·rw [if_neg k1] at h ⊢
   have hk':r.kind=2\/r.kind=3:=by
    rcases hk with ⟨hk,-⟩ | ⟨hk,-⟩
    ·exact absurd hk k1
    ·exact hk
   cases hf:wS r.tx s.held with
   | none =>
    rw [hf] at h
    simp only [Bool.and_eq_true,Bool.not_eq_true',decide_eq_false_iff_not,beq_iff_eq] at h
    exact .gone h.1 hf h.2 rfl
   | some j =>
    rw [hf] at h
    simp only [decide_eq_true_eq] at h
    exact .done j hk' hf h rfl
theorem RInv.step {l:List bK} {s:St} (h:RInv l s) {r:bK} {s':St} (hok:p8 r=true) (hs:Step s r s'):RInv (l++[r]) s':=by
 have okA : ∀ q∈l++[r],p8 q=true:=fun q hq=>by
  rcases List.mem_append.1 hq with hq | hq
  ·exact h.ok q hq
  ·rw [List.mem_singleton.1 hq]; exact hok
 have akV : ∀ x,x∈s.seen++[r.tx] ↔ ∃ q∈l++[r],q.tx=x:=fun x=>by
  constructor
  ·intro hx
   rcases List.mem_append.1 hx with hx | hx
   ·obtain ⟨q,h1,h2⟩:=(h.seen x).1 hx; exact ⟨q,by simp [h1],h2⟩
   ·exact ⟨r,by simp,(List.mem_singleton.1 hx).symm⟩
  ·rintro ⟨q,hq,rfl⟩
   rcases List.mem_append.1 hq with hq | hq
   ·exact List.mem_append_left _ ((h.seen _).2 ⟨q,hq,rfl⟩)
   ·rw [List.mem_singleton.1 hq]; simp
 cases hs with
 | hold hk h1 h2 h3 e =>
  subst e
  refine ⟨akV,fun q hq=>?_,fun q hq=>?_,okA,?_⟩
  ·rcases List.mem_append.1 hq with hq | hq
   ·exact ⟨by simp [(h.held q hq).1],(h.held q hq).2⟩
   ·rw [List.mem_singleton.1 hq]; exact ⟨by simp,hk⟩
  ·rcases List.mem_append.1 hq with hq | hq
   ·rcases h.cov q hq with ⟨x,hx,e⟩ | ⟨x,hx,e⟩
    ·exact .inl ⟨x,by simp [hx],e⟩
    ·exact .inr ⟨x,by simp [hx],e⟩
   ·rw [List.mem_singleton.1 hq]; exact .inl ⟨r,by simp,rfl⟩
  ·rw [List.pairwise_append]
   refine ⟨h.dist,by simp,fun a ha b hb=>?_⟩
   rw [List.mem_singleton.1 hb]
   exact fun e=>h1 ((h.seen _).2 ⟨a,(h.held a ha).1,e⟩)
 | gone hk h0 h1 e =>
  subst e
  refine ⟨akV,fun q hq=>⟨by simp [(h.held q hq).1],(h.held q hq).2⟩,fun q hq=>?_,okA,h.dist⟩
  rcases List.mem_append.1 hq with hq | hq
  ·rcases h.cov q hq with ⟨x,hx,e⟩ | ⟨x,hx,e⟩
   ·exact .inl ⟨x,hx,e⟩
   ·exact .inr ⟨x,by simp [hx],e⟩
  ·rw [List.mem_singleton.1 hq]; exact .inr ⟨r,by simp,rfl,.inr hk⟩
 | done j hk h0 h1 e =>
  obtain ⟨pre,x,post,e1,-,e3,e4,e5⟩:=SC s.held (Gw h0)
  have hx:x.tx=r.tx:=by have:=P9 h0; rwa [e3] at this
  have hmem : ∀ q∈s.held.take j++s.held.drop (j+1),q∈s.held:=fun q hq=>afq hq
  subst e
  refine ⟨fun y=>?_,fun q hq=>⟨by simp [(h.held q (hmem q hq)).1],(h.held q (hmem q hq)).2⟩,fun q hq=>?_,okA,?_⟩
  ·constructor
   ·intro hy
    obtain ⟨q,h1,h2⟩:=(h.seen y).1 hy; exact ⟨q,by simp [h1],h2⟩
   ·rintro ⟨q,hq,rfl⟩
    rcases List.mem_append.1 hq with hq | hq
    ·exact (h.seen _).2 ⟨q,hq,rfl⟩
    ·rw [List.mem_singleton.1 hq]
     exact (h.seen _).2 ⟨x,(h.held x (by rw [e1]; simp)).1,hx⟩
  ·by_cases hq2:q.tx=r.tx
   ·exact .inr ⟨r,by simp,hq2.symm,hk⟩
   ·rcases List.mem_append.1 hq with hq | hq
    ·rcases h.cov q hq with ⟨y,hy,e⟩ | ⟨y,hy,e⟩
     ·refine .inl ⟨y,?_,e⟩
      rw [e4,e5]
      rw [e1] at hy
      rcases List.mem_append.1 hy with hy | hy
      ·exact List.mem_append_left _ hy
      ·rcases List.mem_cons.1 hy with hy | hy
       ·exact absurd (by rw [<-e,hy,hx]) hq2
       ·exact List.mem_append_right _ hy
     ·exact .inr ⟨y,by simp [hy],e⟩
    ·exact absurd (by rw [List.mem_singleton.1 hq]) hq2
  ·show (s.held.take j++s.held.drop (j+1)).Pairwise _
   rw [e4,e5]
   have:=h.dist
   rw [e1,List.pairwise_append] at this
   obtain ⟨p1,p2,p3⟩:=this
   rw [List.pairwise_cons] at p2
   rw [List.pairwise_append]
   exact ⟨p1,p2.2,fun a ha b hb=>p3 a ha b (by simp [hb])⟩
theorem afv : ∀ (l2 l1:List bK) (s1 s:St),RInv l1 s1->fK s1 l2=some s->RInv (l1++l2) s
 | [],l1,s1,s,h,e=>by cases e; simpa using h
 | r::l2,l1,s1,s,h,e=>by
  simp only [fK] at e
  cases hb:(uJ s1 r).1 with
  | false=>rw [hb] at e; cases e
  | true =>
   rw [hb] at e
   obtain ⟨h1,h2⟩:=YH hb
   have:=afv l2 (l1++[r]) _ s (h.step h1 h2) e
   simpa using this
theorem rinv {l:List bK} {s:St} (h:fO l=some s):RInv l s:=by
 have:=afv l [] st0 s ⟨by simp [st0],by simp [st0],by simp,by simp,by simp [st0]⟩ h
 simpa using this
end Go.Proofs.YtpmbniddgaecpaaGreat

