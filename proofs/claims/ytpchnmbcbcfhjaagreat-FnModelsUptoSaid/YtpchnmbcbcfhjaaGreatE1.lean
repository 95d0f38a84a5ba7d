/- A part of the proof: texts ECore, EMin, ERel, EBase, EOps1, EOps2, EOps3, EOps4, EOwn, EOps5, EOps6, EOps7, EOps8, EMem, EOps9, EOps10: see the last part's opening words. -/
import Derived.Orders
import Derived.Tactics
import Derived.Laws.StructEq
import Derived.Laws.BytesString
set_option linter.unusedVariables false
set_option linter.unusedSimpArgs false
set_option linter.unnecessarySimpa false
namespace Go.E
inductive ST where
 | int (k:IntKind) | bool | str | any
 deriving DecidableEq,Repr,Inhabited
inductive LT where
 | sc (s:ST) | sl (es:List LT)
 deriving Repr,Inhabited
inductive T where
 | i (n:Int) | b (x:Bool) | s (x:ByteArray) | l (rows:List (List T)) | x (v:Value)
 deriving Inhabited
def T.int:T->Int | .i n=>n | _=>0
def T.bool:T->Bool | .b y=>y | _=>false
def T.str:T->ByteArray | .s y=>y | _=>.empty
def T.rows:T->List (List T) | .l r=>r | _=>[]
mutual
def LT.beq:LT->LT->Bool
 | .sc a,.sc b=>decide (a=b)
 | .sl a,.sl b=>LT.dQ a b
 | _,_=>false
def LT.dQ:List LT->List LT->Bool
 | [],[]=>true
 | a::as,b::bs=>LT.beq a b&&LT.dQ as bs
 | _,_=>false
end
abbrev Key:=List Nat
def dG:Key->Key->Bool
 | [],[]=>true
 | a::as,b::bs=>Nat.beq a b&&dG as bs
 | _,_=>false
def qV:Key:=[4000000]
inductive M where
 | F | O (ms:List M)
 deriving Inhabited,Repr
mutual
def M.beq:M->M->Bool
 | .F,.F=>true
 | .O a,.O b=>M.dQ a b
 | _,_=>false
def M.dQ:List M->List M->Bool
 | [],[]=>true
 | a::az,b::bs=>M.beq a b&&M.dQ az bs
 | _,_=>false
end
mutual
def M.LP:M->M->Bool
 | _,.F=>true
 | .O a,.O b=>M.sH a b
 | .F,.O _=>false
def M.sH:List M->List M->Bool
 | [],[]=>true
 | a::az,b::bs=>M.LP a b&&M.sH az bs
 | _,_=>false
end
abbrev AV:=Key×Nat
inductive St where
 | sc | nl | sn (deps:List AV) | sb (k:Key) (n cv r off:Nat) | al (k:Key) (n:Nat) | dead
 deriving Inhabited,Repr
structure Leaf where
 st:St
 lt:LT
 d:T
 deriving Inhabited
inductive eG where
 | one (l:Leaf) | agg (ls:List Leaf) | LQ (es:List eG)
 | ptr (k:Key) (n i off:Nat)
 | rp (deps:List AV) (aO:List LT) (row:List T)
 | fn (f:FuncId) (caps:List eG)
 | und | junk
 deriving Inhabited
inductive Ch where
 | box (ls:List Leaf) | row (es:List LT) (ms:List M) (rows:List (List T)) | fz (es:List LT) (rows:List (List T)) | gone
 | Iq (m j:Nat) (ls:List Leaf)
 | hol (es:List LT) (ms:List M) (rows:List (List T)) (r j:Nat)
 deriving Inhabited
structure KE where
 ch:Ch
 bK:Nat
 cv:Nat
 deriving Inhabited
structure S where
 s:Nat->eG
 k:Key->KE
inductive R3 (α:Type) where
 | ok (a:α) | out | bad
 deriving Inhabited
inductive AL where
 | sc (s:ST) (d:T) | fz (es:List LT) (rows:List (List T)) | own (es:List LT) (ms:List M) (rows:List (List T)) | nl (es:List LT)
 | dz (es:List LT) (rows:List (List T))
 deriving Inhabited
inductive Arg where
 | one (l:AL) | agg (ls:List AL)
 | EB (aO:List LT) (row:List T)
 | bx (ls:List AL)
 | fn (f:FuncId) (caps:List Arg)
 deriving Inhabited
inductive RL where
 | sc (s:ST) (d:T) | fz (es:List LT) (rows:List (List T)) | own (k:Key) (es:List LT) (ms:List M) (rows:List (List T)) | nl (es:List LT)
 | par (i j:Nat) | dz (es:List LT) (rows:List (List T))
 deriving Inhabited
inductive RE where
 | one (l:RL) | agg (ls:List RL)
 | bx (k:Key) (ls:List RL)
 | none
 deriving Inhabited
structure fE where
 rs:List RE
 owns:List (List (Option (List LT×List M×List (List T))))
 bxs:List (Option (List RL))
 deriving Inhabited
inductive Prog where
 | ret | fail | out
 | fT (c:Bool) (p:Prog)
 | lim (c:Bool) (p:Prog)
 | br (c:Bool) (p q:Prog)
 | AX (t:Nat) (k:eG->Prog)
 | kG (t:Nat) (e:eG) (p:Prog)
 | eT (k:Key) (c:KE->Prog)
 | bD (k:Key) (e:KE) (p:Prog)
 | call (f:FuncId) (args:List Arg) (k:fE->Prog)
structure Tr where
 rs:List Nat:=[]
 ws:List Nat:=[]
 rk:List Key:=[]
 wk:List Key:=[]
 deriving Inhabited
def S.kG (σ:S) (t:Nat) (e:eG):S:={ σ with s:=fun u=>cond (Nat.beq u t) e (σ.s u) }
def S.bD (σ:S) (k:Key) (e:KE):S:={ σ with k:=fun u=>cond (dG u k) e (σ.k u) }
def R3.bind {α β:Type} (r:R3 α) (k:α->R3 β):R3 β:=match r with | .ok a=>k a | _=>.bad
variable (cf:FuncId->List Arg->R3 fE)
def Prog.run {α:Type} : Prog->S->Tr->(S->Tr->R3 α)->R3 α
 | .ret,σ,tr,K=>K σ tr
 | .fail,_,_,_=>.bad
 | .out,_,_,_=>.bad
 | .fT c p,σ,tr,K=>cond c (p.run σ tr K) .bad
 | .lim _ p,σ,tr,K=>p.run σ tr K
 | .br c p q,σ,tr,K=>cond c (p.run σ tr K) (q.run σ tr K)
 | .AX t k,σ,tr,K=>(k (σ.s t)).run σ { tr with rs:=t::tr.rs } K
 | .kG t e p,σ,tr,K=>p.run (σ.kG t e) { tr with ws:=t::tr.ws } K
 | .eT k c,σ,tr,K=>(c (σ.k k)).run σ { tr with rk:=k::tr.rk } K
 | .bD k e p,σ,tr,K=>p.run (σ.bD k e) { tr with wk:=k::tr.wk } K
 | .call f args k,σ,tr,K=>(cf f args).bind fun r=>(k r).run σ tr K
inductive TK where
 | sc (s:ST) | slice (elem:TypeId) | struct (fs:List (Nat×TypeId)) | array (n:Nat) (elem:TypeId) | ptr (elem:TypeId) | other
 deriving Inhabited
structure TI where
 kind:TK
 aO:List LT
 bytes:Nat
 flat:Bool
 deriving Inhabited
inductive PM where
 | R | F | O (ms:List M)
 deriving Inhabited,Repr
structure Sig where
 Yt:List (List PM)
 deriving Inhabited
structure Ctx where
 ty:TypeId->Option TI
 fn:FuncId->Option Func
 sig:FuncId->Sig
 own:FuncId->Nat->Bool
 ms:FuncId->Nat->List M
 cut:FuncId->Nat->Nat
 cast:FuncId->Nat->List M
 box:FuncId->Nat->List M
 rg:FuncId->Nat->List (Nat×Nat)
 ret:FuncId->Bool
 can:FuncId->Nat->List M
def CY:LT->T
 | .sc (.int _)=>.i 0 | .sc .bool=>.b false | .sc .str=>.s .empty | .sc .any=>.x .nilIface | .sl _=>.l []
def F3:LT->Leaf
 | .sl es=>⟨.nl,.sl es,.l []⟩
 | .sc .any=>⟨.dead,.sc .any,.l []⟩
 | lt=>⟨.sc,lt,CY lt⟩
def AY:Value->Option Leaf
 | .bool b=>some ⟨.sc,.sc .bool,.b b⟩
 | .int k n=>if k.min<=n/\n<=k.max then some ⟨.sc,.sc (.int k),.i n⟩ else none
 | .string s=>if s.size<9223372036854775808 then some ⟨.sc,.sc .str,.s s⟩ else none
 | .slice none 0 0=>some ⟨.nl,.sl [],.l []⟩
 | _=>none
def dflt:T:=.i 0
def Xa (deps:List AV) (lt:LT) (d:T):Leaf :=
 match lt with
 | .sl _=>⟨.sn deps,lt,d⟩
 | _=>⟨.sc,lt,d⟩
def wY:TK->Bool
 | .struct _ | .array _ _=>true
 | _=>false
def CZ (agg:Bool) (ls:List Leaf):eG :=
 cond agg (.agg ls) (match ls with | [l]=>.one l | _=>.junk)
def Ac:eG->Option (List Leaf)
 | .one l=>some [l]
 | .agg ls=>some ls
 | _=>none
section ops
variable (Γ:Ctx)
def nG {α:Type} (o:Option α) (k:α->Prog):Prog:=match o with | some a=>k a | none=>.fail
def sw (t:TypeId) (k:TI->Prog):Prog:=nG (Γ.ty t) k
def rd (x:Operand) (k:eG->Prog):Prog :=
 match x with
 | .tmp t=>.AX t k
 | .const (.pointer none)=>k .junk
 | .const (.agg cs)=>nG (cs.toList.mapM AY) fun ls=>k (.agg ls)
 | .const v=>nG (AY v) fun l=>k (.one l)
 | .func f=>k (.fn f [])
 | .global _=>.fail
def zx (ds:List AV) (p:Prog):Prog :=
 match ds with
 | []=>p
 | (k,n)::ds=>.eT k fun ke=>.fT (Nat.beq ke.cv n) (zx ds p)
def vC (l:Leaf) (k:List LT->List (List T)->List AV->Prog):Prog :=
 match l.lt,l.st with
 | .sl es,.nl=>k es [] []
 | .sl es,.sn deps=>zx deps (k es l.d.rows deps)
 | .sl es,.sb key _ cv _ _=>zx [(key,cv)] (k es l.d.rows [(key,cv)])
 | .sl _,.al key n=>.eT key fun ke=>.fT (Nat.beq ke.bK n) (match ke.ch with
   | .row es _ rows=>k es rows [(key,ke.cv)]
   | .fz es rows=>k es rows []
   | _=>.fail)
 | _,_=>.fail
def sI (e:eG) (k:ST->T->Prog):Prog :=
 match e with
 | .one ⟨.sc,.sc s,d⟩=>k s d
 | _=>.fail
def Rx (e:eG) (k:Leaf->Prog):Prog:=match e with | .one l=>k l | _=>.fail
def LU (ms:List M):Bool:=ms.all fun m=>match m with | .F=>true | .O _=>false
def vD:List LT->List M->List Leaf->(List T->Prog)->Prog
 | [],_,[],k=>k []
 | e::es,ms,l::ls,k =>
  match e,l.lt,l.st with
  | .sc s,.sc s',.sc=>if s=s' then vD es ms.tail ls fun ds=>k (l.d::ds) else .fail
  | .sl es',_,.nl=>.fT (match ms.headD .F with | .F=>true | .O _=>!es'.isEmpty) (vD es ms.tail ls fun ds=>k (.l []::ds))
  | .sl _,lt,.sn []=>(match ms.headD .F with
    | .F=>cond (LT.beq e lt) (vD es ms.tail ls fun ds=>k (l.d::ds)) .fail
    | .O _=>.fail)
  | .sl es',_,.al key n=>.eT key fun ke=>.fT (Nat.beq ke.bK n) (match ke.ch with
    | .fz es'' rows=>(match ms.headD .F with
      | .F=>cond (LT.dQ es' es'') (vD es ms.tail ls fun ds=>k (.l rows::ds)) .fail
      | .O _=>.fail)
    | .row es'' afd rows=>(match ms.headD .F with
      | .F=>cond (LT.dQ es' es'') (.bD key { ke with ch:=.fz es'' rows } (vD es ms.tail ls fun ds=>k (.l rows::ds))) .fail
      | .O ms'=>cond (LT.dQ es' es''&&M.dQ ms' afd) (.bD key ⟨.gone,ke.bK+1,ke.cv+1⟩ (vD es ms.tail ls fun ds=>k (.l rows::ds))) .fail)
    | _=>.fail)
  | _,_,_=>.fail
 | _,_,_,_=>.fail
def Jv (dst:Nat) (es:List LT) (ms:List M) (rows:List (List T)):Prog :=
 .eT [dst+2000000] fun ke=>.bD [dst+2000000] ⟨.row es ms rows,ke.bK+1,ke.cv+1⟩ (.kG dst (.one ⟨.al [dst+2000000] (ke.bK+1),.sl es,.l []⟩) .ret)
def Ry (key:Key) (k:Prog):Prog:=.eT key fun ke=>match ke.ch with
 | .row es _ rows=>.bD key { ke with ch:=.fz es rows } k
 | _=>.fail
def afe (fz:Bool) (dst:Nat) (es:List LT) (ms:List M) (rows:List (List T)):Prog :=
 .eT [dst+2000000] fun ke=>.bD [dst+2000000] ⟨.row es ms rows,ke.bK+1,ke.cv+1⟩ (.kG dst (.one ⟨.al [dst+2000000] (ke.bK+1),.sl es,.l []⟩) (cond fz (Ry [dst+2000000] .ret) .ret))
def aaZ (dst:Nat) (ls:List Leaf):Prog :=
 .eT [dst+2000000] fun ke=>.bD [dst+2000000] ⟨.box ls,ke.bK+1,ke.cv+1⟩ (.kG dst (.ptr [dst+2000000] (ke.bK+1) 0 0) .ret)
def F4 (key:Key) (n cv r off:Nat) (lt:LT) (m:M) (d:T):Leaf :=
 match lt,m with
 | .sl _,.O _=>⟨.sb key n cv r off,lt,d⟩
 | .sl _,_=>⟨.sn [],lt,d⟩
 | _,_=>⟨.sc,lt,d⟩
def Ir (key:Key) (n cv r off size:Nat) (es:List LT) (ms:List M) (row:List T):List Leaf :=
 (List.range size).map fun j=>F4 key n cv r (off+j) (es.getD (off+j) default) (ms.getD (off+j) .F) (row.getD (off+j) dflt)
def F5 (deps:List AV) (size:Nat) (es:List LT) (row:List T):List Leaf :=
 (List.range size).map fun j=>Xa deps (es.getD j default) (row.getD j dflt)
def setMany (row:List T) (off:Nat):List T->List T
 | []=>row
 | d::ds=>setMany (row.set off d) (off+1) ds
def gH (s:ByteArray):List (List T):=s.data.toList.map fun b=>[T.i b.toNat]
def oU (rows:List (List T)):ByteArray:=⟨(rows.map fun r=>UInt8.ofNat (r.getD 0 dflt).int.toNat).toArray⟩
def jw (k:IntKind) (r:BitVec k.bits):T:=.i (k.wrap r.toNat)
def Xb (op:BinOp) (k:IntKind) (x y:Int) (K:ST->T->Prog):Prog :=
 match op with
 | .add=>K (.int k) (.i (k.wrap (x+y)))
 | .sub=>K (.int k) (.i (k.wrap (x-y)))
 | .mul=>K (.int k) (.i (k.wrap (x * y)))
 | .quo=>.fT (!decide (y=0)) (K (.int k) (.i (k.wrap (x.tdiv y))))
 | .rem=>.fT (!decide (y=0)) (K (.int k) (.i (x.tmod y)))
 | .and=>K (.int k) (jw k (BitVec.ofInt k.bits x &&& BitVec.ofInt k.bits y))
 | .or=>K (.int k) (jw k (BitVec.ofInt k.bits x ||| BitVec.ofInt k.bits y))
 | .xor=>K (.int k) (jw k (BitVec.ofInt k.bits x ^^^ BitVec.ofInt k.bits y))
 | .andNot=>K (.int k) (jw k (BitVec.ofInt k.bits x &&& ~~~ BitVec.ofInt k.bits y))
 | .eql=>K .bool (.b (x==y))
 | .neq=>K .bool (.b (x != y))
 | .lss=>K .bool (.b (decide (x<y)))
 | .leq=>K .bool (.b (decide (x<=y)))
 | .gtr=>K .bool (.b (decide (x > y)))
 | .geq=>K .bool (.b (decide (x>=y)))
 | _=>.fail
def Xc (op:BinOp) (x y:ByteArray) (K:ST->T->Prog):Prog :=
 let eq:=x.toList==y.toList
 let lt:=Op.bytesLess x.toList y.toList
 match op with
 | .add=>.fT (decide (x.size+y.size<9223372036854775808)) (K .str (.s (x++y)))
 | .eql=>K .bool (.b eq)
 | .neq=>K .bool (.b (!eq))
 | .lss=>K .bool (.b lt)
 | .leq=>K .bool (.b (lt||eq))
 | .gtr=>K .bool (.b (!(lt||eq)))
 | .geq=>K .bool (.b (!lt))
 | _=>.fail
def aa0:ST->T->T->Option Bool
 | .int _,x,y=>some (x.int==y.int)
 | .bool,x,y=>some (x.bool==y.bool)
 | .str,x,y=>some (x.str.toList==y.str.toList)
 | .any,_,_=>none
def wZ:List LT->List Leaf->List Leaf->Option Bool
 | [],[],[]=>some true
 | .sc c::aO,⟨.sc,.sc a,x⟩::ls,⟨.sc,.sc b,y⟩::rs =>
  if c=a/\c=b then
   match aa0 c x y,wZ aO ls rs with
   | some b,some r=>some (b&&r)
   | _,_=>none
  else none
 | _,_,_=>none
def Rz:TK->Bool | .sc .bool=>true | _=>false
def agS (ti:TI) (op:BinOp) (x y:eG) (K:ST->T->Prog):Prog :=
 match x,y with
 | .one ⟨.sc,.sc (.int k),a⟩,.one ⟨.sc,.sc (.int k'),b⟩ =>
  match op with
  | .shl=>.fT (decide (0<=b.int)) (K (.int k) (.i (k.wrap (a.int * 2 ^ (min b.int.toNat k.bits)))))
  | .shr=>.fT (decide (0<=b.int)) (K (.int k) (.i (a.int.fdiv (2 ^ (min b.int.toNat k.bits)))))
  | _=>if k=k' then Xb op k a.int b.int K else .fail
 | .one ⟨.sc,.sc .str,a⟩,.one ⟨.sc,.sc .str,b⟩=>Xc op a.str b.str K
 | .one ⟨.sc,.sc .bool,a⟩,.one ⟨.sc,.sc .bool,b⟩ =>
  cond (Rz ti.kind) (match op with
  | .eql=>K .bool (.b (a.bool==b.bool))
  | .neq=>K .bool (.b (!(a.bool==b.bool)))
  | _=>.fail) .fail
 | .agg ls,.agg rs =>
  cond ti.flat (match op with
  | .eql=>nG (wZ ti.aO ls rs) fun r=>K .bool (.b r)
  | .neq=>nG (wZ ti.aO ls rs) fun r=>K .bool (.b (!r))
  | _=>.fail) .fail
 | _,_=>.fail
def put (dst:Option Nat) (e:eG):Prog:=match dst with | some d=>.kG d e .ret | none=>.ret
def Zz:List LT->List M->Bool
 | [],_=>true
 | e::es,ms=>(match e,ms.headD .F with | .sl es',.O _=>!es'.isEmpty | _,_=>true)&&Zz es ms.tail
def Ea (ms:Nat->List M) (d:Nat) (es:List LT):List M:=match ms d with | []=>es.map fun _=>.F | l=>l
def aa1 (own:Nat->Bool) (ms:Nat->List M) (dst:Option Nat) (e:eG):Prog :=
 match dst,e with
 | some d0,.one ⟨.nl,.sl es,_⟩=>cond (own d0 && !es.isEmpty) (Jv d0 es (Ea ms d0 es) []) (put dst e)
 | _,_=>put dst e
def nT (dst:Option Nat) (s:ST) (d:T):Prog:=put dst (.one ⟨.sc,.sc s,d⟩)
def bA:Nat:=140737488355328
def ay:Nat:=1099511627776
def vE (es:List LT):Bool:=es.all fun t=>match t with | .sc _=>true | _=>false
def sF:Nat:=999999
structure uH where
 key:Key
 bK:Nat
 es:List LT
 i:Nat
 j:Nat
structure Pass where
 args:List Arg
 eU:List uH
 deps:List AV
def uI (i j:Nat) (m:PM) (l:Leaf) (c:Pass) (k:AL->Pass->Prog):Prog :=
 match l.lt,l.st with
 | .sc s,.sc=>k (.sc s l.d) c
 | .sl es,.nl=>(match m with
  | .R=>k (.dz es []) c
  | .F=>k (.fz es []) c
  | .O _=>k (.nl es) c)
 | .sl es,.sn deps=>(match m with
  | .R=>zx deps (k (.dz es l.d.rows) { c with deps:=deps++c.deps })
  | .F=>(match deps with | []=>k (.fz es l.d.rows) c | _=>.fail)
  | .O _=>.fail)
 | .sl es,.sb key _ cv _ _=>(match m with
  | .R=>zx [(key,cv)] (k (.dz es l.d.rows) { c with deps:=(key,cv)::c.deps })
  | _=>.fail)
 | .sl es0,.al key n=>.eT key fun ke=>.fT (Nat.beq ke.bK n) (match ke.ch,m with
  | .fz es rows,.R=>.fT (LT.dQ es0 es) (k (.dz es rows) c)
  | .fz es rows,.F=>.fT (LT.dQ es0 es) (k (.fz es rows) c)
  | .row es _ rows,.R=>.fT (LT.dQ es0 es) (k (.dz es rows) { c with deps:=(key,ke.cv)::c.deps })
  | .row es ms rows,.O _=>.fT (LT.dQ es0 es&&Nat.blt j sF) (k (.own es ms rows) { c with eU:=⟨key,n,es,i,j⟩::c.eU })
  | _,_=>.fail)
 | _,_=>.fail
def Fa (i:Nat):Nat->List PM->List Leaf->Pass->(List AL->Pass->Prog)->Prog
 | _,_,[],c,k=>k [] c
 | j,ms,l::ls,c,k=>uI i j (ms.headD .R) l c fun a c=>Fa i (j+1) (ms.drop 1) ls c fun as c=>k (a::as) c
def w9:List Leaf->Pass->(List LT->List T->Pass->Prog)->Prog
 | [],c,k=>k [] [] c
 | l::ls,c,k =>
  match l.lt,l.st with
  | .sc s,.sc=>w9 ls c fun aO ds c=>k (.sc s::aO) (l.d::ds) c
  | _,_=>vC l fun es rows deps=>w9 ls { c with deps:=deps++c.deps } fun aO ds c=>k (.sl es::aO) (.l rows::ds) c
def F6 (sz:Option Nat) (e:eG) (c:Pass) (k:Arg->Pass->Prog):Prog :=
 let Xd {α:Type} (l:List α):List α:=match sz with | some n=>l.take n | none=>l
 match e with
 | .ptr key n r off=>.eT key fun ke=>.fT (Nat.beq ke.bK n) (match ke.ch with
  | .box ls=>w9 (Xd (ls.drop off)) { c with deps:=(key,ke.cv)::c.deps } fun aO ds c=>k (.EB aO ds) c
  | .row es _ rows=>.fT (decide (r<rows.length)) (k (.EB (Xd (es.drop off)) (Xd ((rows.getD r []).drop off))) { c with deps:=(key,ke.cv)::c.deps })
  | .fz es rows=>.fT (decide (r<rows.length)) (k (.EB (Xd (es.drop off)) (Xd ((rows.getD r []).drop off))) c)
  | _=>.fail)
 | .rp deps aO row=>zx deps (k (.EB (Xd aO) (Xd row)) { c with deps:=deps++c.deps })
 | _=>.fail
def gZ (key:Key):Key:=3000000::key
def lX (key:Key) (j:Nat):Key:=3000001::j::key
def lY (key:Key):Key:=3000002::key
def qx (key:Key):Nat->List LT->List M->List T->(List Leaf->Prog)->Prog
 | _,[],_,_,k=>k []
 | j,e::es,ms,ds,k =>
  let d:=ds.headD dflt
  match e,ms.headD .F with
  | .sl es',.O ms'=>.eT (lX key j) fun ke=>.bD (lX key j) ⟨.row es' ms' d.rows,ke.bK+1,ke.cv+1⟩
    (qx key (j+1) es ms.tail ds.tail fun ls=>k (⟨.al (lX key j) (ke.bK+1),.sl es',.l []⟩::ls))
  | .sl es',.F=>qx key (j+1) es ms.tail ds.tail fun ls=>k (⟨.sn [],.sl es',d⟩::ls)
  | .sc s,_=>qx key (j+1) es ms.tail ds.tail fun ls=>k (⟨.sc,.sc s,d⟩::ls)
def F7 (key:Key) (r:Nat) (k:Nat->List Leaf->Prog):Prog :=
 .eT key fun ke=>match ke.ch with
  | .row es ms rows=>.fT (decide (r<rows.length)) (.eT (gZ key) fun kb=>.bD key ⟨.hol es ms rows r (kb.bK+1),ke.bK,ke.cv+1⟩ (qx key 0 es ms (rows.getD r []) fun ls =>
    .bD (gZ key) ⟨.box ls,kb.bK+1,kb.cv+1⟩ (k (kb.bK+1) ls)))
  | _=>.fail
def Uc (key:Key) (es0:List LT) (ms0:List M) (ds:List T) (p:Prog):Prog :=
 .eT key fun ke=>.eT (gZ key) fun kb=>match ke.ch,kb.ch with
  | .hol es ms rows r j,.box ls=>.fT (Nat.beq kb.bK j&&Nat.beq ls.length es.length&&LT.dQ es0 es&&M.dQ ms0 ms) (.bD (gZ key) ⟨.gone,kb.bK+1,kb.cv+1⟩ (.bD key ⟨.row es ms (rows.set r ds),ke.bK,ke.cv+1⟩ p))
  | _,_=>.fail
def F8 (key:Key) (p:Prog):Prog :=
 .eT key fun ke=>.eT (gZ key) fun kb=>match ke.ch,kb.ch with
  | .hol es ms _ _ j,.box ls=>.fT (Nat.beq kb.bK j) (vD es ms ls fun ds=>Uc key es ms ds p)
  | _,_=>.fail
def RA (key:Key) (m:Nat) (k:Nat->Prog):Prog :=
 .eT key fun ke=>match ke.ch with
  | .box ls=>.fT (Nat.ble m ls.length) (.eT (lY key) fun kb=>.bD key ⟨.Iq m (kb.bK+1) (ls.drop m),ke.bK,ke.cv+1⟩ (.bD (lY key) ⟨.box (ls.take m),kb.bK+1,kb.cv+1⟩ (k (kb.bK+1))))
  | _=>.fail
def LV (key:Key) (p:Prog):Prog :=
 .eT key fun ke=>.eT (lY key) fun kb=>match ke.ch,kb.ch with
  | .Iq m j rest,.box ls=>.fT (Nat.beq ls.length m&&Nat.beq kb.bK j) (.bD (lY key) ⟨.gone,kb.bK+1,kb.cv+1⟩ (.bD key ⟨.box (ls++rest),ke.bK,ke.cv+1⟩ p))
  | _,_=>.fail
def closeAll:List (Bool×Key)->Prog->Prog
 | [],p=>p
 | (b,k)::os,p=>cond b (F8 k (closeAll os p)) (LV k (closeAll os p))
def uJ (nk:Key) (m:PM) (l:Leaf) (os:List (Bool×Key)) (k:Leaf->List (Bool×Key)->Prog):Prog :=
 match m with
 | .R=>k l os
 | .F=>(match l.st with
  | .al key n=>.eT key fun ke=>.fT (Nat.beq ke.bK n) (match ke.ch with
   | .row es _ rows=>.bD key { ke with ch:=.fz es rows } (k ⟨.sn [],.sl es,.l rows⟩ os)
   | .fz es rows=>k ⟨.sn [],.sl es,.l rows⟩ os
   | _=>.fail)
  | _=>k l os)
 | .O ms=>(match l.st with
  | .nl=>(match ms,l.lt with
   | [],_=>k l os
   | ms,.sl es=>.fT (!es.isEmpty) (.eT nk fun ke=>.bD nk ⟨.row es ms [],ke.bK+1,ke.cv+1⟩ (k ⟨.al nk (ke.bK+1),.sl es,.l []⟩ os))
   | _,_=>.fail)
  | .sb key n cv r off=>.eT key fun ke=>.fT (Nat.beq ke.bK n&&Nat.beq ke.cv cv) (F7 key r fun _ ls=>.fT (Nat.blt off ls.length) (k (ls.getD off default) ((true,key)::os)))
  | .al key n=>(match ms with
   | []=>k l os
   | ms=>.eT key fun ke=>.fT (Nat.beq ke.bK n) (match ke.ch with
    | .row es ms0 rows=>cond (M.dQ ms0 ms) (k l os) (.fT (M.sH ms0 ms) (.bD key ⟨.row es ms rows,ke.bK,ke.cv+1⟩ (k l os)))
    | _=>k l os))
  | _=>k l os)
def og (nk:Key):Nat->List PM->List Leaf->List (Bool×Key)->(List Leaf->List (Bool×Key)->Prog)->Prog
 | _,_,[],os,k=>k [] os
 | j,ms,l::ls,os,k=>uJ (5000000::j::nk) (ms.headD .R) l os fun l os=>og nk (j+1) (ms.drop 1) ls os fun ls os=>k (l::ls) os
def isO:PM->Bool | .O _=>true | _=>false
def agT (pm:List PM):Bool:=pm.any isO
def needs:List PM->List Leaf->Bool
 | m::pm,l::ls=>(match m,l.st with
  | .O (_::_),.nl=>true
  | .O (_::_),.al _ _=>true
  | .F,.al _ _=>true
  | _,_=>false)||needs pm ls
 | _,_=>false
def F9 (key:Key) (n:Nat) (pm:List PM) (os:List (Bool×Key)) (k:List (Bool×Key)->Prog):Prog :=
 .eT key fun ke=>.fT (Nat.beq ke.bK n) <| match ke.ch with
  | .box ls=>cond (needs pm ls) (og key 0 pm ls os fun ls' os=>.eT key fun ke=>.fT (Nat.beq ke.bK n) (match ke.ch with
   | .box ls0=>.fT (Nat.beq ls'.length ls0.length) (.bD key ⟨.box ls',ke.bK,ke.cv+1⟩ (k os))
   | _=>.fail)) (k os)
  | _=>k os
def Ga (nk:Key) (pm:List PM) (e:eG) (os:List (Bool×Key)) (k:eG->List (Bool×Key)->Prog):Prog :=
 match e with
 | .one l=>uJ nk (pm.headD .R) l os fun l os=>k (.one l) os
 | .agg ls=>og nk 0 pm ls os fun ls os=>k (.agg ls) os
 | .ptr key n r off=>cond (agT pm) (.eT key fun ke=>.fT (Nat.beq ke.bK n&&Nat.beq off 0) (match ke.ch with
   | .box ls=>cond (Nat.blt pm.length ls.length) (RA key pm.length fun m=>F9 (lY key) m pm ((false,key)::os) (k (.ptr (lY key) m 0 0)))
     (F9 key n pm os (k e))
   | .row es _ _=>.fT (Nat.beq pm.length es.length) (F7 key r fun m _=>F9 (gZ key) m pm ((true,key)::os) (k (.ptr (gZ key) m 0 0)))
   | _=>.fail)) (k e os)
 | e=>k e os
def K5 (d:Nat):Nat->List (List PM)->List eG->List (Bool×Key)->(List eG->List (Bool×Key)->Prog)->Prog
 | _,_,[],os,k=>k [] os
 | i,Yt,e::es,os,k=>Ga [d+2000000,700+i] (Yt.headD []) e os fun e os=>K5 d (i+1) (Yt.drop 1) es os fun es os=>k (e::es) os
def Iu (i j:Nat) (l:Leaf) (c:Pass) (k:AL->Pass->Prog):Prog :=
 match l.lt,l.st with
 | .sl _,.al key _=>.eT key fun ke=>match ke.ch with
  | .row _ _ _=>uI i j (.O []) l c k
  | _=>uI i j .F l c k
 | .sl _,.nl=>uI i j (.O []) l c k
 | _,_=>uI i j .F l c k
def C8 (i:Nat):Nat->List Leaf->Pass->(List AL->Pass->Prog)->Prog
 | _,[],c,k=>k [] c
 | j,l::ls,c,k=>Iu i j l c fun a c=>C8 i (j+1) ls c fun as c=>k (a::as) c
def RD (i sz:Nat) (e:eG) (c:Pass) (k:Arg->Pass->Prog):Prog :=
 match e with
 | .ptr key n _ off=>.eT key fun ke=>.fT (Nat.beq ke.bK n) (match ke.ch with
  | .box ls=>.fT (Nat.beq off 0&&Nat.beq ls.length sz&&Nat.ble sz 1000) (C8 i 0 ls { c with eU:=⟨key,n,[],i,sF⟩::c.eU } fun as c=>k (.bx as) c)
  | _=>.fail)
 | _=>.fail
def LW:List eG->Pass->(List Arg->Pass->Prog)->Prog
 | [],c,k=>k [] c
 | e::es,c,k=>F6 none e c fun a c=>LW es c fun as c=>k (a::as) c
def RF (i:Nat) (pm:List PM) (e:eG) (c:Pass) (k:Arg->Pass->Prog):Prog :=
 match e with
 | .one l=>uI i 0 (pm.headD .R) l c fun a c=>k (.one a) c
 | .agg ls=>Fa i 0 pm ls c fun as c=>k (.agg as) c
 | .fn f caps=>LW caps c fun as c=>k (.fn f as) c
 | e=>cond (agT pm) (RD i pm.length e c k) (F6 (cond pm.isEmpty none (some pm.length)) e c k)
def RG (Yt:List (List PM)):Nat->List eG->Pass->(List Arg->Pass->Prog)->Prog
 | _,[],c,k=>k [] c
 | i,e::es,c,k=>RF i (Yt.getD i []) e c fun a c=>RG Yt (i+1) es c fun as c=>k (a::as) c
def Eb (deps:List AV):List uH->Bool
 | []=>true
 | x::xs=>!(xs.any fun y=>dG x.key y.key||(Nat.beq x.i y.i&&Nat.beq x.j y.j)) && !(deps.any fun d=>dG x.key d.1)&&Eb deps xs
def uK (i j:Nat):List uH->Option uH
 | []=>none
 | l::ls=>cond (Nat.beq l.i i&&Nat.beq l.j j) (some l) (uK i j ls)
def jL (r:fE) (i j:Nat):Option (List LT×List M×List (List T)):=(r.owns.getD i []).getD j none
def vF (r:fE) (i:Nat):Option (List RL):=r.bxs.getD i none
def aa2 (l:Leaf):Leaf:={ l with st:=.dead,d:=.l [] }
def uL (r:fE):List uH->Prog->Prog
 | [],p=>p
 | l::ls,p=>.eT l.key fun ke=>cond (Nat.beq l.j sF)
  (match ke.ch with
  | .box old=>(match vF r l.i with
   | some rls=>.fT (Nat.beq rls.length old.length) (.bD l.key ⟨.box (old.map aa2),ke.bK,ke.cv+1⟩ (uL r ls p))
   | none=>.fail)
  | _=>.fail)
  (match jL r l.i l.j with
  | some (es,ms,rows)=>.fT (LT.dQ l.es es) (.bD l.key ⟨.row es ms rows,ke.bK,ke.cv+1⟩ (uL r ls p))
  | none=>.bD l.key ⟨.gone,ke.bK+1,ke.cv+1⟩ (uL r ls p))
def LX (c:Pass) (key:Key) (l:RL) (k:Leaf->Prog):Prog :=
 match l with
 | .sc s d=>k ⟨.sc,.sc s,d⟩
 | .fz es rows=>k ⟨.sn [],.sl es,.l rows⟩
 | .dz es rows=>k ⟨.sn c.deps,.sl es,.l rows⟩
 | .nl es=>k ⟨.nl,.sl es,.l []⟩
 | .own _ es ms rows=>.eT key fun ke=>.bD key ⟨.row es ms rows,ke.bK+1,ke.cv+1⟩ (k ⟨.al key (ke.bK+1),.sl es,.l []⟩)
 | .par i j=>nG (uK i j c.eU) fun l=>k ⟨.al l.key l.bK,.sl l.es,.l []⟩
def xg (c:Pass) (dst q:Nat):Nat->List RL->(List Leaf->Prog)->Prog
 | _,[],k=>k []
 | j,l::ls,k=>LX c [dst+2000000,q,j] l fun x=>xg c dst q (j+1) ls fun xs=>k (x::xs)
def yE (c:Pass) (dst:Nat):Nat->List RE->(List eG->Prog)->Prog
 | _,[],k=>k []
 | q,e::es,k =>
  match e with
  | .one l=>LX c [dst+2000000,q,0] l fun x=>yE c dst (q+1) es fun xs=>k (.one x::xs)
  | .agg ls=>xg c dst q 0 ls fun x=>yE c dst (q+1) es fun xs=>k (.agg x::xs)
  | .bx _ ls=>xg c dst q 0 ls fun x=>.fT (Nat.beq x.length ls.length&&Nat.ble ls.length 1000) (.eT [dst+2000000,q,sF] fun ke =>
    .bD [dst+2000000,q,sF] ⟨.box x,ke.bK+1,ke.cv+1⟩ (yE c dst (q+1) es fun xs=>k (.ptr [dst+2000000,q,sF] (ke.bK+1) 0 0::xs)))
  | _=>.fail
def wT (c:Pass) (dst:Nat) (r:fE):List uH->Prog->Prog
 | [],p=>p
 | l::ls,p=>cond (Nat.beq l.j sF)
  (match vF r l.i with
  | some rls=>xg c dst (1000+l.i) 0 rls fun xs=>.eT l.key fun ke=>match ke.ch with
   | .box old=>.fT (Nat.beq ke.bK l.bK&&Nat.beq xs.length old.length) (.bD l.key ⟨.box xs,ke.bK,ke.cv+1⟩ (wT c dst r ls p))
   | _=>.fail
  | none=>.fail)
  (wT c dst r ls p)
def adx:M->PM | .F=>.F | .O ms=>.O ms
def LY (nk:Key) (ms:List M):List eG->(List eG->Prog)->Prog
 | [],k=>k []
 | e::es,k=>match ms with
  | []=>k (e::es)
  | ms=>match e with
   | .one l=>uJ nk ((ms.map adx).headD .R) l [] fun l _=>k (.one l::es)
   | .agg ls=>og nk 0 (ms.map adx) ls [] fun ls _=>k (.agg ls::es)
   | e=>k (e::es)
def aa3 (xs:List eG):eG:=match xs with | [x]=>x | _=>.LQ xs
def L6 (fr f:FuncId) (dst:Option Nat) (es:List eG):Prog :=
 .fT (Γ.fn f).isSome (K5 (match dst with | some d=>d | none=>2000000+f) 0 (Γ.sig f).Yt es [] fun es os=>RG (Γ.sig f).Yt 0 es ⟨[],[],[]⟩ fun args c =>
 .fT (Eb c.deps c.eU) (.call f args fun r =>
  uL r c.eU (wT c (match dst with | some d=>d | none=>2000000+f) r c.eU (match dst with
   | none=>closeAll os .ret
   | some d=>yE c d 0 r.rs fun xs=>closeAll os (LY [d+2000000,600] (Γ.cast fr d) xs fun xs=>.kG d (aa3 xs) .ret)))))
def Jw:List Operand->(List eG->Prog)->Prog
 | [],k=>k []
 | x::xs,k=>rd x fun e=>Jw xs fun es=>k (e::es)
def L8 (es:List LT):Bool:=es.all fun l=>match l with | .sc .any=>false | _=>true
def partsOf (es:List LT) (ms:List M):List (Nat×Operand)->(List (Nat×List T)->Prog)->Prog
 | [],k=>k []
 | (i,x)::ps,k=>rd x fun e=>nG (Ac e) fun ls=>vD es ms ls fun ds=>partsOf es ms ps fun r=>k ((i,ds)::r)
def Gb (n:Nat):List (Nat×List T)->List (List T)->Option (List (List T))
 | [],rows=>some rows
 | (i,ds)::ps,rows=>if i<rows.length&&ds.length==n then Gb n ps (rows.set i ds) else none
mutual
def aes:LT->M
 | .sc _=>.F
 | .sl es=>.O (aa4 es)
def aa4:List LT->List M
 | []=>[]
 | e::es=>aes e::aa4 es
end
def oV:List LT->List Leaf->(List M->Prog)->Prog
 | e::es,l::ls,k=>match l.st with
  | .al key _=>.eT key fun ke=>(match ke.ch with
    | .row _ ms _=>oV es ls fun r=>k (.O ms::r)
    | _=>oV es ls fun r=>k (.F::r))
  | .nl=>oV es ls fun r=>k (aes e::r)
  | _=>oV es ls fun r=>k (.F::r)
 | es,_,k=>k (es.map fun _=>.F)
def L9 (ms:List M) (es:List LT) (ps:List (Nat×Operand)) (k:List M->Prog):Prog :=
 match ms,ps with
 | [],(_,x)::_=>rd x fun e=>nG (Ac e) fun ls=>oV es ls k
 | [],[]=>k (es.map fun _=>.F)
 | ms,_=>k ms
def AZ:List (Nat×Operand)->(List (Nat×List Leaf)->Prog)->Prog
 | [],k=>k []
 | (i,x)::ps,k=>rd x fun e=>nG (Ac e) fun ls=>AZ ps fun r=>k ((i,ls)::r)
def xk (Γ:Ctx) (fs:List (Nat×TypeId)):List (Nat×List Leaf)->List Leaf->Option (List Leaf)
 | [],acc=>some acc
 | (i,ls)::ps,acc=>match fs[i]? with
  | some (off,ft)=>match Γ.ty ft with
   | some tf=>cond (Nat.beq ls.length tf.aO.length&&Nat.ble (off+ls.length) acc.length) (xk Γ fs ps (acc.take off++ls++acc.drop (off+ls.length))) none
   | none=>none
  | none=>none
def oh:List LT->List Leaf->List Leaf
 | lt::aO,l::ls=>(match l.st,lt with | .nl,.sl _=>{ l with lt:=lt } | _,_=>l)::oh aO ls
 | _,ls=>ls
def Iw (ls:List Leaf):eG:=match ls with | [l]=>.one l | _=>.junk
def Iy (aO:List LT):eG->eG
 | .one l=>Iw (oh aO [l])
 | .agg ls=>.agg (oh aO ls)
 | e=>e
def qG (Gc:List LT) (msT:List M) (lx:Leaf) (k:List (List T)->List AV->Prog):Prog :=
 match lx.st,lx.lt with
 | .sc,.sc .str=>.fT (LT.dQ Gc [.sc (.int .u8)]&&LU msT) (k (gH lx.d.str) [])
 | .nl,_=>k [] []
 | .al key n,_=>.eT key fun ke=>.fT (Nat.beq ke.bK n) (match ke.ch with
   | .row es ms rows=>.fT (LT.dQ Gc es) (cond (LU ms) (.fT (LU msT) (k rows [(key,ke.cv)])) (.fT (M.sH ms msT) (.bD key ⟨.row es msT rows,ke.bK,ke.cv+1⟩ (.eT key fun ke=>.bD key ⟨.gone,ke.bK+1,ke.cv+1⟩ (k rows [])))))
   | .fz es rows=>.fT (LT.dQ Gc es&&LU msT) (k rows [])
   | _=>.fail)
 | _,_=>vC lx fun es rows deps=>.fT (LT.dQ Gc es&&LU msT&&(vE Gc||deps.isEmpty)) (k rows deps)
def sJ (dst:Nat) (Gc:List LT) (ms:List M) (old new:List (List T)):Prog :=
 .fT (Nat.ble Gc.length 1000&&decide ((old.length+new.length) * Gc.length<=ay)) (Jv dst Gc ms (old++new))
def Ma (dst:Nat) (Gc:List LT) (key:Key) (n:Nat) (lx:Leaf):Prog :=
 .eT key fun ke=>.fT (Nat.beq ke.bK n) (match ke.ch with
   | .row es ms _=>.fT (LT.dQ Gc es) (qG Gc ms lx fun new deps=>.fT (!(deps.any fun d=>dG d.1 key)) (.eT key fun ke=>.fT (Nat.beq ke.bK n) (match ke.ch with
     | .row es' ms' rows=>.fT (LT.dQ Gc es'&&M.dQ ms ms') (.bD key ⟨.gone,ke.bK+1,ke.cv+1⟩ (sJ dst Gc ms rows new))
     | _=>.fail)))
   | _=>.fail)
def Mc (msB:List M) (dst:Nat) (Gc:List LT) (s x:eG):Prog :=
 Rx s fun ls=>Rx x fun lx =>
 match ls.st with
 | .nl=>(match msB,lx.st with
  | [],.al key _=>.eT key fun ke=>(match ke.ch with
    | .row _ ms _=>qG Gc ms lx fun new _=>sJ dst Gc ms [] new
    | _=>qG Gc (Gc.map fun _=>.F) lx fun new _=>sJ dst Gc (Gc.map fun _=>.F) [] new)
  | [],_=>qG Gc (Gc.map fun _=>.F) lx fun new _=>sJ dst Gc (Gc.map fun _=>.F) [] new
  | msB,_=>qG Gc msB lx fun new _=>sJ dst Gc msB [] new)
 | .al key n=>Ma dst Gc key n lx
 | .sb key n cv r off=>.eT key fun ke=>.fT (Nat.beq ke.bK n&&Nat.beq ke.cv cv) (F7 key r fun _ ls=>match (ls.getD off default).st with
   | .al key n=>Ma dst Gc key n lx
   | _=>.fail)
 | _=>.fail
def C9:TK->Bool | .sc .str=>true | _=>false
def qW:TK->Bool | .slice _=>true | _=>false
def sliceBound (e:Option eG) (d:Int) (k:Int->Prog):Prog:=match e with
  | none=>k d
  | some e=>sI e fun s t=>match s with | .int _=>k t.int | _=>.fail
def mg (ti:TI) (cut:Nat) (dst:Nat) (x:eG) (lo hi:Option eG):Prog :=
 Rx x fun l =>
 match l.st,l.lt with
 | .sc,.sc .str =>
  let n:Int:=l.d.str.size
  .fT (C9 ti.kind) <| sliceBound hi n fun h=>sliceBound lo 0 fun a=>.fT (decide (0<=h/\h<=n)) (.fT (decide (0<=a/\a<=h))
   (nT (some dst) .str (.s (l.d.str.extract a.toNat h.toNat))))
 | _,_=>vC l fun es rows deps =>
  let n:Int:=rows.length
  .fT (match ti.aO with | [.sl tes]=>qW ti.kind&&Nat.beq es.length tes.length | _=>false) <| sliceBound hi n fun h=>sliceBound lo 0 fun a=>.fT (decide (0<=h/\h<=n)) (.fT (decide (0<=a/\a<=h))
   (match cut with
    | 0=>.kG dst (.one ⟨.sn deps,.sl es,.l ((rows.take h.toNat).drop a.toNat)⟩) .ret
    | 1=>(match l.st,lo with
    | .al key _,none=>.eT key fun ke=>match ke.ch with
      | .row es ms rows=>.fT (LU ms) (.bD key ⟨.gone,ke.bK+1,ke.cv+1⟩ (Jv dst es ms (rows.take h.toNat)))
      | _=>.fail
    | _,_=>.fail)
    | _=>(match l.st with
    | .al key n=>.eT key fun ke=>.fT (Nat.beq ke.bK n && !dG key qV) (match ke.ch with
      | .row es0 _ Qa=>.bD key { ke with ch:=.fz es0 Qa } (.kG dst (.one ⟨.sn [],.sl es,.l ((rows.take h.toNat).drop a.toNat)⟩) .ret)
      | .fz _ _=>.kG dst (.one ⟨.sn [],.sl es,.l ((rows.take h.toNat).drop a.toNat)⟩) .ret
      | _=>.fail)
    | .sn []=>.kG dst (.one ⟨.sn [],.sl es,.l ((rows.take h.toNat).drop a.toNat)⟩) .ret
    | .nl=>.kG dst (.one ⟨.sn [],.sl es,.l ((rows.take h.toNat).drop a.toNat)⟩) .ret
    | _=>.fail)))
def i64:ST:=.int .i64
def zy (x y:Int):Int:=if y<x then y else x
def zA (x y:Int):Int:=if y > x then y else x
def RH (f:Int->Int->Int):List eG->Option (IntKind×Int)
 | [.one ⟨.sc,.sc (.int k),x⟩,.one ⟨.sc,.sc (.int k'),y⟩]=>if k=k' then some (k,f x.int y.int) else none
 | _=>none
def K6:TK->Bool | .sc (.int .u8)=>true | _=>false
def Da (dst:Nat) (aiG agU:TI) (x:eG):Prog :=
 match aiG.kind,agU.kind with
 | .sc (.int _),.sc (.int k)=>sI x fun s d=>match s with
  | .int _=>nT (some dst) (.int k) (.i (k.wrap d.int))
  | _=>.fail
 | .sc .str,.sc .str=>sI x fun s d=>match s with
  | .str=>nT (some dst) .str d
  | _=>.fail
 | .sc .str,.slice el=>sw Γ el fun te=>.fT (K6 te.kind) (sI x fun s d=>match s,agU.aO with
  | .str,[.sl [.sc (.int .u8)]]=>.fT (decide (d.str.size<=bA)) (.kG dst (.one ⟨.sn [],.sl [.sc (.int .u8)],.l (gH d.str)⟩) .ret)
  | _,_=>.fail)
 | .slice el,.sc .str=>sw Γ el fun te=>.fT (K6 te.kind) (Rx x fun l=>vC l fun es rows _=>match es with
  | [.sc (.int .u8)]=>nT (some dst) .str (.s (oU rows))
  | _=>.fail)
 | _,_=>.fail
def K7 (pm:List M) (d0:Nat) (ls:List Leaf):Prog :=
 match pm with
 | []=>aaZ d0 ls
 | pm=>og [d0+2000000,500] 0 (pm.map adx) ls [] fun ls _=>aaZ d0 ls
def K8 (pm:List M) (dst:Option Nat) (ls:List Leaf):Prog :=
 match pm,dst with
 | _::_,some d=>og [d+2000000,400] 0 (pm.map adx) ls [] fun ls _=>put dst (.agg ls)
 | _,_=>put dst (.agg ls)
def isZero:Operand->Bool | .const (.int _ 0)=>true | _=>false
def slice3 (ti:TI) (dst:Nat) (x:eG) (lo:Option eG) (hi mx:eG) (z:Bool):Prog :=
 Rx x fun l=>vC l fun es rows deps =>
  .fT (match ti.aO with | [.sl tes]=>qW ti.kind&&Nat.beq es.length tes.length && !es.isEmpty | _=>false) <| sI hi fun sh h=>sI mx fun sm m=>sliceBound lo 0 fun a=>(match sh,sm with
   | .int _,.int _=>.fT (decide (0<=h.int/\h.int<=m.int/\m.int<=rows.length)) (.fT (decide (0<=a/\a<=h.int))
    (cond (z&&lo.isNone) (.fT (decide (h.int=0/\m.int=0)) (Jv dst es (es.map fun _=>.F) [])) (.kG dst (.one ⟨.sn deps,.sl es,.l ((rows.take h.int.toNat).drop a.toNat)⟩) .ret)))
   | _,_=>.fail)
def Yu (s:ST):List Leaf->Bool
 | []=>true
 | l::ls=>(match l.st,l.lt with | .sc,.sc s'=>decide (s=s') | _,_=>false)&&Yu s ls
def Md (m:Nat) (el:TypeId) (dst:Nat) (e:eG):Prog:=sw Γ el fun te=>match te.aO,e with
 | [.sc s],.ptr key n _ off=>.eT key fun ke=>.fT (Nat.beq ke.bK n) (match ke.ch with
   | .box ls=>.fT (Nat.beq off 0&&Nat.beq ls.length m&&Nat.ble m 1000&&Yu s ls) (.kG dst (.one ⟨.sn [(key,ke.cv)],.sl [.sc s],.l (ls.map fun l=>[l.d])⟩) .ret)
   | _=>.fail)
 | _,_=>.fail
def RJ (f:FuncId) (t:TypeId) (dst:Option Nat) (e:eG):Prog :=
 match e with
 | .LQ _=>put dst e
 | e=>sw Γ t fun ti=>aa1 (Γ.own f) (Γ.ms f) dst (Iy ti.aO e)
def RN:eG->Bool | .LQ _=>false | .fn _ _=>false | _=>true
def Me (s:ST) (x:T):T:=match s with | .bool=>.b x.bool | _=>x
def bB (f:FuncId) (o:Oper):Prog :=
 let dst:=o.dst
 let wd:=nG o.dst
 match o.op with
 | .move x | .assign x=>rd x fun e=>RJ Γ f o.type dst e
 | .pick c a b=>rd c fun c=>rd a fun a=>rd b fun b=>sI c fun sc c =>
   match sc with
   | .bool=>.br c.bool (sI a fun s x=>nT dst s (Me s x)) (sI b fun s x=>nT dst s (Me s x))
   | _=>.fail
 | .alloc t=>wd fun d0=>sw Γ t fun ti=>K7 (Γ.box f d0) d0 (ti.aO.map F3)
 | .box t x=>wd fun d0=>sw Γ t fun ti=>rd x fun e=>nG (Ac e) fun ls=>K7 (Γ.box f d0) d0 (oh ti.aO ls)
 | .build t ps=>sw Γ t fun ti=>match ti.kind with
   | .struct fs=>AZ ps.toList fun r=>nG (xk Γ fs r (ti.aO.map F3)) fun ls=>K8 (match dst with | some d=>Γ.box f d | none=>[]) dst (oh ti.aO ls)
   | .array m el=>sw Γ el fun te=>AZ ps.toList fun r=>nG (xk Γ ((List.range m).map fun i=>(i * te.aO.length,el)) r (ti.aO.map F3)) fun ls=>K8 (match dst with | some d=>Γ.box f d | none=>[]) dst (oh ti.aO ls)
   | _=>.fail
 | .buildSlice t n ps=>wd fun d0=>sw Γ t fun ti=>match ti.kind,ti.aO with
   | .slice _,[.sl es]=>.fT (L8 es&&Nat.ble (n * es.length) 16777216) <|
     L9 (Γ.ms f d0) es ps.toList fun ms=>.fT (Zz es ms) (partsOf es ms ps.toList fun r =>
     nG (Gb es.length r (List.replicate n (es.map CY))) fun rows=>afe (!Γ.own f d0) d0 es ms rows)
   | _,_=>.fail
 | .load t a=>sw Γ t fun ti=>rd a fun e =>
   let size:=ti.aO.length
   let agg:=wY ti.kind
   match e with
   | .ptr key n r off=>.eT key fun ke=>.fT (Nat.beq ke.bK n) (match ke.ch with
     | .box ls=>.fT (Nat.ble (off+size) ls.length) (put dst (CZ agg ((ls.drop off).take size)))
     | .row es ms rows=>.fT (Nat.ble (off+size) es.length) (.fT (decide (r<rows.length)) (put dst (CZ agg (Ir key n ke.cv r off size es ms (rows.getD r [])))))
     | .fz es rows=>.fT (Nat.ble (off+size) es.length) (.fT (decide (r<rows.length)) (put dst (CZ agg (F5 [] size (es.drop off) ((rows.getD r []).drop off)))))
     | .hol _ _ _ r' j=>.fT (Nat.beq r r') (.eT (gZ key) fun kb=>.fT (Nat.beq kb.bK j) <| match kb.ch with
       | .box ls=>.fT (Nat.ble (off+size) ls.length) (put dst (CZ agg ((ls.drop off).take size)))
       | _=>.fail)
     | _=>.fail)
   | .rp deps aO row=>.fT (Nat.ble size aO.length) (zx deps (put dst (CZ agg (F5 deps size aO row))))
   | _=>.fail
 | .store t a x=>sw Γ t fun ti=>rd a fun e=>rd x fun v=>nG (Ac v) fun ls =>
   match e with
   | .ptr key n r off=>.eT key fun ke=>.fT (Nat.beq ke.bK n) (match ke.ch with
     | .box old=>.fT (Nat.beq ls.length ti.aO.length&&Nat.ble (off+ls.length) old.length) (.bD key ⟨.box (old.take off++oh ti.aO ls++old.drop (off+ls.length)),ke.bK,ke.cv+1⟩ (put dst .und))
     | .row es0 ms0 _=>.fT (Nat.beq ls.length ti.aO.length&&Nat.ble (off+ls.length) es0.length) <| vD ((es0.drop off).take ls.length) (ms0.drop off) ls fun ds=>.eT key fun ke=>.fT (Nat.beq ke.bK n) <| match ke.ch with
       | .row es ms rows=>.fT (LT.dQ es0 es&&M.dQ ms0 ms&&decide (r<rows.length))
         (.bD key ⟨.row es ms (rows.set r (setMany (rows.getD r []) off ds)),ke.bK,ke.cv+1⟩ (put dst .und))
       | _=>.fail
     | .hol _ _ _ r' j=>.fT (Nat.beq r r') (.eT (gZ key) fun kb=>.fT (Nat.beq kb.bK j) <| match kb.ch with
       | .box old=>.fT (Nat.beq ls.length ti.aO.length&&Nat.ble (off+ls.length) old.length) (.bD (gZ key) ⟨.box (old.take off++oh ti.aO ls++old.drop (off+ls.length)),kb.bK,kb.cv+1⟩ (F8 key (put dst .und)))
       | _=>.fail)
     | _=>.fail)
   | _=>.fail
 | .nilCheck x=>rd x fun e=>match e with
   | .ptr k n _ _=>.eT k fun ke=>.fT (Nat.beq ke.bK n) (put dst e)
   | .rp ds _ _=>zx ds (put dst e)
   | _=>.fail
 | .binOp op t x y _=>sw Γ t fun ti=>rd x fun x=>rd y fun y=>agS ti op x y fun s d=>nT dst s d
 | .unOp op _ x=>rd x fun x=>sI x fun s d=>match op,s with
   | .not,.bool=>nT dst .bool (.b (!d.bool))
   | .neg,.int k=>nT dst (.int k) (.i (k.wrap (0-d.int)))
   | .xor,.int k=>nT dst (.int k) (jw k (BitVec.ofInt k.bits (if k.signed then -1 else k.max) ^^^ BitVec.ofInt k.bits d.int))
   | _,_=>.fail
 | .convert s t x=>wd fun d0=>sw Γ s fun ts=>sw Γ t fun tt=>rd x fun e=>Da Γ d0 ts tt e
 | .makeSlice t l c=>wd fun d0=>sw Γ t fun ti=>rd l fun l=>rd c fun c=>sI l fun sl l=>sI c fun sc c=>match sl,sc,ti.kind,ti.aO with
   | .int .i64,.int .i64,.slice el,[.sl es]=>sw Γ el fun te =>
     .fT (L8 es&&Zz es (Ea (Γ.ms f) d0 es)&&decide (0<=l.int/\l.int<=c.int)) (.fT (decide (c.int * te.bytes<=bA)) (Jv d0 es (Ea (Γ.ms f) d0 es) (List.replicate l.int.toNat (es.map CY))))
   | _,_,_,_=>.fail
 | .slice t x lo hi none=>wd fun d0=>sw Γ t fun ti=>rd x fun x =>
   let go (lo:Option eG) (hi:Option eG):=mg ti (Γ.cut f d0) d0 x lo hi
   match lo,hi with
   | none,none=>(match ti.kind with | .array m el=>Md Γ m el d0 x | _=>go none none)
   | some a,none=>rd a fun a=>go (some a) none
   | none,some b=>rd b fun b=>go none (some b)
   | some a,some b=>rd a fun a=>rd b fun b=>go (some a) (some b)
 | .slice t x lo (some hi) (some mx)=>wd fun d0=>sw Γ t fun ti=>rd x fun x=>rd hi fun h=>rd mx fun m=>(match lo with
   | none=>slice3 ti d0 x none h m (isZero hi&&isZero mx)
   | some lo=>rd lo fun l=>slice3 ti d0 x (some l) h m false)
 | .fieldAddr t x i=>sw Γ t fun ti=>rd x fun e=>match ti.kind with
   | .struct fs=>nG fs[i]? fun (off,_)=>match e with
     | .ptr k n r o=>.eT k fun ke=>.fT (Nat.beq ke.bK n) (put dst (.ptr k n r (o+off)))
     | .rp deps aO row=>.fT (Nat.ble off aO.length) (zx deps (put dst (.rp deps (aO.drop off) (row.drop off))))
     | _=>.fail
   | _=>.fail
 | .field t x i=>sw Γ t fun ti=>rd x fun e=>match ti.kind,e with
   | .struct fs,.agg ls=>nG fs[i]? fun (off,ft)=>sw Γ ft fun tf=>.fT (Nat.ble (off+tf.aO.length) ls.length) (put dst (CZ (wY tf.kind) ((ls.drop off).take tf.aO.length)))
   | _,_=>.fail
 | .indexAddr t x i=>sw Γ t fun ti=>rd x fun e=>rd i fun ie=>sI ie fun si ix=>match si,ti.kind,ti.aO,e with
   | .int _,.slice _,[.sl tes],.one l=>(match l.st with
     | .al key n=>.eT key fun ke=>.fT (Nat.beq ke.bK n) (match ke.ch with
       | .row es _ rows=>.fT (Nat.beq es.length tes.length) (.fT (decide (0<=ix.int/\ix.int<rows.length)) (put dst (.ptr key n ix.int.toNat 0)))
       | .fz es rows=>.fT (Nat.beq es.length tes.length) (.fT (decide (0<=ix.int/\ix.int<rows.length)) (put dst (.ptr key n ix.int.toNat 0)))
       | _=>.fail)
     | _=>vC l fun es rows deps=>.fT (Nat.beq es.length tes.length) (.fT (decide (0<=ix.int/\ix.int<rows.length)) (put dst (.rp deps es (rows.getD ix.int.toNat [])))))
   | _,_,_,_=>.fail
 | .index t x i=>sw Γ t fun ti=>rd x fun x=>rd i fun i=>sI x fun sx d=>sI i fun si ix=>match si,sx,ti.kind with
   | .int _,.str,.sc .str=>.fT (decide (0<=ix.int/\ix.int<d.str.size)) (nT dst (.int .u8) (.i (d.str.data.toList.getD ix.int.toNat 0).toNat))
   | _,_,_=>.fail
 | .extract x i=>rd x fun e=>match e with
   | .LQ es=>nG es[i]? fun e=>put dst e
   | _=>.fail
 | .makeFunc (.func g) first caps=>cond (first.isEmpty) (Jw caps.toList fun es=>.fT (es.all RN) (put dst (.fn g es))) .fail
 | .call c=>match c.callee with
   | .value g=>rd g fun g=>Jw c.args.toList fun es=>match g with
     | .fn g caps=>L6 Γ f g dst (es++caps)
     | _=>.fail
   | .builtin .len=>nG c.argTypes[0]? fun t=>sw Γ t fun ti=>Jw c.args.toList fun es=>match es with
     | [.one l]=>(match l.st,l.lt with
       | .sc,.sc .str=>.fT (C9 ti.kind) (nT dst i64 (.i l.d.str.size))
       | _,_=>.fT (qW ti.kind) (vC l fun _ rows _=>.lim (decide (rows.length<=bA)) (nT dst i64 (.i rows.length))))
     | _=>.fail
   | .builtin .min=>Jw c.args.toList fun es=>nG (RH zy es) fun (k,v)=>nT dst (.int k) (.i v)
   | .builtin .max=>Jw c.args.toList fun es=>nG (RH zA es) fun (k,v)=>nT dst (.int k) (.i v)
   | .builtin .append=>wd fun d0=>Jw c.args.toList fun es=>match es,c.argTypes.toList with
     | [s,x],[t,tx]=>sw Γ t fun ti=>sw Γ tx fun tk=>match ti.kind,ti.aO with
       | .slice _,[.sl aO]=>.fT (qW tk.kind||C9 tk.kind) (Mc (Γ.ms f d0) d0 aO s x)
       | _,_=>.fail
     | _,_=>.fail
   | _=>.fail
 | _=>.fail
def bit (t:Nat):Nat:=1 <<< t
def aeu (m:Nat):Operand->Nat
 | .tmp t=>m ||| bit t
 | _=>m
def Yv (ops:Array Oper):List Oper->Nat->Nat
 | [],m=>m
 | o::os,m =>
  let m:=Yv ops os m
  let m:=match o.dst with
   | some d=>m ^^^ (m &&& bit d)
   | none=>m
  let m:=o.op.operands.toList.foldl aeu m
  match o.guard with
  | some (i,_)=>(match (ops[i]?).bind (·.dst) with | some d=>m ||| bit d | none=>m)
  | none=>m
def Mf (ex:List (Nat×Nat)) (id:Nat):Nat:=match ex.find? (fun p=>Nat.beq p.1 id) with | some p=>p.2 | none=>0
def lin (ret:Nat):List (Nat×Nat)->Code->Nat->Nat
 | _,.region _ ops _,m=>Yv ops ops.toList m
 | ex,.seq a b,m=>lin ret ex a (lin ret ex b m)
 | ex,.cond c a b,m=>aeu (lin ret ex a m ||| lin ret ex b m) c
 | ex,.block id b,m=>lin ret ((id,m)::ex) b m
 | ex,.loop b,_=>lin ret ex b (lin ret ex b 0)
 | ex,.exit id,_=>Mf ex id
 | _,.ret,_=>ret
 | _,_,m=>m
structure Pack where
 es:List (Nat×eG)
 ks:List (Key×Ch)
 deriving Inhabited
inductive EG where
 | normal | exit (id:Nat) | ret
 deriving Inhabited
def Db:Ch->Bool
 | .Iq _ _ _=>false
 | .hol _ _ _ _ _=>false
 | _=>true
def qX (σ:S) (ds:List AV):Bool:=ds.all fun d=>Nat.beq (σ.k d.1).cv d.2&&Db (σ.k d.1).ch
def om (ds:List AV):List AV:=ds.map fun d=>(d.1,0)
def Ad (σ:S) (l:Leaf):Leaf :=
 match l.st with
 | .sn ds=>cond (qX σ ds) { l with st:=.sn (om ds) } { l with st:=.dead,d:=.l [] }
 | .sb k _ cv _ _=>cond (qX σ [(k,cv)]) { l with st:=.sn [(k,0)] } { l with st:=.dead,d:=.l [] }
 | .al k n=>cond (Nat.beq (σ.k k).bK n&&Db (σ.k k).ch) { l with st:=.al k 0 } { l with st:=.dead,d:=.l [] }
 | _=>l
def vZ (σ:S):Nat->eG->eG
 | _,.one l=>.one (Ad σ l)
 | _,.agg ls=>.agg (ls.map (Ad σ))
 | n+1,.LQ es=>.LQ (es.map (vZ σ n))
 | _,.ptr k n i off=>cond (Nat.beq (σ.k k).bK n&&Db (σ.k k).ch) (.ptr k 0 i off) .junk
 | _,.rp ds aO row=>cond (qX σ ds) (.rp (om ds) aO row) .junk
 | n+1,.fn f caps=>.fn f (caps.map (vZ σ n))
 | _,.und=>.und
 | _,_=>.junk
def uM (l:Leaf):List Key:=match l.st with
 | .sn ds=>ds.map (·.1)
 | .sb k _ _ _ _=>[k]
 | .al k _=>[k]
 | _=>[]
def K9:Nat->eG->List Key
 | _,.one l=>uM l
 | _,.agg ls=>ls.flatMap uM
 | n+1,.LQ es=>es.flatMap (K9 n)
 | _,.ptr k _ _ _=>[k]
 | _,.rp ds _ _=>ds.map (·.1)
 | n+1,.fn _ caps=>caps.flatMap (K9 n)
 | _,_=>[]
def Ec (ks new:List Key):List Key:=new.foldl (fun ks k=>cond (ks.any (dG k)) ks (ks++[k])) ks
def aa5:Ch->List Key
 | .box ls=>ls.flatMap uM
 | _=>[]
def RO (k:Key):Nat->List Key->Key
 | _,[]=>k
 | i,u::us=>cond (dG k u) [1000000,i] (RO k (i+1) us)
def RP (np:Nat):Key->Bool
 | i::_=>Nat.blt i np
 | []=>false
def dS (np:Nat) (ks:List Key) (k:Key):Key:=cond (RP np k||dG k qV) k (RO k 0 ks)
def Iz (ks:List Key) (k:Key):Bool:=ks.any (dG k)
def A8 (np:Nat) (ks:List Key) (ds:List AV):List AV:=ds.map fun d=>(dS np ks d.1,d.2)
def qY (np:Nat) (ks:List Key) (l:Leaf):Leaf :=
 match l.st with
 | .sn ds=>cond (ds.all fun d=>Iz ks d.1) { l with st:=.sn (A8 np ks ds) } { l with st:=.dead,d:=.l [] }
 | .sb _ _ _ _ _=>{ l with st:=.dead,d:=.l [] }
 | .al k n=>cond (Iz ks k) { l with st:=.al (dS np ks k) n } { l with st:=.dead,d:=.l [] }
 | _=>l
def xq (np:Nat) (ks:List Key):Nat->eG->eG
 | _,.one l=>.one (qY np ks l)
 | _,.agg ls=>.agg (ls.map (qY np ks))
 | n+1,.LQ es=>.LQ (es.map (xq np ks n))
 | _,.ptr k n i off=>cond (Iz ks k) (.ptr (dS np ks k) n i off) .junk
 | _,.rp ds aO row=>cond (ds.all fun d=>Iz ks d.1) (.rp (A8 np ks ds) aO row) .junk
 | n+1,.fn f caps=>.fn f (caps.map (xq np ks n))
 | _,.und=>.und
 | _,_=>.junk
def vG (σ:S):Ch->Ch
 | .box ls=>.box (ls.map (Ad σ))
 | .Iq _ _ _=>.gone
 | .hol _ _ _ _ _=>.gone
 | c=>c
def EI (np:Nat) (ks:List Key):Ch->Ch
 | .box ls=>.box (ls.map (qY np ks))
 | c=>c
def bitsOf (n m:Nat):List Nat:=(List.range n).filter fun t=>Nat.testBit m t
def yF (np n m:Nat) (σ:S):Pack :=
 let es:=(bitsOf n m).map fun t=>(t,vZ σ 3 (σ.s t))
 let ks:=Ec [] (es.flatMap fun e=>K9 3 e.2)
 let Kl:=Ec ks (ks.flatMap fun k=>aa5 (vG σ (σ.k k).ch))
 ⟨es.map fun e=>(e.1,xq np Kl 3 e.2),Kl.map fun k=>(dS np Kl k,EI np Kl (vG σ (σ.k k).ch))⟩
def tQ (t:Nat):List (Nat×eG)->eG
 | []=>.junk
 | (u,e)::r=>cond (Nat.beq t u) e (tQ t r)
def Dc (k:Key):List (Key×Ch)->KE
 | []=>⟨.gone,0,0⟩
 | (u,c)::r=>cond (dG k u) ⟨c,0,0⟩ (Dc k r)
def lJ (p:Pack):S:=⟨fun t=>tQ t p.es,fun k=>Dc k p.ks⟩
def Xe (b:Bool):eG:=.one ⟨.sc,.sc .bool,.b b⟩
variable (cf:FuncId->List Arg->R3 fE)
def RQ (a b:Tr):Bool :=
 !(a.ws.any fun t=>b.ws.any (Nat.beq t)||b.rs.any (Nat.beq t)) && !(b.ws.any fun t=>a.rs.any (Nat.beq t)) &&
 !(a.wk.any fun t=>b.wk.any (dG t)||b.rk.any (dG t)) && !(b.wk.any fun t=>a.rk.any (dG t))
def RU (acc:List Nat) (o:Oper):Nat:=o.after.toList.foldl (fun s e=>cond (Region.binds .any e) (s ||| 2 ^ e.on ||| acc.getD e.on 0) s) 0
def Gd:List Oper->List Nat->List Nat
 | [],acc=>acc
 | o::os,acc=>Gd os (acc++[RU acc o])
def La:Nat->List Oper->Bool
 | _,[]=>true
 | j,o::os=>(o.after.toList.all fun e=>!Region.binds .any e||Nat.blt e.on j)&&La (j+1) os
def Lb (bf:List Nat) (i:Nat) (ti:Tr):Nat->List Tr->Bool
 | _,[]=>true
 | j,tj::ts=>(Nat.testBit (bf.getD j 0) i||RQ ti tj)&&Lb bf i ti (j+1) ts
def Lc (bf:List Nat):Nat->List Tr->Bool
 | _,[]=>true
 | i,ti::ts=>Lb bf i ti (i+1) ts&&Lc bf (i+1) ts
def Mg (ops:Array Oper) (AR:List Tr):Bool:=La 0 ops.toList&&Lc (Gd ops.toList []) 0 AR
def dB (np nt:Nat) (o:Oper):Bool:=match o.dst with | some d=>Nat.blt d nt | none=>true
def wh (g:Nat):List (Nat×Bool)->Option Bool
 | []=>none
 | (u,b)::r=>cond (Nat.beq g u) (some b) (wh g r)
def qZ (ws:List Nat):List (Nat×Bool)->List (Nat×Bool)
 | []=>[]
 | (u,b)::r=>cond (ws.any (Nat.beq u)) (qZ ws r) ((u,b)::qZ ws r)
def Ud (asm:List (Nat×Bool)) (x:Operand) (e:eG):eG :=
 match x with
 | .tmp u=>(match wh u asm with
  | some w=>Xe w
  | none=>e)
 | _=>e
def Ld (f:FuncId) (asm:List (Nat×Bool)) (o:Oper):Prog :=
 match o.op with
 | .pick (.tmp c) a b=>(match wh c asm with
  | some v=>.AX c fun _=>rd a fun ea=>rd b fun eb=>cond v (sI (Ud asm a ea) fun s x=>nT o.dst s (Me s x)) (sI (Ud asm b eb) fun s x=>nT o.dst s (Me s x))
  | none=>bB Γ f o)
 | _=>bB Γ f o
def ru {α:Type} (f np nt:Nat) (ops:Array Oper):List Oper->S->List Tr->List (Nat×Bool)->(S->List Tr->List (Nat×Bool)->R3 α)->R3 α
 | [],σ,AR,asm,K=>K σ AR.reverse asm
 | o::os,σ,AR,asm,K =>
  cond (dB np nt o) (
   let step (Xf:Tr) (asm:List (Nat×Bool)):R3 α:=(Ld Γ f asm o).run cf σ Xf fun σ tr=>ru f np nt ops os σ (tr::AR) (qZ tr.ws asm) K
   let skip (g:Nat) (asm:List (Nat×Bool)):R3 α:=(put o.dst .und).run cf σ { rs:=[g] } fun σ tr=>ru f np nt ops os σ (tr::AR) (qZ tr.ws asm) K
   match o.guard with
   | none=>step {} asm
   | some (i,want) =>
    match (ops[i]?).bind (·.dst) with
    | none=>.bad
    | some g =>
     match wh g asm with
     | some b=>cond (b==want) (step { rs:=[g] } asm) (skip g asm)
     | none =>
      match σ.s g with
      | .und=>skip g asm
      | .one ⟨.sc,.sc .bool,d⟩=>cond (d.bool==want) (step { rs:=[g] } ((g,want)::asm)) (skip g ((g,!want)::asm))
      | _=>.bad) .bad
def RV (σ:S):List (Nat×Bool)->S
 | []=>σ
 | (g,b)::r=>(RV σ r).kG g (Xe b)
def wm (l:Leaf) (p:Prog):Prog :=
 match l.st with
 | .al key n=>.eT key fun ke=>cond (Nat.beq ke.bK n) (match ke.ch with
   | .row es _ rows=>.bD key { ke with ch:=.fz es rows } p
   | _=>p) p
 | _=>p
def Ae:List Leaf->Prog->Prog
 | [],p=>p
 | l::ls,p=>wm l (Ae ls p)
def EC:List (Nat×Nat)->Prog
 | []=>.ret
 | (t,j)::r=>.AX t fun e=>match e with
  | .one l=>wm l (EC r)
  | .agg ls=>wm (ls.getD j default) (EC r)
  | .ptr k _ _ off=>.eT k fun ke=>(match ke.ch with
   | .box ls=>wm (ls.getD (off+j) default) (EC r)
   | _=>EC r)
  | _=>EC r
structure Fi where
 f:FuncId
 np:Nat
 nt:Nat
 ret:Nat
def lM {α:Type} (lf:List (Nat×Nat)->Code->Pack->R3 (EG×Pack)) (fi:Fi):List (Nat×Nat)->Nat->Code->S->(EG->S->R3 α)->R3 α
 | _,_,.skip,σ,K=>K .normal σ
 | _,_,.region id ops dr,σ,K=>(EC (Γ.rg fi.f id)).run cf σ {} fun σ _=>ru Γ cf fi.f fi.np fi.nt ops ops.toList σ [] [] fun σ AR asm=>cond (!dr||Mg ops AR) (K .normal (RV σ asm)) .bad
 | ex,af,.seq a b,σ,K=>lM lf fi ex (lin fi.ret ex b af) a σ fun c σ=>match c with
   | .normal=>lM lf fi ex af b σ K
   | c=>K c σ
 | ex,af,.cond c a b,σ,K =>
  match c with
  | .tmp t=>(match σ.s t with
   | .one ⟨.sc,.sc .bool,d⟩=>cond d.bool (lM lf fi ex af a (σ.kG t (Xe true)) K) (lM lf fi ex af b (σ.kG t (Xe false)) K)
   | _=>.bad)
  | .const (.bool true)=>lM lf fi ex af a σ K
  | .const (.bool false)=>lM lf fi ex af b σ K
  | _=>.bad
 | ex,af,.block id b,σ,K=>lM lf fi ((id,af)::ex) af b σ fun c σ=>match c with
   | .exit id'=>cond (Nat.beq id' id) (K .normal σ) (K (.exit id') σ)
   | c=>K c σ
 | ex,_,.loop b,σ,K=>(lf ex b (yF fi.np fi.nt (lin fi.ret ex b (lin fi.ret ex b 0)) σ)).bind fun cp=>K cp.1 (lJ cp.2)
 | _,_,.exit id,σ,K=>K (.exit id) σ
 | _,_,.ret,σ,K=>K .ret σ
 | _,_,_,_,_=>.bad
def EJ (fi:Fi):Nat->List (Nat×Nat)->Code->Pack->R3 (EG×Pack)
 | 0,_,_,_=>.bad
 | n+1,ex,b,p =>
  let m:=lin fi.ret ex b (lin fi.ret ex b 0)
  lM Γ cf (EJ fi n) fi ex m b (lJ p) fun c σ=>match c with
   | .normal=>EJ fi n ex b (yF fi.np fi.nt m σ)
   | .exit id=>.ok (.exit id,yF fi.np fi.nt (Mf ex id) σ)
   | .ret=>.ok (.ret,yF fi.np fi.nt fi.ret σ)
def Xg (i j:Nat):AL->Leaf
 | .sc s d=>⟨.sc,.sc s,d⟩
 | .fz es rows=>⟨.sn [],.sl es,.l rows⟩
 | .dz es rows=>⟨.sn [(qV,0)],.sl es,.l rows⟩
 | .own es _ _=>⟨.al [i,j] 0,.sl es,.l []⟩
 | .nl es=>⟨.nl,.sl es,.l []⟩
def xu (i:Nat):Nat->List AL->List Leaf
 | _,[]=>[]
 | j,a::as=>Xg i j a::xu i (j+1) as
def aev:Arg->eG
 | .EB aO row=>.rp [(qV,0)] aO row
 | _=>.junk
def aa6 (i:Nat):Arg->eG
 | .one a=>.one (Xg i 0 a)
 | .agg as=>.agg (xu i 0 as)
 | .EB aO row=>.rp [(qV,0)] aO row
 | .bx _=>.ptr [i,sF] 0 0 0
 | .fn f caps=>.fn f (caps.map aev)
def EL (i:Nat):Nat->List AL->List (Key×Ch)
 | _,[]=>[]
 | j,a::as=>match a with
  | .own es ms rows=>([i,j],.row es ms rows)::EL i (j+1) as
  | _=>EL i (j+1) as
def Yw (i:Nat):Arg->List (Key×Ch)
 | .one a=>EL i 0 [a]
 | .agg as=>EL i 0 as
 | .bx as=>([i,sF],.box (xu i 0 as))::EL i 0 as
 | _=>[]
def Mh:Nat->List Arg->List (Nat×eG)
 | _,[]=>[]
 | i,a::as=>(i,aa6 i a)::Mh (i+1) as
def xw:Nat->List Arg->List (Key×Ch)
 | _,[]=>[]
 | i,a::as=>Yw i a++xw (i+1) as
def IB (args:List Arg):Pack:=⟨Mh 0 args,xw 0 args⟩
def aew:Ch->Bool | .gone=>true | _=>false
def Lf (σ:S) (np:Nat) (l:Leaf):Option RL :=
 match l.lt,l.st with
 | .sc s,.sc=>some (.sc s l.d)
 | .sl es,.nl=>some (.nl es)
 | .sl es,.sn ds=>(match ds with
  | []=>some (.fz es l.d.rows)
  | ds=>cond (aew (σ.k qV).ch&&ds.all fun d=>dG d.1 qV&&Nat.beq (σ.k qV).cv d.2) (some (.dz es l.d.rows)) none)
 | .sl es0,.al k n =>
  let ke:=σ.k k
  cond (Nat.beq ke.bK n) (match ke.ch with
   | .fz es rows=>cond (LT.dQ es0 es) (some (.fz es rows)) none
   | .row es ms rows=>cond (LT.dQ es0 es) (match k with
     | [i,j]=>cond (Nat.blt i np) (some (.par i j)) (some (.own k es ms rows))
     | _=>cond (Nat.blt (k.headD 0) np) none (some (.own k es ms rows))) none
   | _=>none) none
 | _,_=>none
def jU (σ:S) (np:Nat):List Leaf->Option (List RL)
 | []=>some []
 | l::ls=>match Lf σ np l,jU σ np ls with
  | some r,some rs=>some (r::rs)
  | _,_=>none
def Mi (σ:S) (np:Nat):eG->Option RE
 | .one l=>(Lf σ np l).map .one
 | .agg ls=>(jU σ np ls).map .agg
 | .ptr k n _ off=>cond (Nat.beq (σ.k k).bK n&&Nat.beq off 0 && !Nat.blt (k.headD 0) np) (match (σ.k k).ch with
  | .box ls=>(jU σ np ls).map (.bx k)
  | _=>none) none
 | _=>none
def Gf (σ:S) (np:Nat):List eG->Option (List RE)
 | []=>some []
 | l::ls=>match Mi σ np l,Gf σ np ls with
  | some r,some rs=>some (r::rs)
  | _,_=>none
def yG (σ:S) (i:Nat):Nat->List AL->List (Option (List LT×List M×List (List T)))
 | _,[]=>[]
 | j,a::as=>(match a with
  | .own ..=>(match (σ.k [i,j]).ch with | .row es ms rows=>some (es,ms,rows) | _=>none)
  | _=>none)::yG σ i (j+1) as
def aa7 (σ:S) (i:Nat) (a:Arg):List (Option (List LT×List M×List (List T))) :=
 match a with | .one a=>yG σ i 0 [a] | .agg as=>yG σ i 0 as | .bx as=>yG σ i 0 as | _=>[]
def tV (σ:S):Nat->List Arg->List (List (Option (List LT×List M×List (List T))))
 | _,[]=>[]
 | i,a::as=>aa7 σ i a::tV σ (i+1) as
def zB (σ:S) (np:Nat):Nat->List Arg->Option (List (Option (List RL)))
 | _,[]=>some []
 | i,.bx _::as=>(match (σ.k [i,sF]).ch with
  | .box ls=>(match jU σ np ls,zB σ np (i+1) as with
   | some r,some rs=>some (some r::rs)
   | _,_=>none)
  | _=>none)
 | i,_::as=>(zB σ np (i+1) as).map (none :: ·)
def iq (rl:RL):List Key:=match rl with | .own k _ _ _=>[k] | _=>[]
def iw (o:Option (List RL)):List Key:=match o with | some ls=>ls.flatMap iq | none=>[]
def dO:RE->List Key
 | .one (.own k _ _ _)=>[k]
 | .agg ls=>ls.filterMap fun l=>match l with | .own k _ _ _=>some k | _=>none
 | .bx k ls=>k::ls.flatMap iq
 | _=>[]
def wU:List Key->Bool
 | []=>true
 | k::ks=>!(ks.any (dG k))&&wU ks
def Xh (σ:S):List ResultVar->Option (List eG)
 | []=>some []
 | .tmp t::rs=>(Xh σ rs).map fun es=>σ.s t::es
 | .cell a t::rs=>match Γ.ty t,σ.s a with
  | some ti,.ptr k m _ off=>cond (Nat.beq (σ.k k).bK m) (match (σ.k k).ch with
    | .box ls=>cond (Nat.ble (off+ti.aO.length) ls.length) ((Xh σ rs).map fun es=>CZ (wY ti.kind) ((ls.drop off).take ti.aO.length)::es) none
    | _=>none) none
  | _,_=>none
def Cv (fn:Func) (args:List Arg) (σ:S):R3 fE :=
 let np:=args.length
 match Xh Γ σ fn.results.toList with
 | none=>.bad
 | some es =>
  match Gf σ np es with
  | some rs=>(match zB σ np 0 args with
   | some bs=>cond (wU (rs.flatMap dO++bs.flatMap iw)) (.ok ⟨rs,tV σ 0 args,bs⟩) .bad
   | none=>.bad)
  | none=>.bad
def zC:List ResultVar->Prog->Prog
 | [],p=>p
 | .tmp t::rs,p=>.AX t fun e=>(match e with | .one l=>wm l (zC rs p) | .agg ls=>Ae ls (zC rs p) | _=>zC rs p)
 | .cell a _::rs,p=>.AX a fun e=>(match e with | .ptr k _ _ _=>.eT k fun ke=>(match ke.ch with | .box ls=>Ae ls (zC rs p) | _=>zC rs p) | _=>zC rs p)
def A9 (nk:Key) (l:Leaf) (k:Leaf->Prog):Prog :=
 match l.st with
 | .al key n=>cond (dG key nk) (k l) (.eT key fun ke=>cond (Nat.beq ke.bK n) (match ke.ch with
   | .row es ms rows=>.eT nk fun kn=>.bD nk ⟨.row es ms rows,kn.bK+1,kn.cv+1⟩ (.bD key ⟨.gone,ke.bK+1,ke.cv+1⟩ (k ⟨.al nk (kn.bK+1),.sl es,.l []⟩))
   | _=>k l) (k l))
 | _=>k l
def agV:M->PM | .F=>.R | .O ms=>.O ms
def aff:M->Bool | .O [.O []]=>true | _=>false
def Lg (nk:Key) (m:M) (l:Leaf) (k:Leaf->Prog):Prog :=
 cond (aff m) (k l) <| match l.st with
 | .nl=>uJ nk (agV m) l [] fun l _=>k l
 | .al key _=>(match m with
  | .O ms=>.eT key fun ke=>(match ke.ch with
   | .row _ ms0 _=>cond (M.sH ms0 ms) (uJ nk (.O ms) l [] fun l _=>A9 nk l k) (A9 nk l k)
   | _=>A9 nk l k)
  | .F=>A9 nk l k)
 | _=>k l
def Af (base:Nat):Nat->List M->List Leaf->(List Leaf->Prog)->Prog
 | _,_,[],k=>k []
 | j,ms,l::ls,k=>Lg [6000000,base,j] (ms.headD .F) l fun l=>Af base (j+1) ms.tail ls fun ls=>k (l::ls)
def aex (ls:List Leaf):Bool:=ls.any fun l=>match l.st with | .nl=>true | .al _ _=>true | _=>false
def IC (base:Nat) (ms:List M) (key:Key) (n:Nat) (p:Prog):Prog :=
 .eT key fun ke=>cond (Nat.beq ke.bK n) (match ke.ch with
  | .box ls=>cond (aex ls) (Af base 0 ms ls fun ls'=>.eT key fun ke=>.fT (Nat.beq ke.bK n) (match ke.ch with
   | .box ls0=>.fT (Nat.beq ls'.length ls0.length) (.bD key ⟨.box ls',ke.bK,ke.cv+1⟩ p)
   | _=>.fail)) p
  | _=>p) p
def vH (f:FuncId):Nat->List ResultVar->Prog->Prog
 | _,[],p=>p
 | q,.tmp t::rs,p=>.AX t fun e=>(match e with
  | .one l=>Lg [6000000,q,0] ((Γ.can f q).headD .F) l fun l=>.kG t (.one l) (vH f (q+1) rs p)
  | .agg ls=>cond (aex ls) (Af q 0 (Γ.can f q) ls fun ls=>.kG t (.agg ls) (vH f (q+1) rs p)) (vH f (q+1) rs p)
  | .ptr k n _ _=>IC q (Γ.can f q) k n (vH f (q+1) rs p)
  | _=>vH f (q+1) rs p)
 | q,.cell a _::rs,p=>.AX a fun e=>(match e with | .ptr k n _ _=>IC q (Γ.can f q) k n (vH f (q+1) rs p) | _=>vH f (q+1) rs p)
def Gg (f:FuncId):Nat->List Arg->Prog->Prog
 | _,[],p=>p
 | i,.bx _::as,p=>IC (1000+i) (Γ.can f (1000+i)) [i,sF] 0 (Gg f (i+1) as p)
 | i,_::as,p=>Gg f (i+1) as p
def yH (f:FuncId) (fn:Func) (args:List Arg):Prog :=
 let p:=vH Γ f 0 fn.results.toList (Gg Γ f 0 args .ret)
 cond (Γ.ret f) (zC fn.results.toList p) p
def Gi (fn:Func):Nat:=fn.results.foldl (fun m r=>match r with | .tmp t=>m ||| bit t | .cell t _=>m ||| bit t) 0
def aey:AL->Bool | .own ..=>true | _=>false
def Gj (args:List Arg):Nat:=args.zipIdx.foldl (fun m (a,i)=>cond (match a with | .one l=>aey l | .agg ls=>ls.any aey | .bx _=>true | _=>false) (m ||| bit i) m) 0
def Dh (fB:FuncId->Option (List Arg->R3 fE)):Nat->FuncId->List Arg->R3 fE
 | 0,_,_=>.bad
 | n+1,f,args =>
  match fB f with
  | some g=>g args
  | none =>
   match Γ.fn f with
   | none=>.bad
   | some fn =>
    match fn.body with
    | none=>.bad
    | some c =>
     let fi:Fi:=⟨f,args.length,fn.ntmps,Gi fn ||| Gj args⟩
     cond (Nat.ble args.length 1000000&&Nat.ble args.length fn.ntmps) (lM Γ (Dh fB n) (EJ Γ (Dh fB n) fi n) fi [] fi.ret c (lJ (IB args)) fun ctl σ=>match ctl with
      | .exit _=>.bad
      | _=>(yH Γ f fn args).run (Dh fB n) σ {} fun σ _=>Cv Γ fn args σ) .bad
end ops
end Go.E

namespace Go.E
abbrev tO:List LT:=[.sc (.int .i64),.sc (.str),.sc (.str)]
abbrev tP:List LT:=[.sc (.str),.sc (.str)]
abbrev tR:List LT:=[.sc (.int .i64),.sc (.int .i64),.sl tO]
abbrev tS:List LT:=[.sc (.int .i64),.sl tR,.sc (.int .i64),.sl [.sc (.str),.sc (.str)],.sl tR]
abbrev tJ:List LT:=[.sc (.int .i64),.sl tO,.sc (.int .i64),.sl [.sc (.int .i64)]]
abbrev tW:List LT:=[.sc (.int .i64),.sc (.int .i64),.sc (.int .i64),.sl tO,.sc (.bool)]
abbrev tB:List LT:=[.sc (.int .i64),.sl tO]
abbrev tC:List LT:=[.sc (.int .i64),.sc (.bool)]
abbrev tI:List LT:=[.sc (.int .i64)]
abbrev tT:List LT:=[.sc (.str)]
abbrev tU:List LT:=[.sc (.int .u8)]
abbrev mS:List M:=[.F,.O [.F,.F,.F],.F,.O [.F,.F],.O [.F,.F,.F]]
abbrev m5:List M:=[.F,.F,.F,.F,.F]
abbrev m4:List M:=[.F,.F,.F,.F]
abbrev m3:List M:=[.F,.F,.F]
abbrev m2:List M:=[.F,.F]
abbrev tX:Option TI:=some ⟨.other,[.sc (.any)],8,false⟩
abbrev tY:Option TI:=some ⟨.other,[.sc (.any)],16,false⟩
end Go.E

namespace Go.E
open Go
abbrev au:=Nat->Nat->Prop
def au.or (A B:au):au:=fun b o=>A b o\/B b o
def au.apart (A B:au):Prop:=∀ b o,A b o->B b o->False
def cellAt (w:World) (b o:Nat):Option Value:=w.cell? ⟨b,o,none⟩
def Single (v:Value):Prop:=(∀ cs,v ≠ .agg cs)/\(∀ vs,v ≠ .tuple vs)
theorem Single.cells {v:Value} (h:Single v):v.cells = #[v]:=by
 cases v <;> first | rfl | exact absurd rfl (h.1 _)
def Jy:ST->Value->T->Prop
 | .int k,c,d=>∃ n,c = .int k n/\d = .i n/\k.min<=n/\n<=k.max
 | .bool,c,d=>∃ b,c = .bool b/\d = .b b
 | .str,c,d=>∃ s,c = .string s/\d = .s s/\s.size<9223372036854775808
 | .any,c,d=>d = .x c/\Single c
mutual
def aG (w:World) (S:au):LT->Value->T->Prop
 | .sc s,c,d=>Jy s c d
 | .sl es,c,d=>∃ a cap rows,d = .l rows/\c = .slice a rows.length cap/\rows.length<=cap/\rows.length<=bA /\
   (rows=[] \/ ∃ b o,a=some ⟨b,o,none⟩ /\ ∀ i (h:i<rows.length),dA w S S es b (o+i * es.length) rows[i])
def dA (w:World) (A S:au):List LT->Nat->Nat->List T->Prop
 | [],_,_,row=>row=[]
 | e::es,b,o,row=>∃ d rest v,row=d::rest/\A b o/\cellAt w b o=some v/\aG w S e v d/\dA w A S es b (o+1) rest
end
theorem Jy.single {s:ST} {c:Value} {d:T} (h:Jy s c d):Single c:=by
 cases s
 ·obtain ⟨n,rfl,-⟩:=h; exact ⟨fun _ h=>(nomatch h),fun _ h=>(nomatch h)⟩
 ·obtain ⟨n,rfl,-⟩:=h; exact ⟨fun _ h=>(nomatch h),fun _ h=>(nomatch h)⟩
 ·obtain ⟨n,rfl,-⟩:=h; exact ⟨fun _ h=>(nomatch h),fun _ h=>(nomatch h)⟩
 ·exact h.2
theorem aG.single {w:World} {S:au} {lt:LT} {c:Value} {d:T} (h:aG w S lt c d):Single c:=by
 cases lt with
 | sc s=>unfold aG at h; exact h.single
 | sl es=>unfold aG at h; obtain ⟨a,cap,rows,-,rfl,-⟩:=h; exact ⟨fun _ h=>(nomatch h),fun _ h=>(nomatch h)⟩
mutual
theorem aG.mono {w w':World} {S S':au} (hs : ∀ b o,S b o->S' b o) (hw : ∀ b o,S b o->cellAt w' b o=cellAt w b o) :
  ∀ (lt:LT) {c:Value} {d:T},aG w S lt c d->aG w' S' lt c d
 | .sc s,c,d,h=>by unfold aG at *; exact h
 | .sl es,c,d,h=>by
  unfold aG at h ⊢
  obtain ⟨a,cap,rows,h1,h2,h3,h4,h6⟩:=h
  refine ⟨a,cap,rows,h1,h2,h3,h4,?_⟩
  rcases h6 with h6 | ⟨b,o,ha,h6⟩
  ·exact .inl h6
  ·exact .inr ⟨b,o,ha,fun i hi=>dA.mono hs hw hs hw es (h6 i hi)⟩
theorem dA.mono {w w':World} {A A' S S':au} (ha : ∀ b o,A b o->A' b o) (hwa : ∀ b o,A b o->cellAt w' b o=cellAt w b o)
  (hs : ∀ b o,S b o->S' b o) (hw : ∀ b o,S b o->cellAt w' b o=cellAt w b o) :
  ∀ (es:List LT) {b o:Nat} {row:List T},dA w A S es b o row->dA w' A' S' es b o row
 | [],b,o,row,h=>by unfold dA at *; exact h
 | e::es,b,o,row,h=>by
  unfold dA at h ⊢
  obtain ⟨d,rest,v,h1,h2,h3,h4,h5⟩:=h
  exact ⟨d,rest,v,h1,ha _ _ h2,(hwa _ _ h2).trans h3,aG.mono hs hw e h4,dA.mono ha hwa hs hw es h5⟩
end
theorem dV : ∀ (a b:Key),dG a b=true ↔ a=b
 | [],[]=>by simp [dG]
 | [],_::_=>by simp [dG]
 | _::_,[]=>by simp [dG]
 | a::as,b::bs=>by simp [dG,dV as bs]
theorem eZ (a:Key):dG a a=true:=(dV a a).2 rfl
def ZA (ms:List M):Prop:=∀ m∈ms,∀ x,m ≠ .O x
def Block (w:World) (b:Nat) (c:Array Value) (el:TypeId) (fz:Nat×Nat):Prop:=w.heap[b]? = some (.cells c el fz)
def aK (p:List Value->List T->List Nat->Prop) (sz:Nat):List (List T)->List Value->List Nat->Prop
 | [],_,bs=>bs=[]
 | r::rs,cs,bs=>∃ b1 b2,bs=b1++b2/\p (cs.take sz) r b1/\aK p sz rs (cs.drop sz) b2
mutual
def bO (w:World) (I:au):LT->M->Value->T->List Nat->Prop
 | .sc s,_,v,d,bs=>Jy s v d/\bs=[]
 | .sl es,.F,v,d,bs=>aG w I (.sl es) v d/\bs=[]
 | .sl es,.O ms,v,d,bs=>∃ rows,d = .l rows/\es≠[]/\rows.length<=bA/\(((∃ a,v = .slice a 0 0)/\rows=[]/\bs=[]) \/
   ∃ b cap c el fz bs',bs=b::bs'/\v = .slice (some ⟨b,0,none⟩) rows.length cap/\rows.length<=cap/\Block w b c el fz/\c.size=cap * es.length/\(∀ o,o<=c.size->¬ (fz.1<=o/\o<fz.2)) /\
    aK (fun vs ds bs=>ak w I es ms vs ds bs) es.length rows c.toList bs')
def ak (w:World) (I:au):List LT->List M->List Value->List T->List Nat->Prop
 | [],_,vs,ds,bs=>vs=[]/\ds=[]/\bs=[]
 | e::es,ms,vs,ds,bs=>∃ v vs' d ds' b1 b2,vs=v::vs'/\ds=d::ds'/\bs=b1++b2/\bO w I e (ms.headD .F) v d b1/\ak w I es ms.tail vs' ds' b2
end
def pJ (w:World) (b:Nat):Nat:=match w.heap[b]? with | some (.cells c _ _)=>c.size | _=>0
def eO (w:World):List Nat->Prop
 | []=>True
 | b::bs=>(b∈bs->pJ w b=0)/\eO w bs
def FB (w:World) (bs:List Nat):au:=fun b o=>b∈bs/\o<pJ w b
def aS (w:World) (I:au) (es:List LT) (ms:List M) (rows:List (List T)) (h:Value) (F:au):Prop :=
 ∃ bs,eO w bs/\bO w I (.sl es) (.O ms) h (.l rows) bs /\ ∀ b o,F b o ↔ FB w bs b o
structure Gh where
 h:Key->Value
 F:Key->au
 D:au
def Live:Ch->Prop
 | .box _=>True
 | .row _ _ _=>True
 | .Iq _ _ _=>True
 | .hol _ _ _ _ _=>True
 | _=>False
def cu (κ:Key->KE) (g:Gh) (I:au) (ds:List AV):au:=fun b o=>I b o \/ ∃ d∈ds,(d.1=qV/\g.D b o)\/(Live (κ d.1).ch/\g.F d.1 b o)
def Cur (κ:Key->KE) (ds:List AV):Prop:=∀ d∈ds,(κ d.1).cv=d.2
def Old (κ:Key->KE) (ds:List AV):Prop:=∀ d∈ds,d.2<=(κ d.1).cv
def ady:LT->Prop | .sl _=>True | _=>False
def addrIn (esz:Nat) (h:Value) (i off:Nat):Option (Nat×Nat) :=
 match h with
 | .pointer (some ⟨b,o,none⟩)=>some (b,o+off)
 | .slice (some ⟨b,o,none⟩) _ _=>some (b,o+i * esz+off)
 | _=>none
def kR:Ch->Nat
 | .row es _ _=>es.length
 | .fz es _=>es.length
 | .hol es _ _ _ _=>es.length
 | _=>0
def CP (κ:Key->KE) (g:Gh) (w:World) (I:au) (l:Leaf) (v:Value):Prop :=
 Single v/\match l.st with
 | .sc=>∃ s,l.lt = .sc s/\Jy s v l.d
 | .nl=>ady l.lt/\v = .slice none 0 0/\l.d = .l []
 | .sn ds=>ady l.lt/\Old κ ds/\(Cur κ ds->aG w (cu κ g I ds) l.lt v l.d)
 | .sb k n cv r off=>ady l.lt/\n<=(κ k).bK/\Old κ [(k,cv)]/\(Cur κ [(k,cv)]->aG w (cu κ g I [(k,cv)]) l.lt v l.d /\
   ((κ k).bK=n->∃ b o,addrIn (kR (κ k).ch) (g.h k) r off=some (b,o)/\cellAt w b o=some v/\cu κ g I [(k,cv)] b o))
 | .al k n=>ady l.lt/\n<=(κ k).bK/\((κ k).bK=n->v=g.h k)
 | .dead=>True
def bW (κ:Key->KE) (g:Gh) (w:World) (I:au):List Leaf->List Value->Prop
 | [],[]=>True
 | l::ls,v::vs=>CP κ g w I l v/\bW κ g w I ls vs
 | _,_=>False
def pK (κ:Key->KE) (g:Gh) (w:World) (I:au):eG->Value->Prop
 | .one l,v=>CP κ g w I l v
 | .agg ls,v=>∃ cs,v = .agg cs/\bW κ g w I ls cs.toList
 | .ptr k n i off,v=>Single v/\n<=(κ k).bK/\((κ k).bK=n->∃ b o,v = .pointer (some ⟨b,o,none⟩)/\addrIn (kR (κ k).ch) (g.h k) i off=some (b,o))
 | .rp ds aO row,v=>Single v/\Old κ ds/\(Cur κ ds->∃ b o,v = .pointer (some ⟨b,o,none⟩)/\dA w (cu κ g I ds) (cu κ g I ds) aO b o row)
 | .und,v=>v=undef
 | .junk,_=>True
 | _,_=>False
def nQ (κ:Key->KE) (g:Gh) (w:World) (I:au):List eG->List Value->Prop
 | [],[]=>True
 | l::ls,v::vs=>pK κ g w I l v/\nQ κ g w I ls vs
 | _,_=>False
def iY (κ:Key->KE) (g:Gh) (w:World) (I:au):eG->Value->Prop
 | .LQ es,v=>∃ vs,v = .tuple vs/\nQ κ g w I es vs.toList
 | .fn f caps,v=>∃ vs,v = .func (.func f) #[] vs/\nQ κ g w I caps vs.toList
 | e,v=>pK κ g w I e v
def kT (κ:Key->KE) (g:Gh) (w:World) (I:au) (ls:List Leaf) (h:Value) (F:au):Prop :=
 ∃ b o c el fz,h = .pointer (some ⟨b,o,none⟩)/\Block w b c el fz/\o+ls.length<=c.size /\
  (∀ j,j<ls.length->¬ (fz.1<=o+j/\o+j<fz.2))/\(∀ b' o',F b' o' ↔ b'=b/\o<=o'/\o'<o+ls.length) /\
  bW κ g w I ls ((c.toList.drop o).take ls.length)
def Mj (κ:Key->KE) (g:Gh) (w:World) (I:au) (k:Key) (m j:Nat) (ls:List Leaf) (h:Value) (F:au):Prop :=
 (∃ b o c el fz,h = .pointer (some ⟨b,o,none⟩)/\Block w b c el fz/\o+m+ls.length<=c.size /\
  (∀ j,j<m+ls.length->¬ (fz.1<=o+j/\o+j<fz.2))/\(∀ b' o',F b' o' ↔ b'=b/\o+m<=o'/\o'<o+m+ls.length) /\
  bW κ g w I ls ((c.toList.drop (o+m)).take ls.length)) /\
 j<=(κ (lY k)).bK/\((κ (lY k)).bK=j->g.h (lY k)=h)
def Mk (κ:Key->KE) (g:Gh) (w:World) (I:au) (k:Key) (es:List LT) (ms:List M) (rows:List (List T)) (r j:Nat) (h:Value) (F:au):Prop :=
 es≠[]/\rows.length<=bA/\r<rows.length /\
 (∃ b cap c el fz B1 B2,h = .slice (some ⟨b,0,none⟩) rows.length cap/\rows.length<=cap/\Block w b c el fz/\c.size=cap * es.length/\(∀ o,o<=c.size->¬ (fz.1<=o/\o<fz.2)) /\
  aK (fun vs ds bs=>ak w I es ms vs ds bs) es.length (rows.take r) c.toList B1 /\
  aK (fun vs ds bs=>ak w I es ms vs ds bs) es.length (rows.drop (r+1)) (c.toList.drop ((r+1) * es.length)) B2 /\
  eO w (b::(B1++B2))/\(∀ b' o',F b' o' ↔ (b'=b/\o'<c.size /\ ¬ (r * es.length<=o'/\o'<(r+1) * es.length))\/FB w (B1++B2) b' o') /\
  j<=(κ (gZ k)).bK/\((κ (gZ k)).bK=j->g.h (gZ k) = .pointer (some ⟨b,r * es.length,none⟩)))
def EM (κ:Key->KE) (g:Gh) (w:World) (I:au) (k:Key):Ch->Prop
 | .box ls=>kT κ g w I ls (g.h k) (g.F k)
 | .Iq m j ls=>Mj κ g w I k m j ls (g.h k) (g.F k)
 | .row es ms rows=>aS w I es ms rows (g.h k) (g.F k)
 | .hol es ms rows r j=>Mk κ g w I k es ms rows r j (g.h k) (g.F k)
 | .fz es rows=>aG w I (.sl es) (g.h k) (.l rows)
 | .gone=>True
def fI (np:Nat):Key->Prop
 | i::_=>i<np
 | []=>False
structure Fr where
 nt:Nat
 np:Nat
 big:np<=1000000
 H:Key->Value
 D:au
 A:au
 B:au
def Im (n:Fr) (I:au):au:=fun b o=>I b o\/n.A b o
structure RX (n:Fr) (κ:Key->KE) (g:Gh) (I:au) (w:World):Prop where
 par : ∀ k,fI n.np k->Live (κ k).ch->g.h k=n.H k
 dq:g.D=n.D
 da : ∀ b o,g.D b o->n.A b o
 uN : ∀ k,Live (κ k).ch->au.apart (g.F k) n.A
 WZ : ∀ b o,n.A b o->∃ v,cellAt w b o=some v
 ia : ∀ b o,I b o->n.A b o->n.B b o
structure R (n:Fr) (σ:S) (g:Gh) (I:au) (a:Act) (w:World):Prop where
 size:a.tmps.size=n.nt
 nd:a.defers=[]
 slots : ∀ t,iY σ.k g w I (σ.s t) (a.tmps.getD t undef)
 sj : ∀ k,EM σ.k g w I k (σ.k k).ch
 sep : ∀ k k',Live (σ.k k).ch->Live (σ.k k').ch->k≠k'->au.apart (g.F k) (g.F k')
 iU : ∀ k,Live (σ.k k).ch->au.apart (g.F k) I
 xA : ∀ b o,I b o->∃ v,cellAt w b o=some v
 x:RX n σ.k g I w
def nU (I:au) (b:Nat) (x y:Obj):Prop :=
 match x with
 | .cells c el fz=>∃ c',y = .cells c' el fz/\c'.size=c.size /\ ∀ o,I b o->c'[o]? = c[o]?
 | _=>y=x
structure Keeps (I:au) (w w':World):Prop where
 size:w.heap.size<=w'.heap.size
 obj : ∀ b x,w.heap[b]? = some x->∃ y,w'.heap[b]? = some y/\nU I b x y
 os:w'.os=w.os
 output:w'.output=w.output
 tape:w'.tape=w.tape
theorem nU.refl (I:au) (b:Nat) (x:Obj):nU I b x x:=by
 cases x <;> first | exact ⟨_,rfl,rfl,fun _ _=>rfl⟩ | rfl
theorem Keeps.refl (I:au) (w:World):Keeps I w w:=⟨Nat.le_refl _,fun _ _ h=>⟨_,h,.refl _ _ _⟩,rfl,rfl,rfl⟩
theorem nU.trans {I J:au} {b:Nat} {x y z:Obj} (hij : ∀ o,I b o->J b o) (h:nU I b x y) (h':nU J b y z):nU I b x z:=by
 cases x <;> simp only [nU] at h ⊢ <;> try (subst h; simpa [nU] using h')
 obtain ⟨c',rfl,h1,h2⟩:=h
 simp only [nU] at h'
 obtain ⟨c'',rfl,h3,h4⟩:=h'
 exact ⟨c'',rfl,h3.trans h1,fun o ho=>(h4 o (hij o ho)).trans (h2 o ho)⟩
theorem Keeps.trans {I J:au} {w w' w'':World} (hij : ∀ b o,I b o->J b o) (h:Keeps I w w') (h':Keeps J w' w''):Keeps I w w'' :=
 ⟨Nat.le_trans h.size h'.size,fun b x hx=>by
  obtain ⟨y,hy,h1⟩:=h.obj b x hx
  obtain ⟨z,hz,h2⟩:=h'.obj b y hy
  exact ⟨z,hz,h1.trans (hij b) h2⟩,h'.os.trans h.os,h'.output.trans h.output,h'.tape.trans h.tape⟩
theorem Keeps.cell {I:au} {w w':World} (h:Keeps I w w') {b o:Nat} (hi:I b o) (hv : ∃ v,cellAt w b o=some v):cellAt w' b o=cellAt w b o:=by
 obtain ⟨v,hv⟩:=hv
 unfold cellAt World.cell? at hv ⊢
 simp only at hv ⊢
 cases hx:w.heap[b]? with
 | none=>simp [hx] at hv
 | some x =>
  obtain ⟨y,hy,hk⟩:=h.obj b x hx
  cases x with
  | cells c el fz =>
   obtain ⟨c',rfl,-,h2⟩:=hk
   simp [hy,h2 o hi]
  | _=>simp [hx] at hv
theorem RX.step {n:Fr} {κ κ':Key->KE} {g g':Gh} {I I':au} {w w':World} (h:RX n κ g I w) (hk:Keeps n.A w w') (hd:g'.D=g.D)
  (hl : ∀ k,Live (κ' k).ch->(fI n.np k->Live (κ k).ch/\g'.h k=g.h k\/g'.h k=n.H k)/\au.apart (g'.F k) n.A) (hi : ∀ b o,I' b o->I b o \/ ¬ n.A b o):RX n κ' g' I' w' where
 par k hp hv:=by
  rcases (hl k hv).1 hp with ⟨h1,h2⟩ | h1
  ·rw [h2]; exact h.par k hp h1
  ·exact h1
 dq:=hd.trans h.dq
 da b o hb:=h.da b o (hd ▸ hb)
 uN k hv:=(hl k hv).2
 WZ b o ha:=by
  obtain ⟨v,hv⟩:=h.WZ b o ha
  exact ⟨v,(hk.cell ha ⟨v,hv⟩).trans hv⟩
 ia b o h1 h2:=(hi b o h1).elim (fun h3=>h.ia b o h3 h2) fun h3=>absurd h2 h3
structure fG (κ:Key->KE) (g:Gh) (w:World) (I:au) (κ':Key->KE) (g':Gh) (w':World) (I':au):Prop where
 cv : ∀ k,(κ k).cv<=(κ' k).cv
 bK : ∀ k,(κ k).bK<=(κ' k).bK
 foot : ∀ k,(κ' k).cv=(κ k).cv->Live (κ k).ch->∀ b o,g.F k b o->((Live (κ' k).ch/\g'.F k b o)\/I' b o)/\cellAt w' b o=cellAt w b o
 head : ∀ k,(κ' k).bK=(κ k).bK->g'.h k=g.h k/\kR (κ' k).ch=kR (κ k).ch
 iU : ∀ b o,I b o->I' b o/\cellAt w' b o=cellAt w b o
 dd : ∀ b o,g.D b o->g'.D b o/\cellAt w' b o=cellAt w b o
section evo
variable {κ κ':Key->KE} {g g':Gh} {w w':World} {I I':au}
theorem fG.cur (e:fG κ g w I κ' g' w' I') {ds:List AV} (ho:Old κ ds) (hc:Cur κ' ds):Cur κ ds:=fun d hd=>by
 have h1:=e.cv d.1; have h2:=ho d hd; have h3:=hc d hd; omega
theorem fG.old (e:fG κ g w I κ' g' w' I') {ds:List AV} (ho:Old κ ds):Old κ' ds:=fun d hd=>Nat.le_trans (ho d hd) (e.cv d.1)
theorem fG.dep (e:fG κ g w I κ' g' w' I') {ds:List AV} (ho:Old κ ds) (hc:Cur κ' ds) :
  ∀ b o,cu κ g I ds b o->cu κ' g' I' ds b o/\cellAt w' b o=cellAt w b o:=by
 intro b o h
 rcases h with h | ⟨d,hd,⟨hk,hf⟩ | ⟨hl,hf⟩⟩
 ·exact ⟨.inl (e.iU b o h).1,(e.iU b o h).2⟩
 ·exact ⟨.inr ⟨d,hd,.inl ⟨hk,(e.dd b o hf).1⟩⟩,(e.dd b o hf).2⟩
 ·have h1:=e.cur ho hc d hd
  obtain ⟨h2,h3⟩:=e.foot d.1 ((hc d hd).trans h1.symm) hl b o hf
  exact ⟨h2.elim (fun h=>.inr ⟨d,hd,.inr h⟩) .inl,h3⟩
theorem fG.leaf (e:fG κ g w I κ' g' w' I') {lt:LT} {v:Value} {d:T} (h:aG w I lt v d):aG w' I' lt v d :=
 aG.mono (fun b o h=>(e.iU b o h).1) (fun b o h=>(e.iU b o h).2) lt h
theorem fG.lf (e:fG κ g w I κ' g' w' I') {l:Leaf} {v:Value} (h:CP κ g w I l v):CP κ' g' w' I' l v:=by
 obtain ⟨hs,h⟩:=h
 refine ⟨hs,?_⟩
 cases hst:l.st with
 | sc=>simpa [hst] using h
 | nl=>simpa [hst] using h
 | sn ds =>
  simp only [hst] at h ⊢
  obtain ⟨h1,h2,h3⟩:=h
  exact ⟨h1,e.old h2,fun hc=>aG.mono (fun b o hb=>(e.dep h2 hc b o hb).1) (fun b o hb=>(e.dep h2 hc b o hb).2) _ (h3 (e.cur h2 hc))⟩
 | al k n =>
  simp only [hst] at h ⊢
  obtain ⟨h1,h2,h3⟩:=h
  have:=e.bK k
  refine ⟨h1,Nat.le_trans h2 this,fun hc=>?_⟩
  have h4:(κ k).bK=n:=by omega
  rw [(e.head k (hc.trans h4.symm)).1]; exact h3 h4
 | sb k n cv r off =>
  simp only [hst] at h ⊢
  obtain ⟨h1,h2,h3,h4⟩:=h
  refine ⟨h1,Nat.le_trans h2 (e.bK k),e.old h3,fun hc=>?_⟩
  obtain ⟨h5,h6⟩:=h4 (e.cur h3 hc)
  refine ⟨aG.mono (fun b o hb=>(e.dep h3 hc b o hb).1) (fun b o hb=>(e.dep h3 hc b o hb).2) _ h5,fun hi=>?_⟩
  have h7:(κ k).bK=n:=by have:=e.bK k; omega
  obtain ⟨b,o,h8,h9,h10⟩:=h6 h7
  obtain ⟨h11,h12⟩:=e.head k (hi.trans h7.symm)
  exact ⟨b,o,by rw [h11,h12]; exact h8,(e.dep h3 hc b o h10).2.trans h9,(e.dep h3 hc b o h10).1⟩
 | dead=>trivial
theorem fG.Ue (e:fG κ g w I κ' g' w' I') : ∀ {ls:List Leaf} {vs:List Value},bW κ g w I ls vs->bW κ' g' w' I' ls vs
 | [],[],_=>trivial
 | _::_,_::_,h=>⟨e.lf h.1,e.Ue h.2⟩
 | [],_::_,h=>h.elim
 | _::_,[],h=>h.elim
theorem fG.O9 (e:fG κ g w I κ' g' w' I') {x:eG} {v:Value} (h:pK κ g w I x v):pK κ' g' w' I' x v:=by
 cases x with
 | one l=>exact e.lf h
 | agg ls=>obtain ⟨cs,h1,h2⟩:=h; exact ⟨cs,h1,e.Ue h2⟩
 | ptr k n i off =>
  obtain ⟨h0,h1,h2⟩:=h
  have:=e.bK k
  refine ⟨h0,Nat.le_trans h1 this,fun hc=>?_⟩
  have h4:(κ k).bK=n:=by omega
  obtain ⟨h5,h6⟩:=e.head k (hc.trans h4.symm)
  rw [h5,h6]; exact h2 h4
 | rp ds aO row =>
  obtain ⟨h0,h1,h2⟩:=h
  refine ⟨h0,e.old h1,fun hc=>?_⟩
  obtain ⟨b,o,h3,h4⟩:=h2 (e.cur h1 hc)
  exact ⟨b,o,h3,dA.mono (fun b o hb=>(e.dep h1 hc b o hb).1) (fun b o hb=>(e.dep h1 hc b o hb).2) (fun b o hb=>(e.dep h1 hc b o hb).1) (fun b o hb=>(e.dep h1 hc b o hb).2) _ h4⟩
 | und=>exact h
 | junk=>trivial
 | LQ _=>exact h.elim
 | fn _ _=>exact h.elim
theorem fG.Qb (e:fG κ g w I κ' g' w' I') : ∀ {ls:List eG} {vs:List Value},nQ κ g w I ls vs->nQ κ' g' w' I' ls vs
 | [],[],_=>trivial
 | _::_,_::_,h=>⟨e.O9 h.1,e.Qb h.2⟩
 | [],_::_,h=>h.elim
 | _::_,[],h=>h.elim
theorem fG.ent (e:fG κ g w I κ' g' w' I') {x:eG} {v:Value} (h:iY κ g w I x v):iY κ' g' w' I' x v:=by
 cases x with
 | LQ es=>obtain ⟨vs,h1,h2⟩:=h; exact ⟨vs,h1,e.Qb h2⟩
 | fn f es=>obtain ⟨vs,h1,h2⟩:=h; exact ⟨vs,h1,e.Qb h2⟩
 | one l=>exact e.O9 (x:=.one l) h
 | agg l=>exact e.O9 (x:=.agg l) h
 | ptr k n i off=>exact e.O9 (x:=.ptr k n i off) h
 | rp ds aO row=>exact e.O9 (x:=.rp ds aO row) h
 | und=>exact h
 | junk=>trivial
theorem fG.refl:fG κ g w I κ g w I :=
 ⟨fun _=>Nat.le_refl _,fun _=>Nat.le_refl _,fun _ _ hl _ _ hf=>⟨.inl ⟨hl,hf⟩,rfl⟩,fun _ _=>⟨rfl,rfl⟩,fun _ _ h=>⟨h,rfl⟩,fun _ _ h=>⟨h,rfl⟩⟩
theorem fG.trans {agW:Key->KE} {g'':Gh} {w'':World} {I'':au} (e:fG κ g w I κ' g' w' I') (e':fG κ' g' w' I' agW g'' w'' I'') :
  fG κ g w I agW g'' w'' I'' where
 cv k:=Nat.le_trans (e.cv k) (e'.cv k)
 bK k:=Nat.le_trans (e.bK k) (e'.bK k)
 foot k hc hl b o hf:=by
  have h1:=e.cv k; have h2:=e'.cv k
  obtain ⟨h3,h4⟩:=e.foot k (by omega) hl b o hf
  rcases h3 with ⟨h5,h6⟩ | h5
  ·obtain ⟨h7,h8⟩:=e'.foot k (by omega) h5 b o h6
   exact ⟨h7,h8.trans h4⟩
  ·exact ⟨.inr (e'.iU b o h5).1,(e'.iU b o h5).2.trans h4⟩
 head k hc:=by
  have h1:=e.bK k; have h2:=e'.bK k
  obtain ⟨h3,h4⟩:=e.head k (by omega)
  obtain ⟨h5,h6⟩:=e'.head k (by omega)
  exact ⟨h5.trans h3,h6.trans h4⟩
 iU b o h:=⟨(e'.iU b o (e.iU b o h).1).1,(e'.iU b o (e.iU b o h).1).2.trans (e.iU b o h).2⟩
 dd b o h:=⟨(e'.dd b o (e.dd b o h).1).1,(e'.dd b o (e.dd b o h).1).2.trans (e.dd b o h).2⟩
end evo
end Go.E

namespace Go.E
open Go
def Prog.wp (cf:FuncId->List Arg->R3 fE):Prog->S->Tr->(S->Tr->Prop)->Prop
 | .ret,σ,tr,Q=>Q σ tr
 | .fail,_,_,_=>False
 | .out,_,_,_=>True
 | .fT c p,σ,tr,Q=>c=true/\p.wp cf σ tr Q
 | .lim c p,σ,tr,Q=>c=true->p.wp cf σ tr Q
 | .br c p q,σ,tr,Q=>if c then p.wp cf σ tr Q else q.wp cf σ tr Q
 | .AX t k,σ,tr,Q=>(k (σ.s t)).wp cf σ { tr with rs:=t::tr.rs } Q
 | .kG t e p,σ,tr,Q=>p.wp cf (σ.kG t e) { tr with ws:=t::tr.ws } Q
 | .eT k c,σ,tr,Q=>(c (σ.k k)).wp cf σ { tr with rk:=k::tr.rk } Q
 | .bD k e p,σ,tr,Q=>p.wp cf (σ.bD k e) { tr with wk:=k::tr.wk } Q
 | .call f args k,σ,tr,Q=>match cf f args with
  | .ok r=>(k r).wp cf σ tr Q
  | .out=>True
  | .bad=>False
def zeroV:LT->Value->Prop
 | .sc (.int k),v=>v = .int k 0
 | .sc .bool,v=>v = .bool false
 | .sc .str,v=>v = .string .empty
 | .sc .any,v=>Single v
 | .sl _,v=>v = .slice none 0 0
def Di:List LT->List Value->Prop
 | [],[]=>True
 | l::ls,v::vs=>zeroV l v/\Di ls vs
 | _,_=>False
def aa9 (Γ:Ctx) (P:Program) (ti:TI):TK->TypeDesc->Prop
 | .sc (.int k),d=>d = .int k/\ti.aO=[.sc (.int k)]
 | .sc .bool,d=>d = .bool/\ti.aO=[.sc .bool]
 | .sc .str,d=>d = .string/\ti.aO=[.sc .str]
 | .sc .any,_=>False
 | .slice e,d=>d = .slice e /\ ∃ te,Γ.ty e=some te/\ti.aO=[.sl te.aO]/\te.aO≠[]
 | .struct fs,d=>∃ fields,d = .struct fields/\fs=fields.toList.map (fun f=>(f.offset,f.type)) /\
   ∀ f∈fields.toList,∃ i,P.info? f.type=some i/\i.size≠0
 | .array n e,d=>d = .array n e
 | .ptr e,d=>d = .pointer e/\ti.aO=[.sc .any]
 | .other,d=>(∀ fs,d ≠ .struct fs)/\(∀ n e,d ≠ .array n e)/\ti.aO=[.sc .any]
def RY (P:Program):Nat->List Field->List LT->Prop
 | _,[],[]=>True
 | j,f::fs,lt::aO=>f.name ≠ "_" /\ f.offset=j/\(match lt with
   | .sc (.int k)=>P.underlying f.type=some (.int k)
   | .sc .bool=>P.underlying f.type=some .bool
   | .sc .str=>P.underlying f.type=some .string
   | _=>False)/\RY P (j+1) fs aO
 | _,_,_=>False
def Xi (P:Program) (t:TypeId) (aO:List LT):Prop :=
 ∃ fields,P.underlying t=some (.struct fields)/\P.stoodInHeld t=false/\P.eqGuardType P.depth t=false/\RY P 0 fields.toList aO
structure sK (Γ:Ctx) (P:Program) (t:TypeId) (ti:TI):Prop where
 und : ∃ d,P.underlying t=some d/\aa9 Γ P ti ti.kind d
 flat:ti.flat=true->Xi P t ti.aO
 info : ∃ i,P.info? t=some i/\i.size=ti.aO.length/\ti.bytes=i.bytes/\ti.aO.length<=i.bytes/\i.bytes<=24 * ti.aO.length /\ ∃ z,i.zero=some z/\Di ti.aO z.cells.toList
structure d9 (Γ:Ctx) (P:Program):Prop where
 ty : ∀ t ti,Γ.ty t=some ti->sK Γ P t ti
 fn : ∀ f fn,Γ.fn f=some fn->P.funcs[f]? = some fn
 enter : ∀ f fn,Γ.fn f=some fn->fn.body.isNone=false/\(fn.name == "runtime.NumGoroutine")=false
 mixed:P.follows .mixedOrders=true
theorem Dj {np nt:Nat} {o:Oper} {d:Nat} (hd:dB np nt o=true) (h:o.dst=some d):d<nt/\(np<=1000000->∀ r,¬ fI np ((d+2000000)::r)):=by
 unfold dB at hd
 rw [h] at hd
 have h2:d<nt:=by simpa [Nat.blt_eq] using hd
 exact ⟨h2,fun hb r hr=>by simp only [fI] at hr; omega⟩
def Goal (P:Program) (o:Oper) (a:Act) (w:World) (K:Act->World->Prop) (Q:Exit->Act->World->Prop):Prop :=
 o.wp P a w K Q\/(o.asks P a w/\LetsOut Q)
theorem xB {P:Program} {o:Oper} {a:Act} {w w':World} {K:Act->World->Prop} {Q:Exit->Act->World->Prop} {v:Value}
  (h:(execOp a.eval o).run P w = .ok (.value v) w') (hk:K (a.put o.dst v) w'):Goal P o a w K Q:=by
 refine .inl ?_
 unfold Oper.wp
 rw [h]
 exact hk
theorem ZB {P:Program} {o:Oper} {a:Act} {w w':World} {K:Act->World->Prop} {Q:Exit->Act->World->Prop}
  (h:(execOp a.eval o).run P w = .ok .skip w') (hk:K (a.put o.dst undef) w'):Goal P o a w K Q:=by
 refine .inl ?_
 unfold Oper.wp
 rw [h]
 exact hk
section run
variable {Γ:Ctx} {P:Program} {w:World} {t:TypeId} {ti:TI}
theorem run_underlying {d:TypeDesc} (h:P.underlying t=some d):(underlying t).run P w = .ok d w:=by
 simp [underlying,h,go_sem]
end run
section slots
variable {n:Fr} {σ:S} {g:Gh} {I:au} {a:Act} {w:World}
theorem abb (xs:Array Value) (i j:Nat) (v u:Value) (hi:i<xs.size):(xs.setIfInBounds i v).getD j u=if j=i then v else xs.getD j u:=by
 by_cases h:j=i
 ·subst h; simp [hi]
 ·simp [h,Array.getElem?_setIfInBounds_ne (Ne.symm h)]
theorem R.put (hR:R n σ g I a w) {d:Nat} (hd:d<n.nt) {e:eG} {v:Value} (he:iY σ.k g w I e v) :
  R n (σ.kG d e) g I (a.put (some d) v) w where
 size:=by simp [Act.put,hR.size]
 nd:=hR.nd
 slots t:=by
  have h1:(a.put (some d) v).tmps.getD t undef=if t=d then v else a.tmps.getD t undef:=abb _ _ _ _ _ (by rw [hR.size]; exact hd)
  rw [h1]
  by_cases h:t=d
  ·subst h
   simp only [S.kG,Nat.beq_refl,cond_true,if_true]
   exact he
  ·have h2:Nat.beq t d=false:=by cases hb:Nat.beq t d; rfl; exact absurd (Nat.eq_of_beq_eq_true hb) h
   simp only [S.kG,h2,cond_false,if_neg h]
   exact hR.slots t
 sj:=hR.sj
 sep:=hR.sep
 iU:=hR.iU
 xA:=hR.xA
 x:=hR.x
end slots
end Go.E

namespace Go.E
open Go
section
variable {Γ:Ctx} {P:Program} {cf:FuncId->List Arg->R3 fE}
variable {n:Fr} {σ:S} {g:Gh} {I:au} {a:Act} {w:World}
def Post (P:Program) (n:Fr) (I:au) (w:World) (Q:S->Tr->Prop) (K:Act->World->Prop):Prop :=
 ∀ σ' dn g' I' a' w',Q σ' dn->R n σ' g' I' a' w'->(∀ b o,I b o->I' b o)->Keeps (Im n I) w w'->K a' w'
theorem Ml {v:Value} {l:Leaf} (κ:Key->KE) (h:AY v=some l):CP κ g w I l v:=by
 unfold AY at h
 split at h
 ·cases h; exact ⟨⟨fun _ h=>(nomatch h),fun _ h=>(nomatch h)⟩,.bool,rfl,_,rfl,rfl⟩
 ·split at h
  ·rename_i hh; cases h; exact ⟨⟨fun _ h=>(nomatch h),fun _ h=>(nomatch h)⟩,.int _,rfl,_,rfl,rfl,hh⟩
  ·cases h
 ·split at h
  ·rename_i hh; cases h; exact ⟨⟨fun _ h=>(nomatch h),fun _ h=>(nomatch h)⟩,.str,rfl,_,rfl,rfl,hh⟩
  ·cases h
 ·cases h; exact ⟨⟨fun _ h=>(nomatch h),fun _ h=>(nomatch h)⟩,trivial,rfl,rfl⟩
 ·cases h
theorem Gl (κ:Key->KE) : ∀ {vs:List Value} {ls:List Leaf},vs.mapM AY=some ls->bW κ g w I ls vs
 | [],ls,h=>by simp at h; subst h; trivial
 | v::vs,ls,h=>by
  simp only [List.mapM_cons,Option.bind_eq_bind,Option.bind_eq_some_iff,Option.pure_def,Option.some.injEq] at h
  obtain ⟨l,h1,ls',h2,rfl⟩:=h
  exact ⟨Ml κ h1,Gl κ h2⟩
theorem iV {x:Operand} {k:eG->Prog} {tr:Tr} {Q:S->Tr->Prop} (hR:R n σ g I a w) (h:(rd x k).wp cf σ tr Q) :
  ∃ e dn,iY σ.k g w I e (a.eval x)/\(k e).wp cf σ dn Q:=by
 unfold rd at h
 split at h
 ·exact ⟨_,_,hR.slots _,h⟩
 ·exact ⟨.junk,tr,trivial,h⟩
 ·unfold nG at h
  split at h
  ·rename_i ls hl; exact ⟨.agg ls,tr,⟨_,rfl,Gl _ hl⟩,h⟩
  ·exact h.elim
 ·unfold nG at h
  split at h
  ·rename_i l hl; exact ⟨.one l,tr,Ml _ hl,h⟩
  ·exact h.elim
 ·rename_i f; exact ⟨.fn f [],tr,⟨#[],rfl,trivial⟩,h⟩
 ·exact h.elim
theorem dL {α:Type} {o:Option α} {k:α->Prog} {tr:Tr} {Q:S->Tr->Prop} (h:(nG o k).wp cf σ tr Q) :
  ∃ x,o=some x/\(k x).wp cf σ tr Q:=by
 unfold nG at h
 split at h
 ·exact ⟨_,rfl,h⟩
 ·exact h.elim
theorem mQ {e:eG} {k:ST->T->Prog} {tr:Tr} {Q:S->Tr->Prop} {v:Value} (he:iY σ.k g w I e v) (h:(sI e k).wp cf σ tr Q) :
  ∃ s d,e = .one ⟨.sc,.sc s,d⟩/\Jy s v d/\(k s d).wp cf σ tr Q:=by
 unfold sI at h
 split at h
 ·obtain ⟨-,s',hs,hv⟩:=he
  cases hs
  exact ⟨_,_,rfl,hv,h⟩
 ·exact h.elim
theorem Ba {e:eG} {k:Leaf->Prog} {tr:Tr} {Q:S->Tr->Prop} {v:Value} (he:iY σ.k g w I e v) (h:(Rx e k).wp cf σ tr Q) :
  ∃ l,e = .one l/\CP σ.k g w I l v/\(k l).wp cf σ tr Q:=by
 unfold Rx at h
 split at h
 ·exact ⟨_,rfl,he,h⟩
 ·exact h.elim
theorem jf {o:Oper} {e:eG} {v:Value} {tr:Tr} {Q:S->Tr->Prop} {K:Act->World->Prop} {Qm:Exit->Act->World->Prop}
  (hd:dB n.np n.nt o=true) (hR:R n σ g I a w) (hK:Post P n I w Q K)
  (hrun:(execOp a.eval o).run P w = .ok (.value v) w) (he:iY σ.k g w I e v) (h:(put o.dst e).wp cf σ tr Q):Goal P o a w K Qm:=by
 refine xB hrun ?_
 unfold put at h
 cases hds:o.dst with
 | none =>
  simp only [hds] at h ⊢
  exact hK _ _ g I _ _ h hR (fun _ _ h=>h) (Keeps.refl _ _)
 | some d =>
  simp only [hds] at h ⊢
  exact hK _ _ g I _ _ h (hR.put (Dj hd hds).1 he) (fun _ _ h=>h) (Keeps.refl _ _)
theorem kU {o:Oper} {s:ST} {d:T} {v:Value} {tr:Tr} {Q:S->Tr->Prop} {K:Act->World->Prop} {Qm:Exit->Act->World->Prop}
  (hd:dB n.np n.nt o=true) (hR:R n σ g I a w) (hK:Post P n I w Q K)
  (hrun:(execOp a.eval o).run P w = .ok (.value v) w) (he:Jy s v d) (h:(nT o.dst s d).wp cf σ tr Q):Goal P o a w K Qm :=
 jf hd hR hK hrun (e:=.one ⟨.sc,.sc s,d⟩) ⟨he.single,s,rfl,he⟩ h
end
end Go.E

namespace Go.E
open Go
theorem Mq (k:IntKind) (x:Int):k.min<=k.wrap x/\k.wrap x<=k.max:=by
 have e8:(2:Int) ^ 8=256:=by decide
 have e7:(2:Int) ^ 7=128:=by decide
 have e16:(2:Int) ^ 16=65536:=by decide
 have e15:(2:Int) ^ 15=32768:=by decide
 have e32:(2:Int) ^ 32=4294967296:=by decide
 have e31:(2:Int) ^ 31=2147483648:=by decide
 have e64:(2:Int) ^ 64=18446744073709551616:=by decide
 have e63:(2:Int) ^ 63=9223372036854775808:=by decide
 cases k <;> simp only [IntKind.wrap,IntKind.min,IntKind.max,IntKind.bits,IntKind.signed,Bool.true_and,Bool.false_and,if_true,Bool.false_eq_true,if_false,Nat.reduceSub,e8,e7,e16,e15,e32,e31,e64,e63,decide_eq_true_eq] <;> (try split) <;> omega
theorem vI {k:IntKind} {x:Int} : Jy (.int k) (.int k (k.wrap x)) (.i (k.wrap x)):=⟨_,rfl,rfl,(Mq k x).1,(Mq k x).2⟩
theorem lN {b:Bool} : Jy .bool (.bool b) (.b b):=⟨_,rfl,rfl⟩
theorem Gm (k:IntKind):k.min<=0/\0<=k.max:=by
 cases k <;> simp [IntKind.min,IntKind.max,IntKind.bits,IntKind.signed]
theorem Mr {k:IntKind} {x y:Int} (h:k.min<=x/\x<=k.max):k.min<=x.tmod y/\x.tmod y<=k.max:=by
 have h0:=Gm k
 have h1:(x.tmod y).natAbs<=x.natAbs:=by rw [Int.natAbs_tmod]; exact Nat.mod_le _ _
 rcases Int.le_total 0 x with hx | hx
 ·have h2:=Int.tmod_nonneg y hx
  omega
 ·have h3:=Int.tmod_nonneg y (show 0<=-x by omega)
  rw [Int.neg_tmod] at h3
  omega
theorem Xj {k:IntKind} {x:Int} {m:Nat} (h:k.min<=x/\x<=k.max):k.min<=x.fdiv (2 ^ m)/\x.fdiv (2 ^ m)<=k.max:=by
 have h0:=Gm k
 have hp:(0:Int)<2 ^ m:=Int.pow_pos (by decide)
 rw [Int.fdiv_eq_ediv_of_nonneg _ (by omega)]
 rcases Int.le_total 0 x with hx | hx
 ·have h2:=Int.ediv_nonneg hx (show (0:Int)<=2 ^ m by omega)
  have h3:=Int.ediv_le_self (2 ^ m) hx
  omega
 ·have h2:x<=x / 2 ^ m:=by
   rw [Int.le_ediv_iff_mul_le hp]
   have h1:(0:Int)<=2 ^ m-1:=by omega
   have:=Int.mul_nonneg (show 0<=-x by omega) h1
   have e : -x * (2 ^ m-1)=x-x * 2 ^ m:=by rw [Int.mul_sub,Int.neg_mul]; omega
   omega
  have h3:x / 2 ^ m<=0:=by
   have:=Int.ediv_le_ediv hp hx
   simpa using this
  omega
section
variable {P:Program} {w:World} {ρ:Operand->Value} {o:Oper}
theorem run_move {x:Operand} (hop:o.op = .move x\/o.op = .assign x):(execOp ρ o).run P w = .ok (.value (ρ x)) w:=by
 rcases hop with hop | hop <;> simp [execOp,hop,go_sem]
theorem abd {c x y:Operand} {b:Bool} (hop:o.op = .pick c x y) (hb:ρ c = .bool b) :
  (execOp ρ o).run P w = .ok (.value (if b=true then ρ x else ρ y)) w:=by
 simp [execOp,hop,hb,asBool,go_sem]
theorem RZ {x:Operand} {b o':Nat} (hop:o.op = .nilCheck x) (hv:ρ x = .pointer (some ⟨b,o',none⟩)) :
  (execOp ρ o).run P w = .ok (.value (ρ x)) w:=by
 simp [execOp,hop,hv,go_sem]
theorem Uf {x:Operand} {i:Nat} {vs:Array Value} {v:Value} (hop:o.op = .extract x i) (hv:ρ x = .tuple vs) (h:vs[i]? = some v) :
  (execOp ρ o).run P w = .ok (.value v) w:=by
 simp [execOp,hop,hv,Instr.extract,h,go_sem]
end
section
variable {Γ:Ctx} {P:Program} {cf:FuncId->List Arg->R3 fE}
variable {n:Fr} {σ:S} {g:Gh} {I:au} {a:Act} {w:World}
theorem qH (κ:Key->KE) : ∀ {aO:List LT} {ls:List Leaf} {vs:List Value},bW κ g w I ls vs->bW κ g w I (oh aO ls) vs
 | [],ls,vs,h=>by unfold oh; exact h
 | lt::aO,[],vs,h=>by unfold oh; exact h
 | lt::aO,l::ls,[],h=>h.elim
 | lt::aO,l::ls,v::vs,h=>by
  unfold oh
  refine ⟨?_,qH κ h.2⟩
  split
  ·rename_i e1
   obtain ⟨h1,h2⟩:=h.1
   refine ⟨h1,?_⟩
   simp only [e1] at h2 ⊢
   exact ⟨trivial,h2.2⟩
  ·exact h.1
theorem R4 {κ:Key->KE} {ls:List Leaf} {v:Value} (h:bW κ g w I ls [v]):iY κ g w I (Iw ls) v:=by
 unfold Iw
 split
 ·exact h.1
 ·trivial
theorem Ms {κ:Key->KE} {ls:List Leaf} {cs:Array Value} (h:bW κ g w I ls cs.toList):iY κ g w I (CZ true ls) (.agg cs):=⟨cs,rfl,h⟩
theorem IE {κ:Key->KE} {ls:List Leaf} {v:Value} (h:bW κ g w I ls [v]):iY κ g w I (CZ false ls) v:=by
 unfold CZ
 simp only [cond_false]
 split
 ·exact h.1
 ·trivial
theorem fA {t:TypeId} {k:TI->Prog} {tr:Tr} {Q:S->Tr->Prop} (hΓ:d9 Γ P) (h:(sw Γ t k).wp cf σ tr Q) :
  ∃ ti,Γ.ty t=some ti/\sK Γ P t ti/\(k ti).wp cf σ tr Q:=by
 obtain ⟨ti,h1,h2⟩:=dL h
 exact ⟨ti,h1,hΓ.ty t ti h1,h2⟩
variable {o:Oper} {f:FuncId} {tr:Tr} {Q:S->Tr->Prop} {K:Act->World->Prop} {Qm:Exit->Act->World->Prop}
theorem R5 {aO:List LT} {κ:Key->KE} {e:eG} {v:Value} (h:iY κ g w I e v):iY κ g w I (Iy aO e) v:=by
 unfold Iy
 split
 ·exact R4 (qH _ ⟨h,trivial⟩)
 ·obtain ⟨cs,h3,h4⟩:=h
  exact ⟨cs,h3,qH _ h4⟩
 ·exact h
theorem Yx {s:ST} {d:T} {v:Value} (h:Jy s v d):Me s d=d:=by
 cases s <;> first | rfl | skip
 obtain ⟨b,-,rfl⟩:=h
 rfl
theorem adz (hd:dB n.np n.nt o=true) (hR:R n σ g I a w) (hK:Post P n I w Q K) {c x y:Operand} (hop:o.op = .pick c x y)
  (h:(bB Γ f o).wp cf σ tr Q):Goal P o a w K Qm:=by
 simp only [bB,hop] at h
 obtain ⟨ec,t1,hc,h⟩:=iV hR h
 obtain ⟨ex,t2,hx,h⟩:=iV hR h
 obtain ⟨ey,t3,hy,h⟩:=iV hR h
 obtain ⟨s,d,rfl,hv,h⟩:=mQ hc h
 split at h
 ·obtain ⟨b,hb,rfl⟩:=hv
  have hrun:=abd (P:=P) (w:=w) (ρ:=a.eval) hop hb
  simp only [Prog.wp,T.bool] at h
  cases b
  ·simp only [Bool.false_eq_true,if_false] at h hrun
   obtain ⟨s,d,rfl,hv,h⟩:=mQ hy h
   rw [Yx hv] at h
   exact kU hd hR hK hrun hv h
  ·simp only [if_true] at h hrun
   obtain ⟨s,d,rfl,hv,h⟩:=mQ hx h
   rw [Yx hv] at h
   exact kU hd hR hK hrun hv h
 ·exact h.elim
theorem qI {ds:List AV} {p:Prog} : ∀ {tr:Tr},(zx ds p).wp cf σ tr Q->Cur σ.k ds /\ ∃ dn,p.wp cf σ dn Q:=by
 induction ds with
 | nil=>intro tr h; exact ⟨fun _ h=>(nomatch h),tr,h⟩
 | cons d ds ih =>
  intro tr h
  obtain ⟨k,m⟩:=d
  obtain ⟨h1,h2⟩:=h
  obtain ⟨h3,h4⟩:=ih h2
  refine ⟨fun x hx=>?_,h4⟩
  rcases List.mem_cons.1 hx with rfl | hx
  ·exact Nat.eq_of_beq_eq_true h1
  ·exact h3 x hx
theorem Ug (hd:dB n.np n.nt o=true) (hR:R n σ g I a w) (hK:Post P n I w Q K) {x:Operand} (hop:o.op = .nilCheck x)
  (h:(bB Γ f o).wp cf σ tr Q):Goal P o a w K Qm:=by
 simp only [bB,hop] at h
 obtain ⟨e,t1,he,h⟩:=iV hR h
 have key : ∀ b o',a.eval x = .pointer (some ⟨b,o',none⟩)->(execOp a.eval o).run P w = .ok (.value (a.eval x)) w:=fun b o' hv=>RZ hop hv
 split at h
 ·obtain ⟨h1,h2⟩:=h
  obtain ⟨b,o',hv,-⟩:=he.2.2 (Nat.eq_of_beq_eq_true h1)
  exact jf hd hR hK (key b o' hv) he h2
 ·obtain ⟨h1,t2,h2⟩:=qI h
  obtain ⟨b,o',hv,-⟩:=he.2.2 h1
  exact jf hd hR hK (key b o' hv) he h2
 ·exact h.elim
theorem Xk (hd:dB n.np n.nt o=true) (hR:R n σ g I a w) (hK:Post P n I w Q K) {x:Operand} {i:Nat} (hop:o.op = .extract x i)
  (h:(bB Γ f o).wp cf σ tr Q):Goal P o a w K Qm:=by
 simp only [bB,hop] at h
 obtain ⟨e,t1,he,h⟩:=iV hR h
 split at h
 ·rename_i es
  obtain ⟨vs,hv,hs⟩:=he
  obtain ⟨x',hx,h⟩:=dL h
  have key : ∀ (es:List eG) (vs:List Value) (i:Nat),nQ σ.k g w I es vs->es[i]? = some x'->∃ v,vs[i]? = some v/\pK σ.k g w I x' v:=by
   intro es
   induction es with
   | nil=>intro vs i _ h; simp at h
   | cons e es ih =>
    intro vs i h1 h2
    cases vs with
    | nil=>exact h1.elim
    | cons v vs =>
     cases i with
     | zero=>simp at h2; subst h2; exact ⟨v,rfl,h1.1⟩
     | succ i=>simpa using ih vs i h1.2 (by simpa using h2)
  obtain ⟨v,hv1,hv2⟩:=key es vs.toList i hs hx
  have aiH:vs[i]? = some v:=by simpa using hv1
  have hrun:=Uf (P:=P) (w:=w) (ρ:=a.eval) hop hv aiH
  refine jf hd hR hK hrun (e:=x') ?_ h
  cases x' <;> first | exact hv2 | exact hv2.elim
 ·exact h.elim
end
end Go.E

namespace Go.E
open Go
section
variable {P:Program} {w:World} {ρ:Operand->Value} {o:Oper}
theorem ZC {op:BinOp} {t:TypeId} {x y:Operand} {k k':IntKind} {i j:Int} : (eqGuard op t x y (.int k i) (.int k' j)).run P w = .ok () w:=by
 cases op <;> simp [eqGuard,go_sem]
theorem ZE {op:BinOp} {t:TypeId} {x y:Operand} {i j:ByteArray} : (eqGuard op t x y (.string i) (.string j)).run P w = .ok () w:=by
 cases op <;> simp [eqGuard,go_sem]
theorem Xl {op:BinOp} {t:TypeId} {x y:Operand} {i j:Bool} : (eqGuard op t x y (.bool i) (.bool j)).run P w = .ok () w:=by
 cases op <;> simp [eqGuard,go_sem]
theorem qJ {op:BinOp} {t t':TypeId} {x y:Operand} {v:Value} (hop:o.op = .binOp op t x y t')
  (hg:(eqGuard op t x y (ρ x) (ρ y)).run P w = .ok () w) (hv:(binOp op t (ρ x) (ρ y)).run P w = .ok v w) :
  (execOp ρ o).run P w = .ok (.value v) w:=by
 simp only [execOp,hop]
 rw [Sem.run_bind,Sem.run_bind,hg]
 simp [hv]
theorem Mt {op:UnOp} {t:TypeId} {x:Operand} {v:Value} (hop:o.op = .unOp op t x) (hv:(Op.unary op (ρ x)).run P w = .ok v w) :
  (execOp ρ o).run P w = .ok (.value v) w:=by
 simp only [execOp,hop]
 rw [Sem.run_bind,hv]
 simp
end
section
variable {Γ:Ctx} {P:Program} {cf:FuncId->List Arg->R3 fE}
variable {n:Fr} {σ:S} {g:Gh} {I:au} {a:Act} {w:World}
variable {o:Oper} {f:FuncId} {tr:Tr} {Q:S->Tr->Prop} {K:Act->World->Prop} {Qm:Exit->Act->World->Prop}
theorem ZF {op:BinOp} {k:IntKind} {x y:Int} {C:ST->T->Prog} (t:TypeId) (hx:k.min<=x/\x<=k.max)
  (h:(Xb op k x y C).wp cf σ tr Q) (h1:op ≠ .shl) (h2:op ≠ .shr) :
  ∃ s d v,(binOp op t (.int k x) (.int k y)).run P w = .ok v w/\Jy s v d/\(C s d).wp cf σ tr Q:=by
 cases op <;> simp only [Xb] at h <;> try (exact h.elim)
 case add=>exact ⟨_,_,_,by simp only [binOp,ne_eq,not_true_eq_false,if_false,Op.intArith]; rfl,vI,h⟩
 case sub=>exact ⟨_,_,_,by simp only [binOp,ne_eq,not_true_eq_false,if_false,Op.intArith]; rfl,vI,h⟩
 case mul=>exact ⟨_,_,_,by simp only [binOp,ne_eq,not_true_eq_false,if_false,Op.intArith]; rfl,vI,h⟩
 case quo =>
  obtain ⟨h0,h⟩:=h
  have hy:y≠0:=by simpa using h0
  exact ⟨_,_,_,by simp only [binOp,ne_eq,not_true_eq_false,if_false,Op.intDiv,hy]; rfl,vI,h⟩
 case rem =>
  obtain ⟨h0,h⟩:=h
  have hy:y≠0:=by simpa using h0
  exact ⟨.int k,.i (x.tmod y),.int k (x.tmod y),by simp only [binOp,ne_eq,not_true_eq_false,if_false,Op.intDiv,hy]; rfl,⟨_,rfl,rfl,(Mr hx).1,(Mr hx).2⟩,h⟩
 case and=>exact ⟨_,_,_,by simp only [binOp,ne_eq,not_true_eq_false,if_false,Op.intBits]; rfl,vI,h⟩
 case or=>exact ⟨_,_,_,by simp only [binOp,ne_eq,not_true_eq_false,if_false,Op.intBits]; rfl,vI,h⟩
 case xor=>exact ⟨_,_,_,by simp only [binOp,ne_eq,not_true_eq_false,if_false,Op.intBits]; rfl,vI,h⟩
 case andNot=>exact ⟨_,_,_,by simp only [binOp,ne_eq,not_true_eq_false,if_false,Op.intBits]; rfl,vI,h⟩
 case eql=>exact ⟨_,_,_,by simp only [binOp,ne_eq,not_true_eq_false,if_false,Op.intCmp]; rfl,lN,h⟩
 case neq=>exact ⟨_,_,_,by simp only [binOp,ne_eq,not_true_eq_false,if_false,Op.intCmp]; rfl,lN,h⟩
 case lss=>exact ⟨_,_,_,by simp only [binOp,ne_eq,not_true_eq_false,if_false,Op.intCmp]; rfl,lN,h⟩
 case leq=>exact ⟨_,_,_,by simp only [binOp,ne_eq,not_true_eq_false,if_false,Op.intCmp]; rfl,lN,h⟩
 case gtr=>exact ⟨_,_,_,by simp only [binOp,ne_eq,not_true_eq_false,if_false,Op.intCmp]; rfl,lN,h⟩
 case geq=>exact ⟨_,_,_,by simp only [binOp,ne_eq,not_true_eq_false,if_false,Op.intCmp]; rfl,lN,h⟩
theorem R6:IntKind.i64.max=9223372036854775807:=by decide
theorem ZG {op:BinOp} {x y:ByteArray} {C:ST->T->Prog} (t:TypeId)
  (h:(Xc op x y C).wp cf σ tr Q) :
  ∃ s d v,(binOp op t (.string x) (.string y)).run P w = .ok v w/\Jy s v d/\(C s d).wp cf σ tr Q:=by
 cases op <;> simp only [Xc] at h <;> try (exact h.elim)
 case add =>
  obtain ⟨h0,h⟩:=h
  have h1:x.size+y.size<9223372036854775808:=by simpa using h0
  have h2 : ¬ (((x.size+y.size:Nat):Int) > IntKind.i64.max):=by rw [R6]; omega
  exact ⟨.str,_,.string (x++y),by simp only [binOp,Op.stringOp,h2,if_false]; rfl,⟨_,rfl,rfl,by rw [ByteArray.size_append]; exact h1⟩,h⟩
 case eql=>exact ⟨_,_,_,by simp only [binOp,Op.stringOp]; rfl,lN,h⟩
 case neq=>exact ⟨_,_,_,by simp only [binOp,Op.stringOp]; rfl,lN,h⟩
 case lss=>exact ⟨_,_,_,by simp only [binOp,Op.stringOp]; rfl,lN,h⟩
 case leq=>exact ⟨_,_,_,by simp only [binOp,Op.stringOp]; rfl,lN,h⟩
 case gtr=>exact ⟨_,_,_,by simp only [binOp,Op.stringOp]; rfl,lN,h⟩
 case geq=>exact ⟨_,_,_,by simp only [binOp,Op.stringOp]; rfl,lN,h⟩
end
end Go.E

namespace Go.E
open Go
section
variable {P:Program} {w:World} {ρ:Operand->Value} {o:Oper}
theorem Uh {t:TypeId} {cs:Array Value} {off:Nat} {v:Value} {d:TypeDesc} (hu:P.underlying t=some d) (hd:(∀ fs,d ≠ .struct fs) /\ ∀ n e,d ≠ .array n e)
  (hv:cs[off]? = some v):(part t cs off).run P w = .ok v w:=by
 have h1:(isAgg t).run P w = .ok false w:=by
  simp only [isAgg,Sem.run_bind,run_underlying hu,Result.andThen_ok]
  cases d <;> first | rfl | exact absurd rfl (hd.1 _) | exact absurd rfl (hd.2 _ _)
 simp [part,h1,hv]
end
section
variable {Γ:Ctx} {P:Program} {cf:FuncId->List Arg->R3 fE}
variable {n:Fr} {σ:S} {g:Gh} {I:au} {a:Act} {w:World}
variable {o:Oper} {f:FuncId} {tr:Tr} {Q:S->Tr->Prop} {K:Act->World->Prop} {Qm:Exit->Act->World->Prop}
theorem adA {s:ST} {x y:T} {u v:Value} {b:Bool} {t:TypeId} {d:Nat} (hty:match LT.sc s with
   | .sc (.int k)=>P.underlying t=some (.int k)
   | .sc .bool=>P.underlying t=some .bool
   | .sc .str=>P.underlying t=some .string
   | _=>False) (hu:Jy s u x) (hv:Jy s v y) (h:aa0 s x y=some b) :
  (Op.equalIn (d+1) t u v).run P w = .ok b w /\ ∃ dd,P.underlying t=some dd/\(∀ fs,dd ≠ .struct fs) /\ ∀ n e,dd ≠ .array n e:=by
 cases s with
 | int k =>
  obtain ⟨i,rfl,rfl,-⟩:=hu
  obtain ⟨i',rfl,rfl,-⟩:=hv
  simp only [aa0,T.int,Option.some.injEq] at h
  subst h
  exact ⟨run_equalIn_int w d _ _ _ _ _ hty,_,hty,fun _ h=>(nomatch h),fun _ _ h=>(nomatch h)⟩
 | bool =>
  obtain ⟨i,rfl,rfl⟩:=hu
  obtain ⟨i',rfl,rfl⟩:=hv
  simp only [aa0,T.bool,Option.some.injEq] at h
  subst h
  exact ⟨run_equalIn_bool' w d _ _ _ hty,_,hty,fun _ h=>(nomatch h),fun _ _ h=>(nomatch h)⟩
 | str =>
  obtain ⟨i,rfl,rfl,-⟩:=hu
  obtain ⟨i',rfl,rfl,-⟩:=hv
  simp only [aa0,T.str,Option.some.injEq] at h
  subst h
  exact ⟨run_equalIn_string w d _ _ _ hty,_,hty,fun _ h=>(nomatch h),fun _ _ h=>(nomatch h)⟩
 | any=>exact hty.elim
theorem Jz {κ:Key->KE} {d:Nat} {xs ys:Array Value} : ∀ (fs:List Field) (aO:List LT) (j:Nat) (ls rs:List Leaf) (r:Bool),RY P j fs aO ->
  bW κ g w I ls (xs.toList.drop j)->bW κ g w I rs (ys.toList.drop j)->wZ aO ls rs=some r ->
  (Op.eqFields (d+1) xs ys fs).run P w = .ok r w
 | [],[],j,ls,rs,r,hf,hl,hr,he=>by
  cases ls <;> cases rs <;> simp [wZ] at he
  subst he; simp [Op.eqFields]
 | [],_::_,j,ls,rs,r,hf,hl,hr,he=>hf.elim
 | f::fs,[],j,ls,rs,r,hf,hl,hr,he=>hf.elim
 | f::fs,lt::aO,j,ls,rs,r,hf,hl,hr,he=>by
  unfold wZ at he
  split at he
  ·contradiction
  ·rename_i c adB a' x ls' b' y rs' e1
   cases e1
   split at he
   ·rename_i hab
    obtain ⟨rfl,rfl⟩:=hab
    split at he
    ·rename_i b r' h1 h2
     cases he
     obtain ⟨hname,hoff,hty,hf⟩:=hf
     cases hx:xs.toList.drop j with
     | nil=>rw [hx] at hl; exact hl.elim
     | cons u us =>
      cases hy:ys.toList.drop j with
      | nil=>rw [hy] at hr; exact hr.elim
      | cons v vs =>
       rw [hx] at hl; rw [hy] at hr
       have hx1:xs[j]? = some u:=by
        have:(xs.toList.drop j)[0]? = some u:=by rw [hx]; rfl
        simpa using this
       have hy1:ys[j]? = some v:=by
        have:(ys.toList.drop j)[0]? = some v:=by rw [hy]; rfl
        simpa using this
       have hx2:xs.toList.drop (j+1)=us:=by rw [<-List.drop_drop,hx]; rfl
       have hy2:ys.toList.drop (j+1)=vs:=by rw [<-List.drop_drop,hy]; rfl
       obtain ⟨-,s1',e1,hu⟩:=hl.1
       obtain ⟨-,s2',e2,hv⟩:=hr.1
       cases e1; cases e2
       obtain ⟨hb,dd,hu',hdd⟩:=adA (P:=P) (w:=w) (d:=d) hty hu hv h1
       have ih:=Jz (d:=d) (xs:=xs) (ys:=ys) fs aO (j+1) ls' rs' r' hf (by rw [hx2]; exact hl.2) (by rw [hy2]; exact hr.2) h2
       simp only [Op.eqFields,ne_eq,hname,not_false_eq_true,if_true,Sem.run_bind,hoff,Uh hu' hdd hx1,Uh hu' hdd hy1,Result.andThen_ok,hb]
       cases b
       ·simp
       ·simpa using ih
    ·cases he
   ·cases he
  ·cases he
theorem Qc {κ:Key->KE} {t:TypeId} {ti:TI} {ls rs:List Leaf} {r:Bool} {xs ys:Array Value} (hf:Xi P t ti.aO) (hl:bW κ g w I ls xs.toList) (hr:bW κ g w I rs ys.toList)
  (he:wZ ti.aO ls rs=some r):(Op.equal t (.agg xs) (.agg ys)).run P w = .ok r w /\
   ∀ op x y,(eqGuard op t x y (.agg xs) (.agg ys)).run P w = .ok () w:=by
 obtain ⟨fields,h1,h2,h3,h4⟩:=hf
 constructor
 ·have hfo:P.fieldsOf t=fields:=by simp [Program.fieldsOf,h1]
  show (Op.equalIn (9999+1) t (.agg xs) (.agg ys)).run P w = .ok r w
  rw [run_equalIn_struct (P:=P) w 9999 t xs ys (by rw [hfo]; exact h1) h2,hfo]
  exact Jz (d:=9998) fields.toList ti.aO 0 ls rs r h4 (by simpa using hl) (by simpa using hr) he
 ·intro op x y
  cases op <;> simp [eqGuard,h3,go_sem]
theorem abe (hΓ:d9 Γ P) (hd:dB n.np n.nt o=true) (hR:R n σ g I a w) (hK:Post P n I w Q K) {op:BinOp} {t t':TypeId} {x y:Operand} (hop:o.op = .binOp op t x y t')
  (h:(bB Γ f o).wp cf σ tr Q):Goal P o a w K Qm:=by
 simp only [bB,hop] at h
 obtain ⟨ti,-,hty,h⟩:=fA hΓ h
 obtain ⟨ex,t1,hx,h⟩:=iV hR h
 obtain ⟨ey,t2,hy,h⟩:=iV hR h
 unfold agS at h
 split at h
 ·skip
  rename_i k u k' v _
  have hu:Jy (.int k) (a.eval x) u:=by obtain ⟨-,s,e,hu⟩:=hx; cases e; exact hu
  have hv:Jy (.int k') (a.eval y) v:=by obtain ⟨-,s,e,hu⟩:=hy; cases e; exact hu
  obtain ⟨i,hi,rfl,hi1⟩:=hu
  obtain ⟨j,hj,rfl,hj1⟩:=hv
  have hgd:(eqGuard op t x y (a.eval x) (a.eval y)).run P w = .ok () w:=by rw [hi,hj]; exact ZC
  split at h
  ·obtain ⟨h0,h⟩:=h
   have h1 : ¬ j<0:=by have:=of_decide_eq_true h0; simp only [T.int] at this; omega
   refine kU hd hR hK (qJ hop hgd (v:=.int k (k.wrap (i * 2 ^ (min j.toNat k.bits)))) ?_) vI h
   rw [hi,hj]; simp [binOp,Op.shift,h1]
  ·obtain ⟨h0,h⟩:=h
   have h1 : ¬ j<0:=by have:=of_decide_eq_true h0; simp only [T.int] at this; omega
   refine kU hd hR hK (s:=.int k) (qJ hop hgd (v:=.int k (i.fdiv (2 ^ (min j.toNat k.bits)))) ?_) ⟨_,rfl,rfl,Xj hi1⟩ h
   rw [hi,hj]; simp [binOp,Op.shift,h1]
  ·rename_i hs1 hs2
   split at h
   ·rename_i hk
    subst hk
    obtain ⟨s,d,v,h1,h2,h3⟩:=ZF (P:=P) (w:=w) t hi1 h (fun e=>hs1 e) (fun e=>hs2 e)
    exact kU hd hR hK (qJ hop hgd (by rw [hi,hj]; exact h1)) h2 h3
   ·exact h.elim
 ·obtain ⟨-,s,e,hu⟩:=hx
  cases e
  obtain ⟨-,s,e,hv⟩:=hy
  cases e
  obtain ⟨i,hi,rfl,hi1⟩:=hu
  obtain ⟨j,hj,rfl,hj1⟩:=hv
  have hgd:(eqGuard op t x y (a.eval x) (a.eval y)).run P w = .ok () w:=by rw [hi,hj]; exact ZE
  obtain ⟨s,d,v,h1,h2,h3⟩:=ZG (P:=P) (w:=w) t h
  exact kU hd hR hK (qJ hop hgd (by rw [hi,hj]; exact h1)) h2 h3
 ·obtain ⟨-,s,e,hu⟩:=hx
  cases e
  obtain ⟨-,s,e,hv⟩:=hy
  cases e
  obtain ⟨i,hi,rfl⟩:=hu
  obtain ⟨j,hj,rfl⟩:=hv
  have hgd:(eqGuard op t x y (a.eval x) (a.eval y)).run P w = .ok () w:=by rw [hi,hj]; exact Xl
  cases hb:Rz ti.kind with
  | false=>simp only [hb,cond_false] at h; exact h.elim
  | true =>
   simp only [hb,cond_true] at h
   have hub:P.underlying t=some .bool:=by
    obtain ⟨d,h1,h2⟩:=hty.und
    unfold Rz at hb
    split at hb
    ·rename_i hk; rw [hk] at h2; rw [h1,h2.1]
    ·cases hb
   have heq:(Op.equal t (.bool i) (.bool j)).run P w = .ok (i==j) w:=run_equalIn_bool' w 9999 t i j hub
   split at h
   ·exact kU hd hR hK (qJ hop hgd (v:=.bool (i==j)) (by rw [hi,hj]; simp [binOp,heq])) lN h
   ·exact kU hd hR hK (qJ hop hgd (v:=.bool (!(i==j))) (by rw [hi,hj]; simp [binOp,heq])) lN h
   ·exact h.elim
 ·rename_i ls rs
  obtain ⟨xs,hxs,hl⟩:=hx
  obtain ⟨ys,hys,hr⟩:=hy
  cases hb:ti.flat with
  | false=>simp only [hb,cond_false] at h; exact h.elim
  | true =>
   simp only [hb,cond_true] at h
   split at h
   ·obtain ⟨r,he,h⟩:=dL h
    obtain ⟨h1,h2⟩:=Qc (hty.flat hb) hl hr he
    exact kU hd hR hK (qJ hop (by rw [hxs,hys]; exact h2 _ _ _) (v:=.bool r) (by rw [hxs,hys]; simp [binOp,h1])) lN h
   ·obtain ⟨r,he,h⟩:=dL h
    obtain ⟨h1,h2⟩:=Qc (hty.flat hb) hl hr he
    exact kU hd hR hK (qJ hop (by rw [hxs,hys]; exact h2 _ _ _) (v:=.bool (!r)) (by rw [hxs,hys]; simp [binOp,h1])) lN h
   ·exact h.elim
 ·exact h.elim
theorem adC (hd:dB n.np n.nt o=true) (hR:R n σ g I a w) (hK:Post P n I w Q K) {op:UnOp} {t:TypeId} {x:Operand} (hop:o.op = .unOp op t x)
  (h:(bB Γ f o).wp cf σ tr Q):Goal P o a w K Qm:=by
 simp only [bB,hop] at h
 obtain ⟨ex,t1,hx,h⟩:=iV hR h
 obtain ⟨s,d,rfl,hv,h⟩:=mQ hx h
 split at h
 ·obtain ⟨b,hb,rfl⟩:=hv
  exact kU hd hR hK (Mt hop (by rw [hb]; rfl)) lN h
 ·obtain ⟨i,hi,rfl,-⟩:=hv
  exact kU hd hR hK (Mt hop (by rw [hi]; rfl)) vI h
 ·obtain ⟨i,hi,rfl,-⟩:=hv
  exact kU hd hR hK (Mt hop (by rw [hi]; rfl)) vI h
 ·exact h.elim
end
end Go.E

namespace Go.E
open Go
mutual
theorem LT.beq_eq : ∀ {a b:LT},LT.beq a b=true->a=b
 | .sc a,.sc b,h=>by unfold LT.beq at h; rw [of_decide_eq_true h]
 | .sl a,.sl b,h=>by unfold LT.beq at h; rw [LT.bI h]
 | .sc _,.sl _,h=>by unfold LT.beq at h; cases h
 | .sl _,.sc _,h=>by unfold LT.beq at h; cases h
theorem LT.bI : ∀ {a b:List LT},LT.dQ a b=true->a=b
 | [],[],h=>rfl
 | a::as,b::bs,h=>by
  unfold LT.dQ at h
  simp only [Bool.and_eq_true] at h
  rw [LT.beq_eq h.1,LT.bI h.2]
 | [],_::_,h=>by unfold LT.dQ at h; cases h
 | _::_,[],h=>by unfold LT.dQ at h; cases h
end
section
variable {w w':World} {I I' S A:au}
def aT (w:World) (S:au):List LT->List Value->List T->Prop
 | [],[],[]=>True
 | e::es,v::vs,d::ds=>aG w S e v d/\aT w S es vs ds
 | _,_,_=>False
def bH (w:World) (b o:Nat):List Value->Prop
 | []=>True
 | v::vs=>cellAt w b o=some v/\bH w b (o+1) vs
theorem dA.vals : ∀ {es:List LT} {b o:Nat} {row:List T},dA w A S es b o row->∃ vs,aT w S es vs row/\bH w b o vs
 | [],b,o,row,h=>by unfold dA at h; subst h; exact ⟨[],trivial,trivial⟩
 | e::es,b,o,row,h=>by
  unfold dA at h
  obtain ⟨d,rest,v,rfl,-,h3,h4,h5⟩:=h
  obtain ⟨vs,h6,h7⟩:=dA.vals h5
  exact ⟨v::vs,⟨h4,h6⟩,h3,h7⟩
theorem aT.len : ∀ {es:List LT} {vs:List Value} {ds:List T},aT w S es vs ds->vs.length=es.length/\ds.length=es.length
 | [],[],[],_=>⟨rfl,rfl⟩
 | _::es,_::vs,_::ds,h=>by have:=aT.len h.2; simp; omega
 | [],_::_,_,h=>h.elim
 | [],[],_::_,h=>h.elim
 | _::_,[],_,h=>h.elim
 | _::_,_::_,[],h=>h.elim
theorem aT.drop : ∀ {es:List LT} {vs:List Value} {ds:List T} (k:Nat),aT w S es vs ds->aT w S (es.drop k) (vs.drop k) (ds.drop k)
 | es,vs,ds,0,h=>h
 | [],[],[],k+1,h=>trivial
 | _::es,_::vs,_::ds,k+1,h=>aT.drop k h.2
 | [],_::_,_,_+1,h=>h.elim
 | [],[],_::_,_+1,h=>h.elim
 | _::_,[],_,_+1,h=>h.elim
 | _::_,_::_,[],_+1,h=>h.elim
theorem bH.drop : ∀ {vs:List Value} {b o:Nat} (k:Nat),bH w b o vs->bH w b (o+k) (vs.drop k)
 | vs,b,o,0,h=>h
 | [],b,o,k+1,h=>trivial
 | v::vs,b,o,k+1,h=>by
  have:=bH.drop k h.2
  rwa [show o+1+k=o+(k+1) from by omega] at this
theorem bH.take : ∀ {vs:List Value} {b o:Nat} (k:Nat),bH w b o vs->bH w b o (vs.take k)
 | vs,b,o,0,h=>trivial
 | [],b,o,k+1,h=>trivial
 | v::vs,b,o,k+1,h=>⟨h.1,bH.take k h.2⟩
theorem kH {b o:Nat} {c:Array Value} {el:TypeId} {fz:Nat×Nat} (h:Block w b c el fz):cellAt w b o=c[o]?:=by
 unfold Block at h
 simp [cellAt,World.cell?,h]
theorem Keeps.block {b:Nat} {c:Array Value} {el:TypeId} {fz:Nat×Nat} (h:Keeps A w w') (hb:Block w b c el fz) :
  ∃ c',Block w' b c' el fz/\c'.size=c.size /\ ∀ o,A b o->c'[o]? = c[o]?:=by
 obtain ⟨y,hy,hk⟩:=h.obj b _ hb
 obtain ⟨c',rfl,h1,h2⟩:=hk
 exact ⟨c',hy,h1,h2⟩
theorem dA.Yy : ∀ {es:List LT} {b o:Nat} {vs:List Value} {row:List T},aT w I es vs row->bH w b o vs->dA w (fun _ _=>True) I es b o row
 | [],b,o,[],[],_,_=>by unfold dA; rfl
 | e::es,b,o,v::vs,d::ds,h,hc=>by
  unfold dA
  exact ⟨d,ds,v,rfl,trivial,hc.1,h.1,dA.Yy h.2 hc.2⟩
 | [],_,_,_::_,_,h,_=>h.elim
 | [],_,_,[],_::_,h,_=>h.elim
 | _::_,_,_,[],_,h,_=>h.elim
 | _::_,_,_,_::_,[],h,_=>h.elim
theorem bH.of_block {b:Nat} {c:Array Value} {el:TypeId} {fz:Nat×Nat} (hb:Block w b c el fz) : ∀ (vs:List Value) (k:Nat),(∀ j (hj:j<vs.length),c[k+j]? = some vs[j])->bH w b k vs
 | [],_,_=>trivial
 | v::vs,k,h=>by
  refine ⟨?_,bH.of_block hb vs (k+1) fun j hj=>?_⟩
  ·rw [kH hb]; exact (h 0 (by simp))
  ·have:=h (j+1) (by simpa using hj)
   rwa [show k+(j+1)=k+1+j from by omega] at this
theorem bH.get : ∀ {vs:List Value} {b o:Nat},bH w b o vs->∀ j (hj:j<vs.length),cellAt w b (o+j)=some vs[j]
 | [],b,o,_,j,hj=>by simp at hj
 | v::vs,b,o,h,0,hj=>h.1
 | v::vs,b,o,h,j+1,hj=>by
  have:=bH.get h.2 j (by simpa using hj)
  rwa [show o+1+j=o+(j+1) from by omega] at this
theorem aT.take : ∀ {es:List LT} {vs:List Value} {ds:List T} (k:Nat),aT w S es vs ds->aT w S (es.take k) (vs.take k) (ds.take k)
 | es,vs,ds,0,h=>by simp [aT]
 | [],[],[],k+1,h=>trivial
 | _::es,_::vs,_::ds,k+1,h=>⟨h.1,aT.take k h.2⟩
 | [],_::_,_,_+1,h=>h.elim
 | [],[],_::_,_+1,h=>h.elim
 | _::_,[],_,_+1,h=>h.elim
 | _::_,_::_,[],_+1,h=>h.elim
theorem aT.app : ∀ {es es':List LT} {vs vs':List Value} {ds ds':List T},aT w S es vs ds->aT w S es' vs' ds'->aT w S (es++es') (vs++vs') (ds++ds')
 | [],es',[],vs',[],ds',_,h=>h
 | _::_,_,_::_,_,_::_,_,h,h'=>⟨h.1,aT.app h.2 h'⟩
 | [],_,_::_,_,_,_,h,_=>h.elim
 | [],_,[],_,_::_,_,h,_=>h.elim
 | _::_,_,[],_,_,_,h,_=>h.elim
 | _::_,_,_::_,_,[],_,h,_=>h.elim
theorem aT.mono {I I':au} (h : ∀ b o,I b o->I' b o/\cellAt w' b o=cellAt w b o) : ∀ {es:List LT} {vs:List Value} {ds:List T},aT w I es vs ds->aT w' I' es vs ds
 | [],[],[],_=>trivial
 | e::es,v::vs,d::ds,hh=>⟨aG.mono (fun b o hb=>(h b o hb).1) (fun b o hb=>(h b o hb).2) e hh.1,aT.mono h hh.2⟩
 | [],_::_,_,h=>h.elim
 | [],[],_::_,h=>h.elim
 | _::_,[],_,h=>h.elim
 | _::_,_::_,[],h=>h.elim
theorem dA.Ag {S A:au} : ∀ {es:List LT} {vs:List Value} {ds:List T} {b o:Nat},aT w S es vs ds->bH w b o vs->(∀ j,j<vs.length->A b (o+j))->dA w A S es b o ds
 | [],[],[],b,o,_,_,_=>by unfold dA; rfl
 | e::es,v::vs,d::ds,b,o,h,hc,ha=>by
  unfold dA
  exact ⟨d,ds,v,rfl,by simpa using ha 0 (by simp),hc.1,h.1,dA.Ag h.2 hc.2 fun j hj=>by
   have:=ha (j+1) (by simpa using hj)
   rwa [show o+(j+1)=o+1+j from by omega] at this⟩
 | [],_::_,_,_,_,h,_,_=>h.elim
 | [],[],_::_,_,_,h,_,_=>h.elim
 | _::_,[],_,_,_,h,_,_=>h.elim
 | _::_,_::_,[],_,_,h,_,_=>h.elim
end
section
variable {p q:List Value->List T->List Nat->Prop} {sz:Nat}
theorem aK.imp : ∀ {rows:List (List T)} {cs:List Value} {bs:List Nat},(∀ vs ds b',(∀ x∈b',x∈bs)->p vs ds b'->q vs ds b')->aK p sz rows cs bs->aK q sz rows cs bs
 | [],cs,bs,_,h=>h
 | r::rs,cs,bs,hp,h=>by
  obtain ⟨b1,b2,rfl,h1,h2⟩:=h
  exact ⟨b1,b2,rfl,hp _ _ _ (fun x hx=>by simp [hx]) h1,aK.imp (fun vs ds b' hb=>hp vs ds b' fun x hx=>by simp [hb x hx]) h2⟩
theorem aK.get : ∀ {rows:List (List T)} {cs:List Value} {bs:List Nat},aK p sz rows cs bs->∀ i (h:i<rows.length),∃ b',(∀ x∈b',x∈bs)/\p ((cs.drop (i * sz)).take sz) rows[i] b'
 | r::rs,cs,bs,h,0,_=>by
  obtain ⟨b1,b2,rfl,h1,h2⟩:=h
  exact ⟨b1,fun x hx=>by simp [hx],by simpa using h1⟩
 | r::rs,cs,bs,h,i+1,hi=>by
  obtain ⟨b1,b2,rfl,h1,h2⟩:=h
  obtain ⟨b',h3,h4⟩:=aK.get h2 i (by simpa using hi)
  refine ⟨b',fun x hx=>by simp [h3 x hx],?_⟩
  rw [List.drop_drop] at h4
  simpa [Nat.add_mul,Nat.add_comm] using h4
theorem aK.cells : ∀ {rows:List (List T)} {cs cs':List Value} {bs:List Nat},aK p sz rows cs bs->cs'.take (rows.length * sz)=cs.take (rows.length * sz)->aK p sz rows cs' bs
 | [],cs,cs',bs,h,_=>h
 | r::rs,cs,cs',bs,h,he=>by
  obtain ⟨b1,b2,rfl,h1,h2⟩:=h
  have e1:(r::rs).length * sz=sz+rs.length * sz:=by simp only [List.length_cons,Nat.add_mul]; omega
  rw [e1] at he
  refine ⟨b1,b2,rfl,?_,aK.cells h2 ?_⟩
  ·have:=congrArg (List.take sz) he
   rw [List.take_take,List.take_take,Nat.min_eq_left (by omega)] at this
   rw [this]; exact h1
  ·have:=congrArg (List.drop sz) he
   rw [List.drop_take,List.drop_take] at this
   simpa using this
theorem aK.app : ∀ {rows rows':List (List T)} {cs cs':List Value} {b1 b2:List Nat},aK p sz rows cs b1->cs.length=rows.length * sz->aK p sz rows' cs' b2->aK p sz (rows++rows') (cs++cs') (b1++b2)
 | [],rows',cs,cs',b1,b2,h,hn,h'=>by
  have:cs=[]:=List.length_eq_zero_iff.1 (by simpa using hn)
  subst this
  have h:b1=[]:=h
  subst h; exact h'
 | r::rs,rows',cs,cs',b1,b2,h,hn,h'=>by
  obtain ⟨b3,b4,rfl,h1,h2⟩:=h
  simp only [List.length_cons,Nat.add_mul,Nat.one_mul] at hn
  refine ⟨b3,b4++b2,by simp,?_,?_⟩
  ·rw [List.take_append_of_le_length (by omega)]; exact h1
  ·rw [List.drop_append_of_le_length (by omega)]
   exact aK.app h2 (by rw [List.length_drop]; omega) h'
theorem aK.split : ∀ (k:Nat) {rows:List (List T)} {cs:List Value} {bs:List Nat},aK p sz rows cs bs->∃ b1 b2,bs=b1++b2/\aK p sz (rows.take k) cs b1/\aK p sz (rows.drop k) (cs.drop (k * sz)) b2
 | 0,rows,cs,bs,h=>⟨[],bs,rfl,rfl,by simpa using h⟩
 | k+1,[],cs,bs,h=>by
  have h:bs=[]:=h
  subst h
  exact ⟨[],[],rfl,rfl,rfl⟩
 | k+1,r::rs,cs,bs,h=>by
  obtain ⟨b1,b2,rfl,h1,h2⟩:=h
  obtain ⟨b3,b4,rfl,h3,h4⟩:=aK.split k h2
  refine ⟨b1++b3,b4,by simp,⟨b1,b3,rfl,h1,h3⟩,?_⟩
  rw [List.drop_drop] at h4
  simpa [Nat.add_mul,Nat.add_comm] using h4
theorem aK.join : ∀ (k:Nat) {rows:List (List T)} {cs:List Value} {b1 b2:List Nat},k<=rows.length->aK p sz (rows.take k) cs b1->aK p sz (rows.drop k) (cs.drop (k * sz)) b2->aK p sz rows cs (b1++b2)
 | 0,rows,cs,b1,b2,_,h,h'=>by
  have h:b1=[]:=h
  subst h; simpa using h'
 | k+1,[],cs,b1,b2,hk,_,_=>by simp at hk
 | k+1,r::rs,cs,b1,b2,hk,h,h'=>by
  obtain ⟨b3,b4,rfl,h1,h2⟩:=h
  refine ⟨b3,b4++b2,by simp,h1,aK.join k (by simpa using hk) h2 ?_⟩
  rw [List.drop_drop]
  simpa [Nat.add_mul,Nat.add_comm] using h'
theorem aK.set {vs:List Value} {ds:List T} {bn:List Nat} (hp:p vs ds bn) (hv:vs.length=sz) : ∀ {rows:List (List T)} {cs:List Value} {bs:List Nat} (i:Nat),aK p sz rows cs bs->rows.length * sz<=cs.length->i<rows.length ->
  ∃ b1 bo b2,bs=b1++bo++b2/\aK p sz (rows.set i ds) (cs.take (i * sz)++vs++cs.drop (i * sz+sz)) (b1++bn++b2)
 | r::rs,cs,bs,0,h,hn,_=>by
  obtain ⟨bo,b2,rfl,h1,h2⟩:=h
  refine ⟨[],bo,b2,by simp,bn,b2,by simp,?_,?_⟩
  ·simp only [Nat.zero_mul,List.take_zero,List.nil_append,Nat.zero_add]
   rw [List.take_append_of_le_length (by omega),<-hv,List.take_length]; exact hp
  ·simp only [Nat.zero_mul,List.take_zero,List.nil_append,Nat.zero_add]
   rw [List.drop_append_of_le_length (by omega),<-hv,List.drop_length,List.nil_append,hv]; exact h2
 | r::rs,cs,bs,i+1,h,hn,hi=>by
  obtain ⟨b3,b4,rfl,h1,h2⟩:=h
  simp only [List.length_cons,Nat.add_mul,Nat.one_mul] at hn
  obtain ⟨b1,bo,b2,rfl,h3⟩:=aK.set hp hv i h2 (by rw [List.length_drop]; omega) (by simpa using hi)
  have e1:(i+1) * sz=sz+i * sz:=by rw [Nat.add_mul]; omega
  have hm:i * sz+sz<=rs.length * sz:=by
   have:=Nat.mul_le_mul_right sz (show i+1<=rs.length by simp at hi; omega)
   rwa [Nat.add_mul,Nat.one_mul] at this
  refine ⟨b3++b1,bo,b2,by simp,b3,b1++bn++b2,by simp,?_,?_⟩
  ·rw [List.append_assoc,List.take_append_of_le_length (by rw [List.length_take]; omega),List.take_take,Nat.min_eq_left (by omega)]
   exact h1
  ·rw [List.append_assoc,List.drop_append_of_le_length (by rw [List.length_take]; omega),<-List.append_assoc,List.drop_take]
   rw [show (i+1) * sz-sz=i * sz from by omega]
   rw [List.drop_drop] at h3
   rw [show (i+1) * sz+sz=sz+(i * sz+sz) from by omega]
   exact h3
theorem aK.all {r:List Value->List T->Prop} (hp : ∀ vs ds b',p vs ds b'->r vs ds) : ∀ {rows:List (List T)} {cs:List Value} {bs:List Nat},aK p sz rows cs bs->∀ i (h:i<rows.length),r ((cs.drop (i * sz)).take sz) rows[i] :=
 fun h i hi=>by obtain ⟨b',-,h1⟩:=h.get i hi; exact hp _ _ _ h1
end
section
variable {w w':World} {I I' S A:au}
theorem gU {b:Nat} {c:Array Value} {el:TypeId} {fz:Nat×Nat} (h:Block w b c el fz):pJ w b=c.size:=by
 unfold Block at h
 simp [pJ,h]
theorem R7 {bs:List Nat} {b o:Nat} (h:FB w bs b o) : ∃ v,cellAt w b o=some v:=by
 obtain ⟨-,h⟩:=h
 unfold pJ at h
 split at h
 ·rename_i c el fz hb
  exact ⟨c[o],by simp [cellAt,World.cell?,hb,h]⟩
 ·omega
theorem uO (hk:Keeps A w w') {b:Nat} (hb : ∃ c el fz,Block w b c el fz):pJ w' b=pJ w b:=by
 obtain ⟨c,el,fz,hb⟩:=hb
 obtain ⟨c',h1,h2,-⟩:=hk.block hb
 rw [gU h1,gU hb,h2]
theorem qy {bs bs':List Nat} (h : ∀ b∈bs,b∈bs') : ∀ b o,FB w bs b o->FB w bs' b o:=fun b o hb=>⟨h b hb.1,hb.2⟩
theorem kV {bs bs':List Nat} {b o:Nat} : FB w (bs++bs') b o ↔ FB w bs b o\/FB w bs' b o:=by
 unfold FB; rw [List.mem_append]; constructor
 ·rintro ⟨h | h,h'⟩
  ·exact .inl ⟨h,h'⟩
  ·exact .inr ⟨h,h'⟩
 ·rintro (⟨h,h'⟩ | ⟨h,h'⟩)
  ·exact ⟨.inl h,h'⟩
  ·exact ⟨.inr h,h'⟩
theorem Yz {c:Nat} {bs:List Nat} {b o:Nat} : FB w (c::bs) b o ↔ (b=c/\o<pJ w c)\/FB w bs b o:=by
 unfold FB; rw [List.mem_cons]; constructor
 ·rintro ⟨rfl | h,h'⟩
  ·exact .inl ⟨rfl,h'⟩
  ·exact .inr ⟨h,h'⟩
 ·rintro (⟨rfl,h'⟩ | ⟨h,h'⟩)
  ·exact ⟨.inl rfl,h'⟩
  ·exact ⟨.inr h,h'⟩
theorem Dk (hk:Keeps A w w') {bs:List Nat} (hb : ∀ b∈bs,∃ c el fz,Block w b c el fz) (b o:Nat):FB w' bs b o ↔ FB w bs b o:=by
 unfold FB
 constructor
 ·rintro ⟨h1,h2⟩; exact ⟨h1,by rwa [uO hk (hb b h1)] at h2⟩
 ·rintro ⟨h1,h2⟩; exact ⟨h1,by rwa [uO hk (hb b h1)]⟩
theorem jA : ∀ {b1 b2:List Nat},eO w (b1++b2) ↔ eO w b1/\eO w b2 /\ ∀ b∈b1,b∈b2->pJ w b=0
 | [],b2=>by simp [eO]
 | b::b1,b2=>by
  simp only [List.cons_append,eO,jA (b1:=b1),List.mem_append,List.mem_cons]
  constructor
  ·rintro ⟨h1,h2,h3,h4⟩
   exact ⟨⟨fun h=>h1 (.inl h),h2⟩,h3,fun x hx hx2=>hx.elim (fun e=>by subst e; exact h1 (.inr hx2)) fun hx=>h4 x hx hx2⟩
  ·rintro ⟨⟨h1,h2⟩,h3,h4⟩
   exact ⟨fun h=>h.elim h1 (h4 b (.inl rfl)),h2,h3,fun x hx=>h4 x (.inr hx)⟩
theorem uP {b1 b2:List Nat} : au.apart (FB w b1) (FB w b2) ↔ ∀ b∈b1,b∈b2->pJ w b=0:=by
 constructor
 ·intro h b h1 h2
  rcases Nat.eq_zero_or_pos (pJ w b) with h3 | h3
  ·exact h3
  ·exact (h b 0 ⟨h1,h3⟩ ⟨h2,h3⟩).elim
 ·intro h b o h1 h2
  have:=h b h1.1 h2.1
  have:=h1.2
  omega
def Gn (l' l:List Nat):Prop:=∀ b,l'.count b<=l.count b
theorem Gn.refl (l:List Nat):Gn l l:=fun _=>Nat.le_refl _
theorem Gn.trans {l l' l'':List Nat} (h:Gn l l') (h':Gn l' l''):Gn l l'':=fun b=>Nat.le_trans (h b) (h' b)
theorem Gn.mem {l l':List Nat} (h:Gn l' l) {b:Nat} (hb:b∈l'):b∈l:=List.count_pos_iff.1 (Nat.lt_of_lt_of_le (List.count_pos_iff.2 hb) (h b))
theorem Fe : ∀ {bs:List Nat},eO w bs ↔ ∀ b,pJ w b≠0->bs.count b<=1
 | []=>by simp [eO]
 | c::bs=>by
  simp only [eO,Fe (bs:=bs),List.count_cons]
  constructor
  ·rintro ⟨h1,h2⟩ b hb
   have:=h2 b hb
   by_cases hc:c=b
   ·subst hc
    have:bs.count c=0:=List.count_eq_zero.2 fun hm=>hb (h1 hm)
    simp [this]
   ·simp [hc]; exact this
  ·intro h
   refine ⟨fun hm=>?_,fun b hb=>Nat.le_trans (Nat.le_add_right _ _) (h b hb)⟩
   rcases Nat.eq_zero_or_pos (pJ w c) with h1 | h1
   ·exact h1
   ·have h2:=h c (by omega)
    have h3:=List.count_pos_iff.2 hm
    rw [if_pos (by simp)] at h2
    omega
theorem Bb {l l':List Nat} (h:Gn l' l) (hn:eO w l):eO w l':=by
 rw [Fe] at hn ⊢
 exact fun b hb=>Nat.le_trans (h b) (hn b hb)
theorem oW (hk:Keeps A w w') : ∀ {bs:List Nat},(∀ b∈bs,∃ c el fz,Block w b c el fz)->eO w bs->eO w' bs
 | [],_,_=>trivial
 | b::bs,hb,h=>⟨fun hm=>by rw [uO hk (hb b (by simp))]; exact h.1 hm,oW hk (fun x hx=>hb x (by simp [hx])) h.2⟩
theorem ak.len : ∀ (es:List LT) {ms:List M} {vs:List Value} {ds:List T} {bs:List Nat},ak w I es ms vs ds bs->vs.length=es.length/\ds.length=es.length
 | [],_,_,_,_,h=>by unfold ak at h; obtain ⟨rfl,rfl,rfl⟩:=h; exact ⟨rfl,rfl⟩
 | e::es,ms,_,_,_,h=>by
  unfold ak at h
  obtain ⟨v,vs',d,ds',b1,b2,rfl,rfl,rfl,h1,h2⟩:=h
  have:=ak.len es h2
  simp; omega
theorem ak.split : ∀ (k:Nat) {es:List LT} {ms:List M} {vs:List Value} {ds:List T} {bs:List Nat},ak w I es ms vs ds bs ->
  ∃ b1 b2,bs=b1++b2/\ak w I (es.take k) ms (vs.take k) (ds.take k) b1/\ak w I (es.drop k) (ms.drop k) (vs.drop k) (ds.drop k) b2
 | 0,es,ms,vs,ds,bs,h=>⟨[],bs,rfl,by simp only [List.take_zero]; unfold ak; exact ⟨rfl,rfl,rfl⟩,h⟩
 | k+1,[],ms,vs,ds,bs,h=>by
  unfold ak at h
  obtain ⟨rfl,rfl,rfl⟩:=h
  refine ⟨[],[],rfl,?_,?_⟩ <;> simp only [List.take_nil,List.drop_nil] <;> unfold ak <;> exact ⟨rfl,rfl,rfl⟩
 | k+1,e::es,ms,_,_,_,h=>by
  unfold ak at h
  obtain ⟨v,vs',d,ds',b1,b2,rfl,rfl,rfl,h1,h2⟩:=h
  obtain ⟨b3,b4,rfl,h3,h4⟩:=ak.split k h2
  refine ⟨b1++b3,b4,by simp,?_,by simpa using h4⟩
  simp only [List.take_succ_cons]
  unfold ak
  exact ⟨v,_,d,_,b1,b3,rfl,rfl,rfl,h1,h3⟩
theorem ak.join : ∀ {es es':List LT} {ms:List M} {vs vs':List Value} {ds ds':List T} {b1 b2:List Nat},ak w I es ms vs ds b1->ak w I es' (ms.drop es.length) vs' ds' b2 ->
  ak w I (es++es') ms (vs++vs') (ds++ds') (b1++b2)
 | [],es',ms,vs,vs',ds,ds',b1,b2,h,h'=>by
  unfold ak at h
  obtain ⟨rfl,rfl,rfl⟩:=h
  exact h'
 | e::es,es',ms,_,vs',_,ds',_,b2,h,h'=>by
  unfold ak at h
  obtain ⟨v,vs1,d,ds1,b3,b4,rfl,rfl,rfl,h1,h2⟩:=h
  simp only [List.cons_append]
  unfold ak
  exact ⟨v,_,d,_,b3,b4++b2,rfl,rfl,by simp,h1,ak.join h2 (by rw [show ms.tail.drop es.length=ms.drop (e::es).length from by cases ms <;> simp]; exact h')⟩
mutual
theorem bO.leaf (hs : ∀ b o,I b o->S b o) : ∀ (lt:LT) {m:M} {v:Value} {d:T} {bs:List Nat},(∀ b o,FB w bs b o->S b o)->bO w I lt m v d bs->aG w S lt v d
 | .sc s,m,v,d,bs,hG,h=>by unfold bO at h; unfold aG; exact h.1
 | .sl es,.F,v,d,bs,hG,h=>by unfold bO at h; exact aG.mono hs (fun _ _ _=>rfl) _ h.1
 | .sl es,.O ms,v,d,bs,hG,h=>by
  unfold bO at h
  obtain ⟨rows,h1,h2,h3,h4⟩:=h
  unfold aG
  rcases h4 with ⟨⟨aa,rfl⟩,rfl,-⟩ | ⟨b,cap,c,el,fz,bs',rfl,rfl,h5,h6,h7,h8,h9⟩
  ·exact ⟨aa,0,[],h1,rfl,Nat.le_refl _,Nat.zero_le _,.inl rfl⟩
  ·refine ⟨some ⟨b,0,none⟩,cap,rows,h1,rfl,h5,h3,.inr ⟨b,0,rfl,fun i hi=>?_⟩⟩
   rw [Nat.zero_add]
   obtain ⟨b',h10,h11⟩:=h9.get i hi
   have h12:=ak.leaves hs es (fun b o hb=>hG b o (qy (fun x hx=>by simp [h10 x hx]) b o hb)) h11
   have hl:=h12.len.1
   have hm:(i+1) * es.length<=cap * es.length:=Nat.mul_le_mul_right _ (by omega)
   rw [Nat.add_mul,Nat.one_mul,<-h7] at hm
   refine dA.Ag h12 (bH.of_block h6 _ _ fun j hj=>?_) fun j hj=>hG _ _ ⟨by simp,?_⟩
   ·simp only [List.getElem_take,List.getElem_drop,Array.getElem_toList]
    rw [Array.getElem?_eq_getElem (by omega)]
   ·rw [gU h6]; omega
theorem ak.leaves (hs : ∀ b o,I b o->S b o) : ∀ (es:List LT) {ms:List M} {vs:List Value} {ds:List T} {bs:List Nat},(∀ b o,FB w bs b o->S b o)->ak w I es ms vs ds bs->aT w S es vs ds
 | [],ms,vs,ds,bs,hG,h=>by unfold ak at h; obtain ⟨rfl,rfl,rfl⟩:=h; trivial
 | e::es,ms,vs,ds,bs,hG,h=>by
  unfold ak at h
  obtain ⟨v,vs',d,ds',b1,b2,rfl,rfl,rfl,h1,h2⟩:=h
  exact ⟨bO.leaf hs e (fun b o hb=>hG b o (kV.2 (.inl hb))) h1,ak.leaves hs es (fun b o hb=>hG b o (kV.2 (.inr hb))) h2⟩
end
mutual
theorem bO.blocks : ∀ (lt:LT) {m:M} {v:Value} {d:T} {bs:List Nat},bO w I lt m v d bs->∀ b∈bs,∃ c el fz,Block w b c el fz
 | .sc s,m,v,d,bs,h=>by unfold bO at h; rw [h.2]; simp
 | .sl es,.F,v,d,bs,h=>by unfold bO at h; rw [h.2]; simp
 | .sl es,.O ms,v,d,bs,h=>by
  unfold bO at h
  obtain ⟨rows,h1,h2,h3,h4⟩:=h
  rcases h4 with ⟨-,rfl,rfl⟩ | ⟨b,cap,c,el,fz,bs',rfl,rfl,h5,h6,h7,h8,h9⟩
  ·simp
  ·intro x hx
   rcases List.mem_cons.1 hx with rfl | hx
   ·exact ⟨c,el,fz,h6⟩
   ·exact mR (fun vs ds bs h=>ak.blocks es h) rows h9 x hx
theorem ak.blocks : ∀ (es:List LT) {ms:List M} {vs:List Value} {ds:List T} {bs:List Nat},ak w I es ms vs ds bs->∀ b∈bs,∃ c el fz,Block w b c el fz
 | [],ms,vs,ds,bs,h=>by unfold ak at h; rw [h.2.2]; simp
 | e::es,ms,vs,ds,bs,h=>by
  unfold ak at h
  obtain ⟨v,vs',d,ds',b1,b2,rfl,rfl,rfl,h1,h2⟩:=h
  intro x hx
  rcases List.mem_append.1 hx with hx | hx
  ·exact bO.blocks e h1 x hx
  ·exact ak.blocks es h2 x hx
theorem mR {p:List Value->List T->List Nat->Prop} {sz:Nat} (hp : ∀ vs ds bs,p vs ds bs->∀ b∈bs,∃ c el fz,Block w b c el fz) : ∀ (rows:List (List T)) {cs:List Value} {bs:List Nat},aK p sz rows cs bs->∀ b∈bs,∃ c el fz,Block w b c el fz
 | [],cs,bs,h=>by have h:bs=[]:=h; subst h; simp
 | r::rs,cs,bs,h=>by
  obtain ⟨b1,b2,rfl,h1,h2⟩:=h
  intro x hx
  rcases List.mem_append.1 hx with hx | hx
  ·exact hp _ _ _ h1 x hx
  ·exact mR hp rs h2 x hx
end
mutual
theorem bO.keep (hk:Keeps A w w') (hI : ∀ b o,I b o->I' b o/\cellAt w' b o=cellAt w b o) : ∀ (lt:LT) {m:M} {v:Value} {d:T} {bs:List Nat},(∀ b o,FB w bs b o->A b o)->bO w I lt m v d bs->bO w' I' lt m v d bs
 | .sc s,m,v,d,bs,hA,h=>by unfold bO at *; exact h
 | .sl es,.F,v,d,bs,hA,h=>by unfold bO at h ⊢; exact ⟨aG.mono (fun b o h=>(hI b o h).1) (fun b o h=>(hI b o h).2) _ h.1,h.2⟩
 | .sl es,.O ms,v,d,bs,hA,h=>by
  unfold bO at h ⊢
  obtain ⟨rows,h1,h2,h3,h4⟩:=h
  refine ⟨rows,h1,h2,h3,?_⟩
  rcases h4 with h4 | ⟨b,cap,c,el,fz,bs',rfl,rfl,h5,h6,h7,h8,h9⟩
  ·exact .inl h4
  ·right
   obtain ⟨c',hb,hsz,hcc⟩:=hk.block h6
   have e:c'=c:=by
    apply Array.ext hsz
    intro i hi1 hi2
    have:=hcc i (hA _ _ ⟨by simp,by rw [gU h6]; exact hi2⟩)
    rw [Array.getElem?_eq_getElem hi1,Array.getElem?_eq_getElem hi2] at this
    exact Option.some.inj this
   subst e
   refine ⟨b,cap,c',el,fz,bs',rfl,rfl,h5,hb,h7,h8,aK.imp (fun vs ds b' hb' h=>?_) h9⟩
   exact ak.keep hk hI es (fun b o hb=>hA b o (qy (fun x hx=>by simp [hb' x hx]) b o hb)) h
theorem ak.keep (hk:Keeps A w w') (hI : ∀ b o,I b o->I' b o/\cellAt w' b o=cellAt w b o) : ∀ (es:List LT) {ms:List M} {vs:List Value} {ds:List T} {bs:List Nat},(∀ b o,FB w bs b o->A b o)->ak w I es ms vs ds bs->ak w' I' es ms vs ds bs
 | [],ms,vs,ds,bs,hA,h=>by unfold ak at *; exact h
 | e::es,ms,vs,ds,bs,hA,h=>by
  unfold ak at h ⊢
  obtain ⟨v,vs',d,ds',b1,b2,rfl,rfl,rfl,h1,h2⟩:=h
  exact ⟨v,vs',d,ds',b1,b2,rfl,rfl,rfl,bO.keep hk hI e (fun b o hb=>hA b o (kV.2 (.inl hb))) h1,ak.keep hk hI es (fun b o hb=>hA b o (kV.2 (.inr hb))) h2⟩
end
theorem bO.same {lt:LT} {m:M} {v:Value} {d:T} {bs:List Nat} (hI : ∀ b o,I b o->I' b o) (h:bO w I lt m v d bs):bO w I' lt m v d bs :=
 bO.keep (Keeps.refl (fun _ _=>True) w) (fun b o hb=>⟨hI b o hb,rfl⟩) lt (fun _ _ _=>trivial) h
theorem ak.same {es:List LT} {ms:List M} {vs:List Value} {ds:List T} {bs:List Nat} (hI : ∀ b o,I b o->I' b o) (h:ak w I es ms vs ds bs):ak w I' es ms vs ds bs :=
 ak.keep (Keeps.refl (fun _ _=>True) w) (fun b o hb=>⟨hI b o hb,rfl⟩) es (fun _ _ _=>trivial) h
theorem bO.single {lt:LT} {m:M} {v:Value} {d:T} {bs:List Nat} (h:bO w I lt m v d bs):Single v :=
 (bO.leaf (S:=fun _ _=>True) (fun _ _ _=>trivial) lt (fun _ _ _=>trivial) h).single
theorem wV {ms:List M} (j:Nat):ms.tail.getD j .F=ms.getD (j+1) .F:=by cases ms <;> simp [List.getD]
theorem ak.each : ∀ {es:List LT} {ms:List M} {vs:List Value} {ds:List T} {bs:List Nat},ak w I es ms vs ds bs->∃ Bs:List (List Nat),Bs.length=es.length/\bs=Bs.flatten /\
  ∀ j (h:j<es.length),bO w I es[j] (ms.getD j .F) (vs.getD j .nilIface) (ds.getD j dflt) (Bs.getD j [])
 | [],ms,_,_,_,h=>by
  unfold ak at h
  obtain ⟨rfl,rfl,rfl⟩:=h
  exact ⟨[],rfl,rfl,fun j h=>by simp at h⟩
 | e::es,ms,_,_,_,h=>by
  unfold ak at h
  obtain ⟨v,vs',d,ds',b1,b2,rfl,rfl,rfl,h1,h2⟩:=h
  obtain ⟨Bs,h3,rfl,h4⟩:=ak.each h2
  refine ⟨b1::Bs,by simp [h3],by simp,fun j hj=>?_⟩
  cases j with
  | zero=>cases ms <;> simpa using h1
  | succ j =>
   have:=h4 j (by simpa using hj)
   rw [wV] at this
   simpa using this
theorem Ui {ms:List M} (h:ZA ms):ms.headD .F = .F:=by
 cases ms with
 | nil=>rfl
 | cons m ms=>cases m with
  | F=>rfl
  | O x=>exact absurd rfl (h (.O x) (by simp) x)
theorem Uj {ms:List M} (h:ZA ms):ZA ms.tail:=fun m hm=>h m (List.mem_of_mem_tail hm)
theorem ak.flat : ∀ (es:List LT) {ms:List M} {vs:List Value} {ds:List T} {bs:List Nat},ZA ms->ak w I es ms vs ds bs->bs=[]/\aT w I es vs ds
 | [],ms,vs,ds,bs,hm,h=>by unfold ak at h; obtain ⟨rfl,rfl,rfl⟩:=h; exact ⟨rfl,trivial⟩
 | e::es,ms,vs,ds,bs,hm,h=>by
  unfold ak at h
  obtain ⟨v,vs',d,ds',b1,b2,rfl,rfl,rfl,h1,h2⟩:=h
  obtain ⟨rfl,h3⟩:=ak.flat es (Uj hm) h2
  rw [Ui hm] at h1
  cases e with
  | sc s=>unfold bO at h1; obtain ⟨h4,rfl⟩:=h1; exact ⟨rfl,by unfold aG; exact h4,h3⟩
  | sl es'=>unfold bO at h1; obtain ⟨h4,rfl⟩:=h1; exact ⟨rfl,h4,h3⟩
theorem ak.of_flat : ∀ {es:List LT} {ms:List M} {vs:List Value} {ds:List T},ZA ms->aT w I es vs ds->ak w I es ms vs ds []
 | [],ms,[],[],hm,h=>by unfold ak; exact ⟨rfl,rfl,rfl⟩
 | e::es,ms,v::vs,d::ds,hm,h=>by
  unfold ak
  refine ⟨v,vs,d,ds,[],[],rfl,rfl,rfl,?_,ak.of_flat (Uj hm) h.2⟩
  rw [Ui hm]
  have h1:=h.1
  cases e with
  | sc s=>unfold bO; unfold aG at h1; exact ⟨h1,rfl⟩
  | sl es'=>unfold bO; exact ⟨h1,rfl⟩
 | [],_,_::_,_,_,h=>h.elim
 | [],_,[],_::_,_,h=>h.elim
 | _::_,_,[],_,_,h=>h.elim
 | _::_,_,_::_,[],_,h=>h.elim
theorem Ah {es:List LT} {ms:List M} {sz:Nat} (hm:ZA ms) : ∀ {rows:List (List T)} {cs:List Value} {bs:List Nat},aK (fun vs ds bs=>ak w I es ms vs ds bs) sz rows cs bs->bs=[]
 | [],cs,bs,h=>h
 | r::rs,cs,bs,h=>by
  obtain ⟨b1,b2,rfl,h1,h2⟩:=h
  rw [(ak.flat es hm h1).1,Ah hm h2]; rfl
theorem aS.cases {es:List LT} {ms:List M} {rows:List (List T)} {h:Value} {F:au} (hr:aS w I es ms rows h F):es≠[]/\rows.length<=bA /\
  (((∃ a,h = .slice a 0 0)/\rows=[] /\ ∀ b o,¬ F b o) \/
  ∃ b cap c el fz bs,h = .slice (some ⟨b,0,none⟩) rows.length cap/\rows.length<=cap/\Block w b c el fz/\c.size=cap * es.length/\(∀ o,o<=c.size->¬ (fz.1<=o/\o<fz.2)) /\
   aK (fun vs ds bs=>ak w I es ms vs ds bs) es.length rows c.toList bs/\eO w (b::bs) /\ ∀ b' o,F b' o ↔ (b'=b/\o<c.size)\/FB w bs b' o):=by
 obtain ⟨bs,hn,hc,hF⟩:=hr
 unfold bO at hc
 obtain ⟨rows',h1,h2,h3,h4⟩:=hc
 cases h1
 refine ⟨h2,h3,?_⟩
 rcases h4 with ⟨h4,rfl,rfl⟩ | ⟨b,cap,c,el,fz,bs',rfl,rfl,h5,h6,h7,h8,h9⟩
 ·exact .inl ⟨h4,rfl,fun b o hb=>by have:=((hF b o).1 hb).1; cases this⟩
 ·exact .inr ⟨b,cap,c,el,fz,bs',rfl,h5,h6,h7,h8,h9,hn,fun b' o=>by rw [hF b' o,Yz,gU h6]⟩
theorem aS.nil {es:List LT} {ms:List M} {F:au} {aa:Option Addr} (hes:es≠[]) (hF : ∀ b o,¬ F b o):aS w I es ms [] (.slice aa 0 0) F :=
 ⟨[],trivial,by unfold bO; exact ⟨[],rfl,hes,Nat.zero_le _,.inl ⟨⟨_,rfl⟩,rfl,rfl⟩⟩,fun b o=>⟨fun h=>(hF b o h).elim,fun h=>by have:=h.1; cases this⟩⟩
theorem aS.mk' {es:List LT} {ms:List M} {rows:List (List T)} {F:au} {b cap:Nat} {c:Array Value} {el:TypeId} {fz:Nat×Nat} {bs:List Nat} (hes:es≠[]) (h1:rows.length<=bA) (h2:rows.length<=cap) (h3:Block w b c el fz)
  (h4:c.size=cap * es.length) (h5 : ∀ o,o<=c.size->¬ (fz.1<=o/\o<fz.2)) (h6:aK (fun vs ds bs=>ak w I es ms vs ds bs) es.length rows c.toList bs) (h7:eO w (b::bs))
  (h8 : ∀ b' o,F b' o ↔ (b'=b/\o<c.size)\/FB w bs b' o):aS w I es ms rows (.slice (some ⟨b,0,none⟩) rows.length cap) F :=
 ⟨b::bs,h7,by unfold bO; exact ⟨rows,rfl,hes,h1,.inr ⟨b,cap,c,el,fz,bs,rfl,rfl,h2,h3,h4,h5,h6⟩⟩,fun b' o=>by rw [h8,Yz,gU h3]⟩
theorem aS.leaf {es:List LT} {ms:List M} {rows:List (List T)} {h:Value} {F:au} (hr:aS w I es ms rows h F) (hs : ∀ b o,I b o->S b o) (hf : ∀ b o,F b o->S b o) :
  aG w S (.sl es) h (.l rows):=by
 obtain ⟨bs,hn,hc,hF⟩:=hr
 exact bO.leaf hs _ (fun b o hb=>hf b o ((hF b o).2 hb)) hc
theorem aS.keep {es:List LT} {ms:List M} {rows:List (List T)} {h:Value} {F:au} (hr:aS w I es ms rows h F) (hk:Keeps A w w') (hA : ∀ b o,F b o->A b o)
  (hI : ∀ b o,I b o->I' b o/\cellAt w' b o=cellAt w b o):aS w' I' es ms rows h F:=by
 obtain ⟨bs,hn,hc,hF⟩:=hr
 exact ⟨bs,oW hk (bO.blocks _ hc) hn,bO.keep hk hI _ (fun b o hb=>hA b o ((hF b o).2 hb)) hc,fun b o=>(hF b o).trans (Dk hk (bO.blocks _ hc) b o).symm⟩
theorem aS.same {es:List LT} {ms:List M} {rows:List (List T)} {h:Value} {F:au} (hs : ∀ b o,I b o->I' b o) (hr:aS w I es ms rows h F):aS w I' es ms rows h F :=
 hr.keep (Keeps.refl (fun _ _=>True) w) (fun _ _ _=>trivial) fun b o hb=>⟨hs b o hb,rfl⟩
theorem aS.cell {es:List LT} {ms:List M} {rows:List (List T)} {h:Value} {F:au} (hr:aS w I es ms rows h F) {b o:Nat} (hf:F b o) : ∃ v,cellAt w b o=some v:=by
 obtain ⟨bs,hn,hc,hF⟩:=hr
 exact R7 ((hF b o).1 hf)
theorem aS.row {es:List LT} {ms:List M} {rows:List (List T)} {h:Value} {F:au} (hr:aS w I es ms rows h F) {r:Nat} (h5:r<rows.length) :
  ∃ b cap vs bs,h = .slice (some ⟨b,0,none⟩) rows.length cap/\bH w b (r * es.length) vs/\ak w I es ms vs rows[r] bs/\(∀ b' o,FB w bs b' o->F b' o)/\(∀ j,j<es.length->F b (r * es.length+j)):=by
 obtain ⟨-,-,hown⟩:=hr.cases
 rcases hown with ⟨-,rfl,-⟩ | ⟨b,cap,c,el,fz,bs,rfl,h6,h7,h8,h9,h10,h11,h12⟩
 ·simp at h5
 ·obtain ⟨b',h13,h14⟩:=h10.get r h5
  have hl:=ak.len es h14
  have hm:(r+1) * es.length<=cap * es.length:=Nat.mul_le_mul_right _ (by omega)
  rw [Nat.add_mul,Nat.one_mul,<-h8] at hm
  refine ⟨b,cap,_,b',rfl,bH.of_block h7 _ _ fun j hj=>?_,h14,fun b'' o hb=>(h12 b'' o).2 (.inr (qy h13 b'' o hb)),fun j hj=>(h12 _ _).2 (.inl ⟨rfl,by omega⟩)⟩
  simp only [List.getElem_take,List.getElem_drop,Array.getElem_toList]
  rw [Array.getElem?_eq_getElem (by omega)]
end
section
variable {w:World}
theorem Ai {Bs:List (List Nat)} {j b:Nat} (h:b∈Bs.getD j []):b∈Bs.flatten:=by
 rw [List.getD] at h
 cases hj:Bs[j]? with
 | none=>rw [hj] at h; cases h
 | some l=>rw [hj] at h; exact List.mem_flatten.2 ⟨l,List.mem_of_getElem? hj,h⟩
theorem Mv : ∀ {Bs:List (List Nat)},eO w Bs.flatten->∀ j,eO w (Bs.getD j [])
 | [],_,j=>by simp [eO]
 | l::Bs,h,j=>by
  simp only [List.flatten_cons] at h
  obtain ⟨h1,h2,-⟩:=jA.1 h
  cases j with
  | zero=>simpa using h1
  | succ j=>simpa using Mv h2 j
theorem Mw : ∀ {Bs:List (List Nat)},eO w Bs.flatten->∀ i j,i≠j->au.apart (FB w (Bs.getD i [])) (FB w (Bs.getD j []))
 | [],_,i,j,_=>fun b o h _=>by simp [FB] at h
 | l::Bs,h,i,j,hij=>by
  simp only [List.flatten_cons] at h
  obtain ⟨h1,h2,h3⟩:=jA.1 h
  have key : ∀ j,au.apart (FB w l) (FB w (Bs.getD j [])):=fun j=>fun b o h4 h5=>uP.2 h3 b o h4 (qy (fun x hx=>Ai hx) b o h5)
  cases i with
  | zero =>
   cases j with
   | zero=>exact absurd rfl hij
   | succ j=>simpa using key j
  | succ i =>
   cases j with
   | zero=>exact fun b o h4 h5=>key i b o (by simpa using h5) (by simpa using h4)
   | succ j=>simpa using Mw h2 i j (by omega)
end
mutual
theorem M.beq_eq : ∀ {a b:M},M.beq a b=true->a=b
 | .F,.F,_=>rfl
 | .O a,.O b,h=>congrArg M.O (M.bI (a:=a) (b:=b) (by simpa [M.beq] using h))
 | .F,.O _,h=>by simp [M.beq] at h
 | .O _,.F,h=>by simp [M.beq] at h
theorem M.bI : ∀ {a b:List M},M.dQ a b=true->a=b
 | [],[],_=>rfl
 | a::az,b::bs,h=>by
  simp only [M.dQ,Bool.and_eq_true] at h
  rw [M.beq_eq h.1,M.bI h.2]
 | [],_::_,h=>by simp [M.dQ] at h
 | _::_,[],h=>by simp [M.dQ] at h
end
theorem xC {ms:List M} (h:LU ms=true):ZA ms:=by
 intro m hm x e
 have:=List.all_eq_true.1 h m hm
 subst e
 simp at this
end Go.E

namespace Go.E
open Go
section
variable {w:World} {I S A:au}
end
section
variable {Γ:Ctx} {P:Program} {cf:FuncId->List Arg->R3 fE}
variable {n:Fr} {σ:S} {g:Gh} {I:au} {a:Act} {w:World}
variable {o:Oper} {f:FuncId} {tr:Tr} {Q:S->Tr->Prop} {K:Act->World->Prop} {Qm:Exit->Act->World->Prop}
theorem lQ (κ:Key->KE) : ∀ b o,I b o->cu κ g I [] b o:=fun _ _ h=>.inl h
theorem Gp (κ:Key->KE):Cur κ []:=fun _ h=>(nomatch h)
theorem rz (κ:Key->KE):Old κ []:=fun _ h=>(nomatch h)
theorem Mx (hR:R n σ g I a w) {l:Leaf} {v:Value} {k:List LT->List (List T)->List AV->Prog} (hl:CP σ.k g w I l v) (h:(vC l k).wp cf σ tr Q) :
  ∃ es rows deps dn,(k es rows deps).wp cf σ dn Q/\aG w (cu σ.k g I deps) (.sl es) v (.l rows)/\Cur σ.k deps/\Old σ.k deps /\ ∀ d∈deps,d.1∈uM l:=by
 obtain ⟨st,lt,d⟩:=l
 obtain ⟨hs,hl⟩:=hl
 unfold vC at h
 simp only at h hl
 cases lt with
 | sc s=>cases st <;> exact h.elim
 | sl es =>
  cases st with
  | sc=>exact h.elim
  | dead=>exact h.elim
  | nl =>
   obtain ⟨-,rfl,rfl⟩:=hl
   refine ⟨es,[],[],tr,h,?_,Gp _,rz _,fun _ h=>(nomatch h)⟩
   unfold aG
   exact ⟨none,0,[],rfl,rfl,Nat.le_refl _,Nat.zero_le _,.inl rfl⟩
  | sn ds =>
   obtain ⟨-,h1,h2⟩:=hl
   obtain ⟨h3,dn,h4⟩:=qI h
   have h5:=h2 h3
   obtain ⟨x,y,rows,rfl,h6⟩:=by unfold aG at h5; exact h5
   exact ⟨es,_,ds,dn,h4,h2 h3,h3,h1,fun d hd=>List.mem_map.2 ⟨d,hd,rfl⟩⟩
  | sb key m cv r off =>
   obtain ⟨-,-,h1,h2⟩:=hl
   obtain ⟨h3,dn,h4⟩:=qI h
   have h5:=(h2 h3).1
   obtain ⟨x,y,rows,rfl,h6⟩:=by unfold aG at h5; exact h5
   exact ⟨es,_,[(key,cv)],dn,h4,(h2 h3).1,h3,h1,fun d hd=>by rw [List.mem_singleton.1 hd]; exact List.mem_singleton.2 rfl⟩
  | al key m =>
   obtain ⟨-,h1,h2⟩:=hl
   obtain ⟨h3,h⟩:=h
   have h4:=h2 (Nat.eq_of_beq_eq_true h3)
   subst h4
   have hch:=hR.sj key
   split at h
   ·rename_i es' ms rows e
    rw [e] at hch
    refine ⟨es',rows,_,_,h,aS.leaf hch (fun _ _ h=>.inl h) (fun b o' hf=>.inr ⟨_,List.mem_singleton.2 rfl,.inr ⟨by simp only [e]; trivial,hf⟩⟩),?_,?_,fun d hd=>by rw [List.mem_singleton.1 hd]; exact List.mem_singleton.2 rfl⟩
    ·intro d hd; rw [List.mem_singleton.1 hd]
    ·intro d hd; rw [List.mem_singleton.1 hd]; exact Nat.le_refl _
   ·rename_i es' rows e
    rw [e] at hch
    exact ⟨es',rows,[],_,h,aG.mono (lQ _) (fun _ _ _=>rfl) _ hch,Gp _,rz _,fun _ h=>(nomatch h)⟩
   ·exact h.elim
theorem oZ (hR:R n σ g I a w) {l:Leaf} {v:Value} {k:List LT->List (List T)->List AV->Prog} (hl:CP σ.k g w I l v) (h:(vC l k).wp cf σ tr Q) :
  ∃ es rows deps dn,(k es rows deps).wp cf σ dn Q/\aG w (cu σ.k g I deps) (.sl es) v (.l rows)/\Cur σ.k deps/\Old σ.k deps:=by
 obtain ⟨es,rows,deps,dn,h1,h2,h3,h4,-⟩:=Mx hR hl h
 exact ⟨es,rows,deps,dn,h1,h2,h3,h4⟩
end
end Go.E

namespace Go.E
open Go
section
variable {P:Program} {w:World} {I S A:au}
theorem addr_add (b o k:Nat):Addr.add ⟨b,o,none⟩ k=⟨b,o+k,none⟩:=by
 unfold Addr.add
 split
 ·rename_i h; subst h; rfl
 ·rfl
theorem run_load {b o:Nat} {v:Value} (h:cellAt w b o=some v):(load ⟨b,o,none⟩).run P w = .ok v w:=by
 unfold cellAt at h
 simp [load,Sem.run,h]
theorem run_loadCellsFrom {b o:Nat} : ∀ (vs:List Value) (i:Nat) (acc:Array Value),bH w b (o+i) vs ->
  (loadCellsFrom ⟨b,o,none⟩ i vs.length acc).run P w = .ok (acc++vs.toArray) w
 | [],i,acc,h=>by simp [loadCellsFrom]
 | v::vs,i,acc,h=>by
  simp only [List.length_cons,loadCellsFrom,Sem.run_bind,addr_add,run_load h.1,Result.andThen_ok]
  rw [run_loadCellsFrom vs (i+1) (acc.push v) (by have:=h.2; rwa [show o+i+1=o+(i+1) from by omega] at this)]
  simp
theorem run_loadCells {b o:Nat} {vs:List Value} (h:bH w b o vs):(loadCells ⟨b,o,none⟩ vs.length).run P w = .ok vs.toArray w:=by
 unfold loadCells
 rw [run_loadCellsFrom vs 0 #[] (by simpa using h)]
 simp
end
section
variable {Γ:Ctx} {P:Program} {w:World}
theorem Ed {t:TypeId} {ti:TI} (h:sK Γ P t ti):(isAgg t).run P w = .ok (wY ti.kind) w:=by
 obtain ⟨d,h1,h2⟩:=h.und
 simp only [isAgg,Sem.run_bind,run_underlying h1,Result.andThen_ok]
 cases hk:ti.kind with
 | sc s=>rw [hk] at h2; cases s <;> first | (obtain ⟨rfl,-⟩:=h2; rfl) | exact h2.elim
 | slice e=>rw [hk] at h2; obtain ⟨rfl,-⟩:=h2; rfl
 | struct fs=>rw [hk] at h2; obtain ⟨fields,rfl,-⟩:=h2; rfl
 | array m e=>rw [hk] at h2; cases h2; rfl
 | ptr e=>rw [hk] at h2; obtain ⟨rfl,-⟩:=h2; rfl
 | other =>
  rw [hk] at h2
  cases d <;> first | rfl | exact absurd rfl (h2.1 _) | exact absurd rfl (h2.2.1 _ _)
theorem run_sizeOf {t:TypeId} {ti:TI} (h:sK Γ P t ti):(sizeOf t).run P w = .ok ti.aO.length w:=by
 obtain ⟨i,h1,h2,-⟩:=h.info
 simp [sizeOf,typeInfo,h1,h2,go_sem]
theorem yI {t:TypeId} {ti:TI} (h:sK Γ P t ti) {b o:Nat} {vs:List Value} (hv:bH w b o vs) (hn:vs.length=ti.aO.length) :
  (wY ti.kind=true->(loadVar t ⟨b,o,none⟩).run P w = .ok (.agg vs.toArray) w) /\
  (wY ti.kind=false->∀ v,vs=[v]->(loadVar t ⟨b,o,none⟩).run P w = .ok v w):=by
 constructor
 ·intro ha
  simp only [loadVar,Sem.run_bind,Ed h,ha,Result.andThen_ok,if_true,run_sizeOf h]
  rw [<-hn]
  simp [run_loadCells hv]
 ·rintro ha v rfl
  simp only [loadVar,Sem.run_bind,Ed h,ha,Result.andThen_ok,Bool.false_eq_true,if_false]
  exact run_load hv.1
theorem Fg {t:TypeId} {ti:TI} (h:sK Γ P t ti) (ha:wY ti.kind=false):ti.aO.length=1:=by
 obtain ⟨d,h1,h2⟩:=h.und
 cases hk:ti.kind with
 | sc s=>rw [hk] at h2; cases s <;> first | (rw [h2.2]; rfl) | exact h2.elim
 | slice e=>rw [hk] at h2; obtain ⟨-,te,-,h3,-⟩:=h2; rw [h3]; rfl
 | struct fs=>rw [hk] at ha; cases ha
 | array m e=>rw [hk] at ha; cases ha
 | ptr e=>rw [hk] at h2; rw [h2.2]; rfl
 | other=>rw [hk] at h2; rw [h2.2.2]; rfl
theorem JA {ρ:Operand->Value} {o:Oper} {t:TypeId} {x:Operand} {b o':Nat} {v:Value} (hop:o.op = .load t x) (hx:ρ x = .pointer (some ⟨b,o',none⟩))
  (h:(loadVar t ⟨b,o',none⟩).run P w = .ok v w):(execOp ρ o).run P w = .ok (.value v) w:=by
 have h1:(Instr.loadAt t (ρ x)).run P w = .ok v w:=by
  simp only [Instr.loadAt,hx,Instr.sureAddr,pure_bind]
  exact h
 simp only [execOp,hop]
 rw [Sem.run_bind,h1]
 rfl
end
section
variable {Γ:Ctx} {P:Program} {cf:FuncId->List Arg->R3 fE}
variable {n:Fr} {σ:S} {g:Gh} {I:au} {a:Act} {w:World}
variable {o:Oper} {f:FuncId} {tr:Tr} {Q:S->Tr->Prop} {K:Act->World->Prop} {Qm:Exit->Act->World->Prop}
theorem bW.drop {κ:Key->KE} : ∀ {ls:List Leaf} {vs:List Value} (k:Nat),bW κ g w I ls vs->bW κ g w I (ls.drop k) (vs.drop k)
 | ls,vs,0,h=>h
 | [],[],k+1,h=>trivial
 | _::ls,_::vs,k+1,h=>bW.drop k h.2
 | [],_::_,_+1,h=>h.elim
 | _::_,[],_+1,h=>h.elim
theorem bW.take {κ:Key->KE} : ∀ {ls:List Leaf} {vs:List Value} (k:Nat),bW κ g w I ls vs->bW κ g w I (ls.take k) (vs.take k)
 | ls,vs,0,h=>trivial
 | [],[],k+1,h=>trivial
 | _::ls,_::vs,k+1,h=>⟨h.1,bW.take k h.2⟩
 | [],_::_,_+1,h=>h.elim
 | _::_,[],_+1,h=>h.elim
theorem bW.len {κ:Key->KE} : ∀ {ls:List Leaf} {vs:List Value},bW κ g w I ls vs->vs.length=ls.length
 | [],[],h=>rfl
 | _::ls,_::vs,h=>by have:=bW.len h.2; simp; omega
 | [],_::_,h=>h.elim
 | _::_,[],h=>h.elim
theorem Qd {κ:Key->KE} {deps:List AV} {lt:LT} {v:Value} {d:T} (ho:Old κ deps) (hi : ∀ b o,I b o->cu κ g I deps b o)
  (h:aG w (cu κ g I deps) lt v d):CP κ g w I (Xa deps lt d) v:=by
 unfold Xa
 cases lt with
 | sl es=>exact ⟨h.single,trivial,ho,fun _=>h⟩
 | sc s=>refine ⟨h.single,s,rfl,?_⟩; unfold aG at h; exact h
theorem Fh {κ:Key->KE} {S:au} {mk:LT->T->Leaf} (hmk : ∀ lt v d,aG w S lt v d->CP κ g w I (mk lt d) v) :
  ∀ (size:Nat) {es:List LT} {vs:List Value} {ds:List T},aT w S es vs ds->size<=es.length ->
  bW κ g w I ((List.range size).map fun j=>mk (es.getD j default) (ds.getD j dflt)) (vs.take size)
 | 0,es,vs,ds,h,hn=>trivial
 | size+1,[],_,_,h,hn=>by simp at hn
 | size+1,e::es,[],ds,h,hn=>h.elim
 | size+1,e::es,v::vs,[],h,hn=>h.elim
 | size+1,e::es,v::vs,d::ds,h,hn=>by
  rw [List.range_succ_eq_map,List.map_cons,List.map_map]
  exact ⟨hmk _ _ _ h.1,Fh hmk size h.2 (by simpa using hn)⟩
theorem getD_drop {α:Type} (l:List α) (k j:Nat) (d:α):(l.drop k).getD j d=l.getD (k+j) d:=by
 simp [List.getD,List.getElem?_drop]
theorem Uk {κ:Key->KE} {key:Key} {r off:Nat} {lt:LT} {m:M} {v:Value} {d:T} {bs:List Nat} (hl:Live (κ key).ch) (hb : ∀ b o,FB w bs b o->g.F key b o)
  (hloc : ∃ b o,addrIn (kR (κ key).ch) (g.h key) r off=some (b,o)/\cellAt w b o=some v/\g.F key b o) (h:bO w I lt m v d bs) :
  CP κ g w I (F4 key (κ key).bK (κ key).cv r off lt m d) v:=by
 have hs:=h.single
 unfold F4
 cases lt with
 | sc s =>
  unfold bO at h
  cases m <;> exact ⟨hs,s,rfl,h.1⟩
 | sl es =>
  cases m with
  | F =>
   unfold bO at h
   exact ⟨hs,trivial,rz _,fun _=>aG.mono (lQ _) (fun _ _ _=>rfl) _ h.1⟩
  | O x =>
   have Ul : ∀ b o,g.F key b o->cu κ g I [(key,(κ key).cv)] b o:=fun b o hf=>.inr ⟨_,List.mem_singleton.2 rfl,.inr ⟨hl,hf⟩⟩
   refine ⟨hs,trivial,Nat.le_refl _,fun d hd=>by rw [List.mem_singleton.1 hd]; exact Nat.le_refl _,fun _=>⟨bO.leaf (fun b o hi=>.inl hi) _ (fun b o hf=>Ul b o (hb b o hf)) h,fun _=>?_⟩⟩
   obtain ⟨b,o,h1,h2,h3⟩:=hloc
   exact ⟨b,o,h1,h2,Ul b o h3⟩
theorem R8 {κ:Key->KE} {key:Key} {r off size b o0:Nat} {es:List LT} {ms:List M} {row:List T} {vs:List Value} {bs:List Nat} (hl:Live (κ key).ch) (hb : ∀ b o,FB w bs b o->g.F key b o)
  (hloc : ∀ j,j<es.length->addrIn (kR (κ key).ch) (g.h key) r j=some (b,o0+j)/\g.F key b (o0+j)) (hc:bH w b o0 vs)
  (h:ak w I es ms vs row bs) (hn:off+size<=es.length):bW κ g w I (Ir key (κ key).bK (κ key).cv r off size es ms row) ((vs.drop off).take size):=by
 have aux : ∀ (size k:Nat) (es:List LT) (ms:List M) (vs:List Value) (ds:List T) (bs:List Nat),ak w I es ms vs ds bs->(∀ b o,FB w bs b o->g.F key b o) ->
   (∀ j v,vs[j]? = some v->∃ b o,addrIn (kR (κ key).ch) (g.h key) r (k+j)=some (b,o)/\cellAt w b o=some v/\g.F key b o)->size<=es.length ->
   bW κ g w I ((List.range size).map fun j=>F4 key (κ key).bK (κ key).cv r (k+j) (es.getD j default) (ms.getD j .F) (ds.getD j dflt)) (vs.take size):=by
  intro size
  induction size with
  | zero=>intros; trivial
  | succ size ih =>
   intro k es ms vs ds bs h hb hloc hn
   cases es with
   | nil=>simp at hn
   | cons e es =>
    unfold ak at h
    obtain ⟨v,vs',d,ds',b1,b2,rfl,rfl,rfl,h1,h2⟩:=h
    rw [List.range_succ_eq_map,List.map_cons,List.map_map]
    refine ⟨?_,?_⟩
    ·have:=Uk (m:=ms.headD .F) hl (fun b o hf=>hb b o (kV.2 (.inl hf))) (hloc 0 v (by simp)) h1
     cases ms <;> simpa using this
    ·have:=ih (k+1) es ms.tail vs' ds' b2 h2 (fun b o hf=>hb b o (kV.2 (.inr hf))) (fun j v hv=>by
      have:=hloc (j+1) v (by simpa using hv)
      rwa [show k+(j+1)=k+1+j from by omega] at this) (by simpa using hn)
     have e1 : ∀ j,ms.tail.getD j .F=ms.getD (j+1) .F:=fun j=>by cases ms <;> simp [List.getD]
     simpa [Function.comp_def,Nat.add_assoc,Nat.add_comm 1,e1] using this
 obtain ⟨b1,b2,rfl,-,h2⟩:=h.split off
 have hl2:=ak.len es h
 have:=aux size off (es.drop off) (ms.drop off) (vs.drop off) (row.drop off) b2 h2 (fun b o hf=>hb b o (kV.2 (.inr hf))) (fun j v hv=>by
  rw [List.getElem?_drop] at hv
  obtain ⟨hj,rfl⟩:=List.getElem?_eq_some_iff.1 hv
  obtain ⟨h3,h4⟩:=hloc (off+j) (by omega)
  exact ⟨_,_,h3,hc.get _ hj,h4⟩) (by rw [List.length_drop]; omega)
 simpa only [getD_drop,Ir] using this
theorem adE (hΓ:d9 Γ P) (hd:dB n.np n.nt o=true) (hR:R n σ g I a w) (hK:Post P n I w Q K) {t:TypeId} {x:Operand} (hop:o.op = .load t x)
  (h:(bB Γ f o).wp cf σ tr Q):Goal P o a w K Qm:=by
 simp only [bB,hop] at h
 obtain ⟨ti,-,hty,h⟩:=fA hΓ h
 obtain ⟨e,t1,he,h⟩:=iV hR h
 have fin : ∀ (b o':Nat) (vs:List Value) (ls:List Leaf) (t':Tr),a.eval x = .pointer (some ⟨b,o',none⟩)->bH w b o' vs->vs.length=ti.aO.length ->
   bW σ.k g w I ls vs->(put o.dst (CZ (wY ti.kind) ls)).wp cf σ t' Q->Goal P o a w K Qm:=by
  intro b o' vs ls t' hx hc hn hl hp
  cases ha:wY ti.kind with
  | true =>
   rw [ha] at hp
   exact jf hd hR hK (JA hop hx ((yI hty hc hn).1 ha)) (Ms (by simpa using hl)) hp
  | false =>
   rw [ha] at hp
   have hn1:=Fg hty ha
   rw [hn1] at hn
   match vs,hn with
   | [v],_=>exact jf hd hR hK (JA hop hx ((yI hty hc (by simpa using hn1.symm)).2 ha v rfl)) (IE hl) hp
 split at h
 ·rename_i key m r off
  obtain ⟨hs,h1,h2⟩:=he
  obtain ⟨h3,h⟩:=h
  obtain ⟨b,o',hx,jg⟩:=h2 (Nat.eq_of_beq_eq_true h3)
  have hch:=hR.sj key
  split at h
  ·rename_i ls e
   rw [e] at hch jg
   obtain ⟨h4,h⟩:=h
   obtain ⟨bb,oo,c,el,fz,hh,hblk,hsz,-,-,hls⟩:=hch
   rw [hh] at jg
   simp only [addrIn,Option.some.injEq,Prod.mk.injEq] at jg
   obtain ⟨rfl,rfl⟩:=jg
   have h5:off+ti.aO.length<=ls.length:=Nat.le_of_ble_eq_true h4
   have hcells : ∀ (vs:List Value) (k:Nat),(∀ j (hj:j<vs.length),c[k+j]? = some vs[j])->bH w bb k vs:=by
    intro vs
    induction vs with
    | nil=>intro k _; trivial
    | cons v vs ih =>
     intro k hk
     refine ⟨?_,ih (k+1) fun j hj=>?_⟩
     ·have:=hk 0 (by simp)
      unfold cellAt World.cell?
      rw [hblk]; simpa using this
     ·have:=hk (j+1) (by simpa using hj)
      rwa [show k+(j+1)=k+1+j from by omega] at this
   refine fin bb (oo+off) (((c.toList.drop oo).take ls.length).drop off |>.take ti.aO.length) _ _ hx (hcells _ _ fun j hj=>?_) ?_ (bW.take _ (bW.drop _ hls)) h
   ·have hj':j<ti.aO.length/\off+j<ls.length/\oo+(off+j)<c.size:=by
     simp only [List.length_take,List.length_drop,Array.length_toList] at hj
     omega
    simp only [List.getElem_take,List.getElem_drop,Array.getElem_toList]
    rw [show oo+off+j=oo+(off+j) from by omega]
    exact Array.getElem?_eq_getElem hj'.2.2
   ·simp only [List.length_take,List.length_drop,Array.length_toList]
    omega
  ·rename_i es ms rows e
   rw [e] at hch jg
   obtain ⟨h4,h5,h⟩:=h
   have h4:off+ti.aO.length<=es.length:=Nat.le_of_ble_eq_true h4
   have h5:r<rows.length:=of_decide_eq_true h5
   obtain ⟨bb,cap,vs,bs,hh,h6,h7,h8,h9⟩:=aS.row hch h5
   rw [hh] at jg
   simp only [addrIn,kR,Option.some.injEq,Prod.mk.injEq,Nat.zero_add] at jg
   obtain ⟨rfl,rfl⟩:=jg
   have e1:rows.getD r []=rows[r]:=by simp [h5]
   rw [e1] at h
   have hid:=Nat.eq_of_beq_eq_true h3
   rw [<-hid] at h
   refine fin bb _ _ _ _ hx ((h6.drop off).take _) ?_ (R8 (by rw [e]; trivial) h8 (fun j hj=>⟨by rw [e,hh]; simp only [addrIn,kR,Nat.zero_add],h9 j hj⟩) h6 h7 h4) h
   rw [List.length_take,List.length_drop,(ak.len es h7).1]
   omega
  ·rename_i es rows e
   rw [e] at hch jg
   obtain ⟨h4,h5,h⟩:=h
   have h4:off+ti.aO.length<=es.length:=Nat.le_of_ble_eq_true h4
   have h5:r<rows.length:=of_decide_eq_true h5
   simp only [EM] at hch
   unfold aG at hch
   obtain ⟨aa,cap,rows',e',hh,-,-,hrows⟩:=hch
   cases e'
   rcases hrows with rfl | ⟨bb,oo,rfl,hrows⟩
   ·simp at h5
   ·rw [hh] at jg
    simp only [addrIn,kR,Option.some.injEq,Prod.mk.injEq] at jg
    obtain ⟨rfl,rfl⟩:=jg
    obtain ⟨vs,h6,h7⟩:=(hrows r h5).vals
    have e1:rows.getD r []=rows[r]:=by simp [h5]
    rw [e1] at h
    refine fin bb _ _ _ _ hx ((h7.drop off).take _) ?_ (Fh (fun lt v d hl=>Qd (rz _) (lQ _) (aG.mono (lQ _) (fun _ _ _=>rfl) _ hl)) _ (h6.drop off) (by rw [List.length_drop]; omega)) h
    rw [List.length_take,List.length_drop,h6.len.1]
    omega
  ·rename_i es ms rows r' jj e
   rw [e] at hch jg
   obtain ⟨h4,h5,h⟩:=h
   have h4:=Nat.eq_of_beq_eq_true h4
   subst h4
   have h5:=Nat.eq_of_beq_eq_true h5
   obtain ⟨-,-,hrl,bb,cap,c,el,fz,B1,B2,hh,-,-,-,-,-,-,-,-,-,vQ⟩:=hch
   have vQ:=vQ h5
   rw [hh] at jg
   simp only [addrIn,kR,Option.some.injEq,Prod.mk.injEq,Nat.zero_add] at jg
   obtain ⟨rfl,rfl⟩:=jg
   split at h
   ·rename_i ls eb
    obtain ⟨h6,h⟩:=h
    have h6:off+ti.aO.length<=ls.length:=Nat.le_of_ble_eq_true h6
    have hb:=hR.sj (gZ key)
    rw [eb] at hb
    obtain ⟨b2,o2,c2,el2,fz2,YA,hblk,hsz,-,-,hls⟩:=hb
    rw [vQ] at YA
    cases YA
    refine fin bb _ ((((c2.toList.drop (r * es.length)).take ls.length).drop off).take ti.aO.length) _ _ hx (bH.of_block hblk _ _ fun j hj=>?_) ?_ (bW.take _ (bW.drop _ hls)) h
    ·simp only [List.length_take,List.length_drop,Array.length_toList] at hj
     simp only [List.getElem_take,List.getElem_drop,Array.getElem_toList]
     rw [show r * es.length+off+j=r * es.length+(off+j) from by omega]
     exact Array.getElem?_eq_getElem (by omega)
    ·simp only [List.length_take,List.length_drop,Array.length_toList]
     omega
   ·exact h.elim
  ·exact h.elim
 ·rename_i deps aO row
  obtain ⟨hs,h1,h2⟩:=he
  obtain ⟨h3,h⟩:=h
  obtain ⟨h4,t',h⟩:=qI h
  obtain ⟨b,o',hx,hrow⟩:=h2 h4
  obtain ⟨vs,h5,h6⟩:=hrow.vals
  have hle:ti.aO.length<=aO.length:=Nat.le_of_ble_eq_true h3
  refine fin b o' (vs.take ti.aO.length) _ _ hx (h6.take _) ?_ (Fh (fun lt v d hl=>Qd h1 (fun _ _ h=>.inl h) hl) _ h5 hle) h
  rw [List.length_take,h5.len.1]
  omega
 ·exact h.elim
end
end Go.E

namespace Go.E
open Go
section
variable {Γ:Ctx} {P:Program} {w:World} {ρ:Operand->Value} {o:Oper}
theorem EN {t:TypeId} {x:Operand} {i b o':Nat} {fields:Array Field} {fd:Field} {j:TypeInfo} (hop:o.op = .fieldAddr t x i) (hx:ρ x = .pointer (some ⟨b,o',none⟩))
  (hu:P.underlying t=some (.struct fields)) (hf:fields[i]? = some fd) (hi:P.info? fd.type=some j) (h0:j.size≠0) :
  (execOp ρ o).run P w = .ok (.value (.pointer (some ⟨b,o'+fd.offset,none⟩))) w:=by
 have h1:(Instr.fieldAt t (ρ x) i).run P w = .ok (.pointer (some ⟨b,o'+fd.offset,none⟩)) w:=by
  have h2:(sizeOf fd.type).run P w = .ok j.size w:=by simp [sizeOf,typeInfo,hi,go_sem]
  simp only [Instr.fieldAt,hx,Instr.sureAddr,Sem.run_bind,run_underlying hu,Result.andThen_ok,hf,pure_bind,fieldPlace,h2,h0,if_false,addr_add]
  rfl
 simp only [execOp,hop]
 rw [Sem.run_bind,h1]
 rfl
theorem Qe {t:TypeId} {x:Operand} {i:Nat} {fields:Array Field} {fd:Field} {cs:Array Value} {v:Value} (hop:o.op = .field t x i) (hx:ρ x = .agg cs)
  (hu:P.underlying t=some (.struct fields)) (hf:fields[i]? = some fd) (hp:(part fd.type cs fd.offset).run P w = .ok v w) :
  (execOp ρ o).run P w = .ok (.value v) w:=by
 have h1:(Instr.field t (ρ x) i).run P w = .ok v w:=by
  simp only [Instr.field,hx,asAgg,Sem.run_bind,run_underlying hu,Result.andThen_ok,hf,pure_bind]
  exact hp
 simp only [execOp,hop]
 rw [Sem.run_bind,h1]
 rfl
theorem Pb {t e:TypeId} {x ix:Operand} {b o' len cap:Nat} {k:IntKind} {i:Int} {sz:Nat} (hop:o.op = .indexAddr t x ix)
  (hx:ρ x = .slice (some ⟨b,o',none⟩) len cap) (hi:ρ ix = .int k i) (hu:P.underlying t=some (.slice e)) (hs:(sizeOf e).run P w = .ok sz w) (h:0<=i/\i<len) :
  (execOp ρ o).run P w = .ok (.value (.pointer (some ⟨b,o'+i.toNat * sz,none⟩))) w:=by
 have h1:(Instr.indexAt t (ρ x) (ρ ix)).run P w = .ok (.pointer (some ⟨b,o'+i.toNat * sz,none⟩)) w:=by
  simp only [Instr.indexAt,hx,hi,asIntOf,Sem.run_bind,run_underlying hu,Result.andThen_ok,pure_bind,h,and_self,if_true,hs,addr_add,Sem.run_pure]
 simp only [execOp,hop]
 rw [Sem.run_bind,h1]
 rfl
theorem ZH {t:TypeId} {x ix:Operand} {k:IntKind} {i:Int} {s:ByteArray} (hop:o.op = .index t x ix)
  (hx:ρ x = .string s) (hi:ρ ix = .int k i) (hu:P.underlying t=some .string) (h:0<=i/\i<s.size) :
  (execOp ρ o).run P w = .ok (.value (.int .u8 (s.data.toList.getD i.toNat 0).toNat)) w:=by
 have hlt:i.toNat<s.size:=by omega
 have hs:s[i.toNat]? = some (s.data.toList.getD i.toNat 0):=by
  rw [getElem?_pos s i.toNat hlt]
  have:i.toNat<s.data.toList.length:=by simpa using hlt
  rw [List.getD,List.getElem?_eq_getElem this]
  rfl
 have h1:(Instr.index t (ρ x) (ρ ix)).run P w = .ok (.int .u8 (s.data.toList.getD i.toNat 0).toNat) w:=by
  simp only [Instr.index,hx,hi,asIntOf,Sem.run_bind,run_underlying hu,Result.andThen_ok,pure_bind,h.1,if_true,hs,Sem.run_pure]
 simp only [execOp,hop]
 rw [Sem.run_bind,h1]
 rfl
theorem R9 {fn:FuncId} {cs:Array Operand} (hop:o.op = .makeFunc (.func fn) #[] cs) :
  (execOp ρ o).run P w = .ok (.value (.func (.func fn) #[] (cs.map ρ))) w:=by
 simp only [execOp,hop]
 rw [Sem.run_bind]
 simp [Instr.makeFunc]
theorem Dl {b:Builtin} {c:Call} {v:Value} (hop:o.op = .call c) (hc:c.callee = .builtin b)
  (h:(builtin b c.argTypes o.type (c.args.map fun | .const _=>true | _=>false) (c.args.map ρ)).run P w = .ok (.value v) w) :
  (execOp ρ o).run P w = .ok (.value v) w:=by
 simp only [execOp,hop]
 rw [Sem.run_bind]
 simp only [resolve,hc]
 exact h
end
section
variable {Γ:Ctx} {P:Program} {cf:FuncId->List Arg->R3 fE}
variable {n:Fr} {σ:S} {g:Gh} {I:au} {a:Act} {w:World}
variable {o:Oper} {f:FuncId} {tr:Tr} {Q:S->Tr->Prop} {K:Act->World->Prop} {Qm:Exit->Act->World->Prop}
def uQ (κ:Key->KE) (g:Gh) (w:World) (I:au):List eG->List Value->Prop
 | [],[]=>True
 | l::ls,v::vs=>iY κ g w I l v/\uQ κ g w I ls vs
 | _,_=>False
theorem xD (hR:R n σ g I a w) : ∀ {xs:List Operand} {k:List eG->Prog} {tr:Tr},(Jw xs k).wp cf σ tr Q ->
  ∃ es dn,uQ σ.k g w I es (xs.map a.eval)/\(k es).wp cf σ dn Q
 | [],k,tr,h=>⟨[],tr,trivial,h⟩
 | x::xs,k,tr,h=>by
  obtain ⟨e,t1,he,h⟩:=iV hR h
  obtain ⟨es,t2,hes,h⟩:=xD hR (xs:=xs) h
  exact ⟨e::es,t2,⟨he,hes⟩,h⟩
theorem JB {t:TypeId} {ti:TI} {fs:List (Nat×TypeId)} (h:sK Γ P t ti) (hk:ti.kind = .struct fs) :
  ∃ fields,P.underlying t=some (.struct fields) /\ ∀ (i off:Nat) (ft:TypeId),fs[i]? = some (off,ft)->∃ fd j,fields[i]? = some fd/\fd.offset=off/\fd.type=ft/\P.info? ft=some j/\j.size≠0:=by
 obtain ⟨d,h1,h2⟩:=h.und
 rw [hk] at h2
 obtain ⟨fields,rfl,rfl,h3⟩:=h2
 refine ⟨fields,h1,fun i off ft hi=>?_⟩
 simp only [List.getElem?_map,Option.map_eq_some_iff,Prod.mk.injEq] at hi
 obtain ⟨fd,hfd,rfl,rfl⟩:=hi
 obtain ⟨j,hj,hj0⟩:=h3 fd (List.mem_of_getElem? hfd)
 exact ⟨fd,j,by simpa using hfd,rfl,rfl,hj,hj0⟩
theorem kI {t e:TypeId} {ti:TI} (h:sK Γ P t ti) (hk:ti.kind = .slice e) :
  P.underlying t=some (.slice e) /\ ∃ te,Γ.ty e=some te/\ti.aO=[.sl te.aO]/\te.aO≠[]:=by
 obtain ⟨d,h1,h2⟩:=h.und
 rw [hk] at h2
 obtain ⟨rfl,h3⟩:=h2
 exact ⟨h1,h3⟩
theorem Gq {t:TypeId} {ti:TI} (h:sK Γ P t ti) (hk:ti.kind = .sc .str):P.underlying t=some .string:=by
 obtain ⟨d,h1,h2⟩:=h.und
 rw [hk] at h2
 rw [h1,h2.1]
theorem IG {k:TK} (h:C9 k=true):k = .sc .str:=by
 unfold C9 at h
 split at h
 ·rfl
 ·cases h
theorem qK {k:TK} (h:qW k=true) : ∃ e,k = .slice e:=by
 unfold qW at h
 split at h
 ·exact ⟨_,rfl⟩
 ·cases h
theorem Sb (hΓ:d9 Γ P) (hd:dB n.np n.nt o=true) (hR:R n σ g I a w) (hK:Post P n I w Q K) {t:TypeId} {x:Operand} {i:Nat} (hop:o.op = .fieldAddr t x i)
  (h:(bB Γ f o).wp cf σ tr Q):Goal P o a w K Qm:=by
 simp only [bB,hop] at h
 obtain ⟨ti,-,hty,h⟩:=fA hΓ h
 obtain ⟨e,t1,he,h⟩:=iV hR h
 split at h
 ·rename_i fs hk
  obtain ⟨⟨off,ft⟩,hfs,h⟩:=dL h
  obtain ⟨fields,hu,hfd⟩:=JB hty hk
  obtain ⟨fd,j,h1,rfl,rfl,h2,h3⟩:=hfd i off ft hfs
  split at h
  ·rename_i k m r oo _
   obtain ⟨hs,h4,h5⟩:=he
   obtain ⟨h6,h⟩:=h
   obtain ⟨b,o',hx,ha⟩:=h5 (Nat.eq_of_beq_eq_true h6)
   refine jf hd hR hK (EN hop hx hu h1 h2 h3) (e:=.ptr k m r (oo+fd.offset)) ⟨⟨fun _ h=>(nomatch h),fun _ h=>(nomatch h)⟩,h4,fun _=>⟨b,o'+fd.offset,rfl,?_⟩⟩ h
   unfold addrIn at ha ⊢
   split at ha
   ·cases ha; simp [Nat.add_assoc]
   ·cases ha; simp [Nat.add_assoc]
   ·cases ha
  ·rename_i deps aO row _
   obtain ⟨hs,h4,h5⟩:=he
   obtain ⟨h8,h⟩:=h
   obtain ⟨h6,t2,h⟩:=qI h
   obtain ⟨b,o',hx,ha⟩:=h5 h6
   refine jf hd hR hK (EN hop hx hu h1 h2 h3) (e:=.rp deps (aO.drop fd.offset) (row.drop fd.offset)) ⟨⟨fun _ h=>(nomatch h),fun _ h=>(nomatch h)⟩,h4,fun _=>⟨b,o'+fd.offset,rfl,?_⟩⟩ h
   have drop : ∀ (k:Nat) {es:List LT} {o:Nat} {row:List T},k<=es.length->dA w (cu σ.k g I deps) (cu σ.k g I deps) es b o row->dA w (cu σ.k g I deps) (cu σ.k g I deps) (es.drop k) b (o+k) (row.drop k):=by
    intro k
    induction k with
    | zero=>intro es o row _ h; exact h
    | succ k ih =>
     intro es o row hk h
     cases es with
     | nil=>simp at hk
     | cons e es =>
      unfold dA at h
      obtain ⟨d,rest,v,rfl,-,-,-,h⟩:=h
      have:=ih (by simpa using hk) h
      rwa [show o+1+k=o+(k+1) from by omega] at this
   exact drop _ (Nat.le_of_ble_eq_true h8) ha
  ·exact h.elim
 ·exact h.elim
theorem abf (hΓ:d9 Γ P) (hd:dB n.np n.nt o=true) (hR:R n σ g I a w) (hK:Post P n I w Q K) {t:TypeId} {x:Operand} {i:Nat} (hop:o.op = .field t x i)
  (h:(bB Γ f o).wp cf σ tr Q):Goal P o a w K Qm:=by
 simp only [bB,hop] at h
 obtain ⟨ti,-,hty,h⟩:=fA hΓ h
 obtain ⟨e,t1,he,h⟩:=iV hR h
 split at h
 ·rename_i fs ls hk
  obtain ⟨⟨off,ft⟩,hfs,h⟩:=dL h
  obtain ⟨tf,-,htf,h⟩:=fA hΓ h
  obtain ⟨fields,hu,hfd⟩:=JB hty hk
  obtain ⟨fd,j,h1,rfl,rfl,h2,h3⟩:=hfd i off ft hfs
  obtain ⟨cs,hx,hls⟩:=he
  obtain ⟨h4,h⟩:=h
  have h4:fd.offset+tf.aO.length<=ls.length:=Nat.le_of_ble_eq_true h4
  have hlen:=hls.len
  cases ha:wY tf.kind with
  | true =>
   rw [ha] at h
   refine jf hd hR hK (Qe hop hx hu h1 (v:=.agg (cs.extract fd.offset (fd.offset+tf.aO.length))) ?_) (Ms ?_) h
   ·simp [part,Ed htf,ha,run_sizeOf htf]
   ·have:=(hls.drop fd.offset).take tf.aO.length
    simpa [Array.toList_extract,List.extract_eq_take_drop,Nat.add_sub_cancel_left] using this
  | false =>
   rw [ha] at h
   have h1':=Fg htf ha
   have hlt:fd.offset<cs.size:=by simp at hlen; omega
   refine jf hd hR hK (Qe hop hx hu h1 (v:=cs[fd.offset]) ?_) (IE ?_) h
   ·simp [part,Ed htf,ha,hlt]
   ·have:=(hls.drop fd.offset).take tf.aO.length
    rw [h1'] at this ⊢
    have e:(List.drop fd.offset cs.toList).take 1=[cs[fd.offset]]:=by
     rw [List.drop_eq_getElem_cons (by simpa using hlt)]
     rfl
    rwa [e] at this
 ·exact h.elim
theorem Sc (hΓ:d9 Γ P) (hd:dB n.np n.nt o=true) (hR:R n σ g I a w) (hK:Post P n I w Q K) {t:TypeId} {x i:Operand} (hop:o.op = .indexAddr t x i)
  (h:(bB Γ f o).wp cf σ tr Q):Goal P o a w K Qm:=by
 simp only [bB,hop] at h
 obtain ⟨ti,-,hty,h⟩:=fA hΓ h
 obtain ⟨e,t1,he,h⟩:=iV hR h
 obtain ⟨ei,t2,hei,h⟩:=iV hR h
 obtain ⟨s,d,rfl,hv,h⟩:=mQ hei h
 split at h
 ·rename_i _ el tes l hk Sd _ _
  obtain ⟨ix,hix,rfl,-⟩:=hv
  obtain ⟨hu,te,hte,hl,-⟩:=kI hty hk
  have hsz:=run_sizeOf (w:=w) (hΓ.ty _ _ hte)
  rw [Sd] at hl
  simp only [List.cons.injEq,LT.sl.injEq,and_true] at hl
  subst hl
  have fin : ∀ (es:List LT) (rows:List (List T)) (S:au),aG w S (.sl es) (a.eval x) (.l rows)->es.length=te.aO.length->0<=ix/\ix<rows.length ->
    ∃ b oo len cap,a.eval x = .slice (some ⟨b,oo,none⟩) len cap/\(execOp a.eval o).run P w = .ok (.value (.pointer (some ⟨b,oo+ix.toNat * es.length,none⟩))) w /\
     ∀ (hi:ix.toNat<rows.length),dA w S S es b (oo+ix.toNat * es.length) rows[ix.toNat]:=by
   intro es rows S nH hlen hb
   unfold aG at nH
   obtain ⟨aa,cap,rows',e1,hv,-,-,hrows⟩:=nH
   cases e1
   rcases hrows with rfl | ⟨b,oo,rfl,hrows⟩
   ·simp at hb; omega
   ·refine ⟨b,oo,_,_,hv,?_,fun hi=>hrows _ hi⟩
    rw [hlen]
    exact Pb hop hv hix hu hsz hb
  split at h
  ·rename_i key m hst
   obtain ⟨hs,hl⟩:=he
   simp only [hst] at hl
   obtain ⟨-,h1,h2⟩:=hl
   obtain ⟨h3,h⟩:=h
   have hid:=Nat.eq_of_beq_eq_true h3
   have hval:=h2 hid
   have hch:=hR.sj key
   split at h
   ·rename_i es ms rows e
    rw [e] at hch
    obtain ⟨h4,h5,h⟩:=h
    obtain ⟨b,oo,len,cap,hv,hrun,-⟩:=fin es rows (fun _ _=>True) (by rw [hval]; exact aG.mono (fun _ _ _=>trivial) (fun _ _ _=>rfl) _ (aS.leaf (S:=fun _ _=>True) hch (fun _ _ _=>trivial) (fun _ _ _=>trivial)))
     (Nat.eq_of_beq_eq_true h4) (of_decide_eq_true h5)
    refine jf hd hR hK hrun (e:=.ptr key m ix.toNat 0) ⟨⟨fun _ h=>(nomatch h),fun _ h=>(nomatch h)⟩,h1,fun _=>⟨b,_,rfl,?_⟩⟩ h
    rw [<-hval,hv,e]
    simp [addrIn,kR]
   ·rename_i es rows e
    rw [e] at hch
    obtain ⟨h4,h5,h⟩:=h
    obtain ⟨b,oo,len,cap,hv,hrun,-⟩:=fin es rows I (by rw [hval]; exact hch) (Nat.eq_of_beq_eq_true h4) (of_decide_eq_true h5)
    refine jf hd hR hK hrun (e:=.ptr key m ix.toNat 0) ⟨⟨fun _ h=>(nomatch h),fun _ h=>(nomatch h)⟩,h1,fun _=>⟨b,_,rfl,?_⟩⟩ h
    rw [<-hval,hv,e]
    simp [addrIn,kR]
   ·exact h.elim
  ·obtain ⟨es,rows,deps,t',h,h1,h2,h3⟩:=oZ hR he h
   obtain ⟨h4,h5,h⟩:=h
   have hb:=of_decide_eq_true h5
   simp only [T.int] at hb
   obtain ⟨b,oo,len,cap,hv,hrun,hrow⟩:=fin es rows _ h1 (Nat.eq_of_beq_eq_true h4) hb
   have hlt:ix.toNat<rows.length:=by omega
   refine jf hd hR hK hrun (e:=.rp deps es (rows.getD ix.toNat [])) ⟨⟨fun _ h=>(nomatch h),fun _ h=>(nomatch h)⟩,h3,fun _=>⟨b,_,rfl,?_⟩⟩ h
   have e1:rows.getD ix.toNat []=rows[ix.toNat]:=by simp [hlt]
   rw [e1]
   exact hrow hlt
 ·exact h.elim
theorem abh (hΓ:d9 Γ P) (hd:dB n.np n.nt o=true) (hR:R n σ g I a w) (hK:Post P n I w Q K) {t:TypeId} {x i:Operand} (hop:o.op = .index t x i)
  (h:(bB Γ f o).wp cf σ tr Q):Goal P o a w K Qm:=by
 simp only [bB,hop] at h
 obtain ⟨ti,-,hty,h⟩:=fA hΓ h
 obtain ⟨e,t1,he,h⟩:=iV hR h
 obtain ⟨ei,t2,hei,h⟩:=iV hR h
 obtain ⟨s,d,rfl,hv,h⟩:=mQ he h
 obtain ⟨s',d',rfl,hv',h⟩:=mQ hei h
 split at h
 ·have hk:ti.kind = .sc .str:=by assumption
  obtain ⟨str,hs,rfl,-⟩:=hv
  obtain ⟨ix,hix,rfl,-⟩:=hv'
  obtain ⟨h1,h⟩:=h
  have h1:=of_decide_eq_true h1
  simp only [T.int,T.str] at h1
  refine kU hd hR hK (s:=.int .u8) (ZH hop hs hix (Gq hty hk) h1) ⟨_,rfl,rfl,?_⟩ h
  have:=UInt8.toNat_lt (str.data.toList.getD ix.toNat 0)
  simp only [IntKind.min,IntKind.max,IntKind.bits,IntKind.signed]
  constructor
  ·simp
  ·simp only [Bool.false_eq_true,if_false]
   omega
 ·exact h.elim
theorem Um (hd:dB n.np n.nt o=true) (hR:R n σ g I a w) (hK:Post P n I w Q K) {fn:FuncId} {fs cs:Array Operand} (hop:o.op = .makeFunc (.func fn) fs cs)
  (h:(bB Γ f o).wp cf σ tr Q):Goal P o a w K Qm:=by
 simp only [bB,hop] at h
 cases he:fs.isEmpty with
 | false=>simp only [he,cond_false] at h; exact h.elim
 | true =>
  simp only [he,cond_true] at h
  have hfs:fs = #[]:=by simpa using he
  subst hfs
  obtain ⟨es,t',hes,h⟩:=xD hR h
  obtain ⟨h1,h⟩:=h
  refine jf hd hR hK (R9 hop) (e:=.fn fn es) ⟨_,rfl,?_⟩ h
  have aux : ∀ (es:List eG) (vs:List Value),uQ σ.k g w I es vs->es.all RN=true->nQ σ.k g w I es vs:=by
   intro es
   induction es with
   | nil=>intro vs h _; cases vs with | nil=>trivial | cons=>exact h.elim
   | cons e es ih =>
    intro vs h hf
    cases vs with
    | nil=>exact h.elim
    | cons v vs =>
     simp only [List.all_cons,Bool.and_eq_true] at hf
     refine ⟨?_,ih vs h.2 hf.2⟩
     have h1:=h.1
     cases e <;> first | exact h1 | (simp [RN] at hf)
  simpa using aux es _ hes h1
end
end Go.E

namespace Go.E
open Go
section
variable {Γ:Ctx} {P:Program} {w:World} {ρ:Operand->Value} {o:Oper}
theorem Un {t:TypeId} {ts:Array TypeId} {ty:TypeId} {s:ByteArray} (ht:ts[0]? = some t) (hu:P.underlying t=some .string) :
  (Builtin.len_ ts ty #[.string s]).run P w = .ok (.int .i64 s.size) w:=by
 simp [Builtin.len_,ht,run_underlying hu,goInt]
theorem run_len_slice {t e:TypeId} {ts:Array TypeId} {ty:TypeId} {a:Option Addr} {len cap:Nat} (ht:ts[0]? = some t) (hu:P.underlying t=some (.slice e)) :
  (Builtin.len_ ts ty #[.slice a len cap]).run P w = .ok (.int .i64 len) w:=by
 simp [Builtin.len_,ht,run_underlying hu,goInt]
theorem Cw {c:Call} {v:Value} (hop:o.op = .call c) (hc:c.callee = .builtin .len)
  (h:(Builtin.len_ c.argTypes o.type (c.args.map ρ)).run P w = .ok v w) :
  (execOp ρ o).run P w = .ok (.value v) w:=by
 refine Dl hop hc ?_
 simp only [builtin]
 rw [Sem.run_bind,h]
 rfl
theorem o7 {v:Value} {k:IntKind} {i:Int} {y:Nat} {code:BoundsCode} (hv:v = .int k i) (h:0<=i/\i<=y) :
  (Instr.sliceBound v y code).run P w = .ok i.toNat w:=by
 subst hv
 simp [Instr.sliceBound,asIntOf,h]
def Cx (o:Option Value) (d x:Int):Prop:=(o=none/\x=d) \/ ∃ k,o=some (.int k x)
theorem MB {sl:Bool} {len cap:Nat} {lo hi:Option Value} {l h:Int} (hlo:Cx lo 0 l) (hhi:Cx hi len h) (h1:0<=h/\h<=len) (h2:0<=l/\l<=h) (hc:len<=cap) :
  (Instr.sliceBounds sl len cap lo hi none).run P w = .ok (l.toNat,h.toNat,cap) w:=by
 have h3:0<=h/\h<=(cap:Int):=⟨h1.1,by omega⟩
 have h4:0<=l/\l<=(h.toNat:Int):=⟨h2.1,by omega⟩
 rcases hlo with ⟨rfl,rfl⟩ | ⟨k,rfl⟩ <;> rcases hhi with ⟨rfl,rfl⟩ | ⟨k',rfl⟩
 ·simp [Instr.sliceBounds]
 ·simp [Instr.sliceBounds,o7 rfl h3]
 ·simp only [Instr.sliceBounds,pure_bind,Sem.run_bind]
  simp only [Sem.run_pure,Result.andThen_ok]
  have h5:0<=l/\l<=(len:Int):=by omega
  simp [o7 rfl h5]
 ·simp only [Instr.sliceBounds,pure_bind,Sem.run_bind]
  simp [o7 rfl h3,o7 rfl h4]
theorem Pd {t:TypeId} {x:Operand} {lo hi:Option Operand} {s:ByteArray} {l h:Int} (hop:o.op = .slice t x lo hi none) (hx:ρ x = .string s)
  (hu:P.underlying t=some .string) (hlo:Cx (lo.map ρ) 0 l) (hhi:Cx (hi.map ρ) s.size h) (h1:0<=h/\h<=s.size) (h2:0<=l/\l<=h) :
  (execOp ρ o).run P w = .ok (.value (.string (s.extract l.toNat h.toNat))) w:=by
 have h3:(Instr.sliceAt t (ρ x) (lo.map ρ) (hi.map ρ) none).run P w = .ok (.string (s.extract l.toNat h.toNat)) w:=by
  simp only [Instr.sliceAt,Sem.run_bind,run_underlying hu,Result.andThen_ok,Instr.slice,hx]
  simp [MB (P:=P) (w:=w) (sl:=false) hlo hhi h1 h2 (Nat.le_refl _)]
 simp only [execOp,hop]
 rw [Sem.run_bind,show (none:Option Operand).map ρ=none from rfl,h3]
 rfl
theorem Bc {t e:TypeId} {x:Operand} {lo hi:Option Operand} {aa:Option Addr} {len cap sz:Nat} {l h:Int} (hop:o.op = .slice t x lo hi none) (hx:ρ x = .slice aa len cap)
  (hu:P.underlying t=some (.slice e)) (hs:(sizeOf e).run P w = .ok sz w) (hlo:Cx (lo.map ρ) 0 l) (hhi:Cx (hi.map ρ) len h) (h1:0<=h/\h<=len) (h2:0<=l/\l<=h) (hc:len<=cap) :
  (execOp ρ o).run P w = .ok (.value (.slice (if cap=l.toNat then aa else aa.map (·.add (l.toNat * sz))) (h.toNat-l.toNat) (cap-l.toNat))) w:=by
 have h3:(Instr.sliceAt t (ρ x) (lo.map ρ) (hi.map ρ) none).run P w = .ok (.slice (if cap=l.toNat then aa else aa.map (·.add (l.toNat * sz))) (h.toNat-l.toNat) (cap-l.toNat)) w:=by
  simp only [Instr.sliceAt,Sem.run_bind,run_underlying hu,Result.andThen_ok,Instr.slice,hx]
  simp [MB (P:=P) (w:=w) (sl:=true) hlo hhi h1 h2 hc,hs]
 simp only [execOp,hop]
 rw [Sem.run_bind,show (none:Option Operand).map ρ=none from rfl,h3]
 rfl
end
section
variable {Γ:Ctx} {P:Program} {cf:FuncId->List Arg->R3 fE}
variable {n:Fr} {σ:S} {g:Gh} {I:au} {a:Act} {w:World}
variable {o:Oper} {f:FuncId} {tr:Tr} {Q:S->Tr->Prop} {K:Act->World->Prop} {Qm:Exit->Act->World->Prop}
theorem ZI {κ:Key->KE} {e:eG} {vs:List Value} (h:uQ κ g w I [e] vs) : ∃ v,vs=[v]/\iY κ g w I e v:=by
 match vs,h with
 | [v],h=>exact ⟨v,rfl,h.1⟩
theorem Bd {S:au} {es:List LT} {v:Value} {rows:List (List T)} (h:aG w S (.sl es) v (.l rows)) :
  ∃ aa cap,v = .slice aa rows.length cap/\rows.length<=cap/\rows.length<=bA /\
   (rows=[] \/ ∃ b o,aa=some ⟨b,o,none⟩ /\ ∀ i (h:i<rows.length),dA w S S es b (o+i * es.length) rows[i]):=by
 unfold aG at h
 obtain ⟨aa,cap,rows',e1,hv,h1,h2,h3⟩:=h
 cases e1
 exact ⟨aa,cap,hv,h1,h2,h3⟩
theorem Ee {S:au} {es:List LT} {aa:Option Addr} {cap:Nat} {rows:List (List T)} (h1:rows.length<=cap) (h2:rows.length<=bA)
  (h3:rows=[] \/ ∃ b o,aa=some ⟨b,o,none⟩ /\ ∀ i (h:i<rows.length),dA w S S es b (o+i * es.length) rows[i]):aG w S (.sl es) (.slice aa rows.length cap) (.l rows):=by
 unfold aG
 exact ⟨aa,cap,rows,rfl,rfl,h1,h2,h3⟩
theorem Gr {e:eG} {v:Value} {d0:Nat} (hdst:o.dst=some d0) (hd:dB n.np n.nt o=true) (hR:R n σ g I a w) (hK:Post P n I w Q K)
  (hrun:(execOp a.eval o).run P w = .ok (.value v) w) (he:iY σ.k g w I e v) (h:(Prog.kG d0 e .ret).wp cf σ tr Q):Goal P o a w K Qm :=
 jf hd hR hK hrun he (by unfold put; rw [hdst]; exact h)
theorem afh (hΓ:d9 Γ P) (hd:dB n.np n.nt o=true) (hR:R n σ g I a w) (hK:Post P n I w Q K) {c:Call} (hop:o.op = .call c) (hc:c.callee = .builtin .len)
  (h:(bB Γ f o).wp cf σ tr Q):Goal P o a w K Qm:=by
 simp only [bB,hop,hc] at h
 obtain ⟨t,ht,h⟩:=dL h
 obtain ⟨ti,-,hty,h⟩:=fA hΓ h
 obtain ⟨es,t1,hes,h⟩:=xD hR h
 split at h
 ·rename_i l _ _
  obtain ⟨v,hv,hl⟩:=ZI hes
  have hargs:c.args.map a.eval = #[v]:=by
   apply Array.toList_inj.1; simpa using hv
  split at h
  ·rename_i hst hlt
   obtain ⟨hk,h⟩:=h
   obtain ⟨hs,hl⟩:=hl
   simp only [hst] at hl
   obtain ⟨s,e1,hl⟩:=hl
   rw [hlt] at e1
   cases e1
   obtain ⟨s,rfl,hd',hsz⟩:=hl
   rw [hd'] at h
   refine kU hd hR hK (s:=.int .i64) (Cw hop hc (by rw [hargs]; exact Un ht (Gq hty (IG hk)))) ⟨_,rfl,rfl,?_⟩ h
   have e1:IntKind.i64.min = -9223372036854775808:=by decide
   rw [e1,R6]
   simp only [T.str]
   omega
  ·obtain ⟨hk,h⟩:=h
   obtain ⟨es,rows,deps,t',h,nH,-,-⟩:=oZ hR hl h
   obtain ⟨aa,cap,rfl,h1,h2,-⟩:=Bd nH
   obtain ⟨e,hk⟩:=qK hk
   obtain ⟨hu,-⟩:=kI hty hk
   have h:=h (decide_eq_true h2)
   refine kU hd hR hK (s:=.int .i64) (Cw hop hc (by rw [hargs]; exact run_len_slice ht hu)) ⟨_,rfl,rfl,?_⟩ h
   have e1:IntKind.i64.min = -9223372036854775808:=by decide
   unfold bA at h2
   rw [e1,R6]
   omega
 ·exact h.elim
theorem Uo (hR:R n σ g I a w) {e:eG} {v:Value} {k:Int->Prog} (he:iY σ.k g w I e v)
  (h:(sI e fun s t=>match s with | .int _=>k t.int | _=>.fail).wp cf σ tr Q) : ∃ kd x,v = .int kd x/\(k x).wp cf σ tr Q:=by
 obtain ⟨s,d,rfl,hv,h⟩:=mQ he h
 split at h
 ·obtain ⟨x,hx,rfl,-⟩:=hv
  exact ⟨_,x,hx,h⟩
 ·exact h.elim
theorem sM (hR:R n σ g I a w) (lo hi:Option Operand) {Fj Km:Option eG} {nn:Nat} {k:Int->Int->Prog}
  (hlo : ∀ x,lo=some x->∃ e,Fj=some e/\iY σ.k g w I e (a.eval x)) (Bf:lo=none->Fj=none)
  (hhi : ∀ x,hi=some x->∃ e,Km=some e/\iY σ.k g w I e (a.eval x)) (II:hi=none->Km=none)
  (h:(sliceBound Km nn fun h=>sliceBound Fj 0 fun a=>k h a).wp cf σ tr Q) :
  ∃ l hh,Cx (lo.map a.eval) 0 l/\Cx (hi.map a.eval) nn hh/\(k hh l).wp cf σ tr Q:=by
 have one : ∀ (x:Option Operand) (e:Option eG) (d:Int) (k:Int->Prog),(∀ y,x=some y->∃ e',e=some e'/\iY σ.k g w I e' (a.eval y))->(x=none->e=none) ->
   (sliceBound e d k).wp cf σ tr Q->∃ v,Cx (x.map a.eval) d v/\(k v).wp cf σ tr Q:=by
  intro x e d k h1 h2 h
  cases x with
  | none=>rw [h2 rfl] at h; exact ⟨d,.inl ⟨rfl,rfl⟩,h⟩
  | some y =>
   obtain ⟨e',rfl,he⟩:=h1 y rfl
   obtain ⟨kd,v,hv,h⟩:=Uo hR he h
   exact ⟨v,.inr ⟨kd,by simp [hv]⟩,h⟩
 obtain ⟨hh,h1,h⟩:=one hi Km nn _ hhi II h
 obtain ⟨l,h2,h⟩:=one lo Fj 0 _ hlo Bf h
 exact ⟨l,hh,h2,h1,h⟩
theorem Qf {S:au} {es:List LT} {aa:Option Addr} {cap:Nat} {rows:List (List T)} {l h:Nat} (hl:aG w S (.sl es) (.slice aa rows.length cap) (.l rows)) (h1:h<=rows.length) (h2:l<=h) :
  aG w S (.sl es) (.slice (if cap=l then aa else aa.map (·.add (l * es.length))) (h-l) (cap-l)) (.l ((rows.take h).drop l)):=by
 obtain ⟨aa',cap',e1,h3,h4,h5⟩:=Bd hl
 cases e1
 have hlen:((rows.take h).drop l).length=h-l:=by simp; omega
 rw [<-hlen]
 refine Ee (by omega) (by omega) ?_
 by_cases hz:h=l
 ·left; apply List.length_eq_zero_iff.1; omega
 ·rcases h5 with rfl | ⟨b,o,rfl,h5⟩
  ·simp at h1; omega
  ·right
   have hne:cap≠l:=by omega
   refine ⟨b,o+l * es.length,by simp [hne,addr_add],fun i hi=>?_⟩
   have hi':i+l<rows.length:=by omega
   have:=h5 (l+i) (by omega)
   have e1:(List.drop l (List.take h rows))[i]=rows[l+i]:=by
    simp [List.getElem_drop,List.getElem_take]
   rw [e1,Nat.add_assoc,<-Nat.add_mul]
   exact this
theorem zD (hΓ:d9 Γ P) (hd:dB n.np n.nt o=true) (hR:R n σ g I a w) (hK:Post P n I w Q K) {t:TypeId} {ti:TI} {x:Operand} {lo hi:Option Operand} {d0:Nat} (hop:o.op = .slice t x lo hi none)
  (hdst:o.dst=some d0) (hty:sK Γ P t ti) {e:eG} (he:iY σ.k g w I e (a.eval x)) {Fj Km:Option eG}
  (hlo : ∀ x,lo=some x->∃ e,Fj=some e/\iY σ.k g w I e (a.eval x)) (Bf:lo=none->Fj=none)
  (hhi : ∀ x,hi=some x->∃ e,Km=some e/\iY σ.k g w I e (a.eval x)) (II:hi=none->Km=none)
  (h:(mg ti 0 d0 e Fj Km).wp cf σ tr Q):Goal P o a w K Qm:=by
 unfold mg at h
 obtain ⟨l,rfl,hl,h⟩:=Ba he h
 simp only at h
 split at h
 ·rename_i hst hlt
  obtain ⟨hk,h⟩:=h
  obtain ⟨hs,hl⟩:=hl
  simp only [hst] at hl
  obtain ⟨s,e1,hl⟩:=hl
  rw [hlt] at e1
  cases e1
  obtain ⟨s,hx,hd',hsz⟩:=hl
  rw [hd'] at h
  obtain ⟨lv,hv,h1,h2,h3,h4,h⟩:=sM hR lo hi hlo Bf hhi II h
  have h3:=of_decide_eq_true h3
  have h4:=of_decide_eq_true h4
  have hrun:=Pd (w:=w) hop hx (Gq hty (IG hk)) h1 h2 h3 h4
  rw [<-hdst] at h
  refine kU hd hR hK (s:=.str) hrun ⟨_,rfl,rfl,?_⟩ h
  simp only [ByteArray.size_extract]
  omega
 ·obtain ⟨es,rows,deps,t',h,nH,h1,h2⟩:=oZ hR hl h
  obtain ⟨hk,h⟩:=h
  split at hk
  ·rename_i tes Sd
   simp only [Bool.and_eq_true] at hk
   obtain ⟨hk,hlen⟩:=hk
   have hlen:=Nat.eq_of_beq_eq_true hlen
   obtain ⟨el,hk⟩:=qK hk
   obtain ⟨hu,te,hte,hl',-⟩:=kI hty hk
   rw [Sd] at hl'
   simp only [List.cons.injEq,LT.sl.injEq,and_true] at hl'
   subst hl'
   obtain ⟨aa,cap,hv,hcap,-,-⟩:=Bd nH
   obtain ⟨lv,hv',hb1,hb2,hb3,hb4,h⟩:=sM hR lo hi hlo Bf hhi II h
   have hb3:=of_decide_eq_true hb3
   have hb4:=of_decide_eq_true hb4
   have hrun:=Bc hop hv hu (run_sizeOf (w:=w) (hΓ.ty _ _ hte)) hb1 hb2 hb3 hb4 hcap
   rw [<-hlen] at hrun
   rw [hv] at nH
   have hfin:=Qf (l:=lv.toNat) (h:=hv'.toNat) nH (by omega) (by omega)
   exact Gr (e:=.one ⟨.sn deps,.sl es,.l ((rows.take hv'.toNat).drop lv.toNat)⟩) hdst hd hR hK hrun ⟨hfin.single,trivial,h2,fun _=>hfin⟩ h
  ·cases hk
theorem yJ {ρ:Operand->Value} {s t:TypeId} {x:Operand} {v:Value} {w':World} (hop:o.op = .convert s t x) (h:(convert s t (ρ x)).run P w = .ok v w') :
  (execOp ρ o).run P w = .ok (.value v) w':=by
 simp only [execOp,hop]
 rw [Sem.run_bind,h]
 rfl
theorem Gs {S:au} : ∀ (rows:List (List T)) (b o:Nat),(∀ i (h:i<rows.length),dA w S S [.sc (.int .u8)] b (o+i * 1) rows[i]) ->
  ∃ ns:List Int,bH w b o (ns.map (Value.int .u8))/\ns.length=rows.length/\oU rows=⟨(ns.map fun n=>UInt8.ofNat n.toNat).toArray⟩
 | [],b,o,_=>⟨[],trivial,rfl,rfl⟩
 | r::rs,b,o,h=>by
  have h0:=h 0 (by simp)
  unfold dA at h0
  obtain ⟨d,rest,v,e1,-,hc,hl,-⟩:=h0
  unfold aG at hl
  obtain ⟨x,rfl,rfl,-⟩:=hl
  obtain ⟨ns,h1,h2,h3⟩:=Gs rs b (o+1) fun i hi=>by
   have:=h (i+1) (by simpa using hi)
   rw [show o+1+i * 1=o+(i+1) * 1 from by omega]
   simpa using this
  refine ⟨x::ns,⟨by simpa using hc,h1⟩,by simp [h2],?_⟩
  simp only [List.getElem_cons_zero] at e1
  unfold oU at h3 ⊢
  have h3:=List.toArray_inj (ByteArray.mk.inj h3)
  rw [List.map_cons,List.map_cons,h3,e1]
  rfl
theorem foldl_push (ns:List Int) : ∀ (acc:ByteArray),ns.foldl (fun r n=>r.push (UInt8.ofNat n.toNat)) acc=⟨(acc.data.toList++ns.map fun n=>UInt8.ofNat n.toNat).toArray⟩:=by
 induction ns with
 | nil=>intro acc; simp
 | cons n ns ih =>
  intro acc
  simp only [List.foldl_cons,ih]
  obtain ⟨data⟩:=acc
  simp [ByteArray.push]
theorem Sg {S:au} {v:Value} {rows:List (List T)} (h:aG w S (.sl [.sc (.int .u8)]) v (.l rows)) :
  (Conv.bytesToString v).run P w = .ok (.string (oU rows)) w/\(oU rows).size=rows.length:=by
 obtain ⟨aa,cap,rfl,h1,h2,h3⟩:=Bd h
 have hsz:(oU rows).size=rows.length:=by simp [oU,ByteArray.size]
 refine ⟨?_,hsz⟩
 rcases h3 with rfl | ⟨b,o,rfl,h3⟩
 ·cases aa with
  | none=>simp [Conv.bytesToString,oU]; rfl
  | some aa =>
   have:=run_bytesToString (P:=P) w aa 0 cap [] (by simp [loadCells,loadCellsFrom])
   exact this.trans rfl
 ·obtain ⟨ns,h4,h5,h6⟩:=Gs rows b o (by simpa using h3)
  have:=run_bytesToString (P:=P) w ⟨b,o,none⟩ rows.length cap ns (by
   have:=run_loadCells (P:=P) h4
   simpa [h5] using this)
  rw [this,h6,foldl_push]
  simp
theorem MC {k:TK} (h:K6 k=true):k = .sc (.int .u8):=by
 unfold K6 at h
 split at h
 ·rfl
 ·cases h
theorem Kn (hΓ:d9 Γ P) (hd:dB n.np n.nt o=true) (hR:R n σ g I a w) (hK:Post P n I w Q K) {s t:TypeId} {ts tt:TI} {x:Operand} {d0:Nat} (hop:o.op = .convert s t x)
  (hdst:o.dst=some d0) (hts:sK Γ P s ts) (htt:sK Γ P t tt) {e:eG} (he:iY σ.k g w I e (a.eval x)) (hno : ¬ (ts.kind = .sc .str /\ ∃ el,tt.kind = .slice el))
  (h:(Da Γ d0 ts tt e).wp cf σ tr Q):Goal P o a w K Qm:=by
 obtain ⟨ds,hus,hks⟩:=hts.und
 obtain ⟨dt,hut,hkt⟩:=htt.und
 unfold Da at h
 split at h
 ·rename_i k k' e1 e2
  rw [e1] at hks; rw [e2] at hkt
  obtain ⟨rfl,-⟩:=hks
  obtain ⟨rfl,-⟩:=hkt
  obtain ⟨st,d,rfl,hv,h⟩:=mQ he h
  split at h
  ·rw [<-hdst] at h
   obtain ⟨i,hv,rfl,-⟩:=hv
   exact kU hd hR hK (s:=.int k') (v:=.int k' (k'.wrap i)) (yJ hop (by rw [hv]; simp [convert,run_underlying hus,run_underlying hut,Conv.intToInt])) vI h
  ·exact h.elim
 ·rename_i e1 e2
  rw [e1] at hks; rw [e2] at hkt
  obtain ⟨rfl,-⟩:=hks
  obtain ⟨rfl,-⟩:=hkt
  obtain ⟨st,d,rfl,hv,h⟩:=mQ he h
  split at h
  ·rw [<-hdst] at h
   have hv':=hv
   obtain ⟨i,hv,rfl,-⟩:=hv
   exact kU hd hR hK (s:=.str) (v:=.string i) (yJ hop (by rw [hv]; simp [convert,run_underlying hus,run_underlying hut])) (by rw [<-hv]; exact hv') h
  ·exact h.elim
 ·rename_i e1 e2; exact absurd ⟨e1,_,e2⟩ hno
 ·rename_i el e1 e2
  rw [e1] at hks; rw [e2] at hkt
  obtain ⟨rfl,-⟩:=hks
  obtain ⟨rfl,-⟩:=hkt
  obtain ⟨te,-,hte,h⟩:=fA hΓ h
  obtain ⟨hb,h⟩:=h
  obtain ⟨de,hue,hke⟩:=hte.und
  rw [MC hb] at hke
  obtain ⟨rfl,-⟩:=hke
  obtain ⟨l,rfl,hl,h⟩:=Ba he h
  obtain ⟨es,rows,deps,t',h,nH,-,-⟩:=oZ hR hl h
  split at h
  ·rw [<-hdst] at h
   obtain ⟨h1,h2⟩:=Sg (P:=P) nH
   obtain ⟨aa,cap,hv,hc1,hc2,-⟩:=Bd nH
   refine kU hd hR hK (s:=.str) (yJ hop (v:=.string (oU rows)) ?_) ⟨_,rfl,rfl,?_⟩ h
   ·rw [hv] at h1 ⊢
    rw [run_convert_bytes_string (P:=P) w s t el aa _ _ hus hue hut]
    exact h1
   ·unfold bA at hc2
    omega
  ·exact h.elim
 ·exact h.elim
end
end Go.E

namespace Go.E
open Go
theorem Keeps.weaken {A B:au} {w w':World} (h:Keeps A w w') (hab : ∀ b o,B b o->A b o):Keeps B w w' :=
 ⟨h.size,fun b x hx=>by
  obtain ⟨y,hy,hk⟩:=h.obj b x hx
  refine ⟨y,hy,?_⟩
  cases x <;> simp only [nU] at hk ⊢ <;> try exact hk
  obtain ⟨c',h1,h2,h3⟩:=hk
  exact ⟨c',h1,h2,fun o ho=>h3 o (hab b o ho)⟩,h.os,h.output,h.tape⟩
def Gh.set (g:Gh) (k:Key) (h:Value) (F:au):Gh:=⟨fun u=>if u=k then h else g.h u,fun u=>if u=k then F else g.F u,g.D⟩
@[simp] theorem Gh.mh (g:Gh) (k:Key) (h:Value) (F:au):(g.set k h F).h k=h:=by simp [Gh.set]
@[simp] theorem Gh.iW (g:Gh) (k:Key) (h:Value) (F:au):(g.set k h F).F k=F:=by simp [Gh.set]
theorem Gh.vJ (g:Gh) {k u:Key} (h:Value) (F:au) (hu:u≠k):(g.set k h F).h u=g.h u:=by simp [Gh.set,hu]
theorem Gh.rA (g:Gh) {k u:Key} (h:Value) (F:au) (hu:u≠k):(g.set k h F).F u=g.F u:=by simp [Gh.set,hu]
theorem aN (σ:S) (k:Key) (e:KE):(σ.bD k e).k k=e:=by simp [S.bD,eZ]
theorem aL (σ:S) {k u:Key} (e:KE) (h:u≠k):(σ.bD k e).k u=σ.k u:=by
 have:dG u k=false:=by
  cases hb:dG u k
  ·rfl
  ·exact absurd ((dV _ _).1 hb) h
 simp [S.bD,this]
section
variable {P:Program} {w w':World} {I I' A:au} {κ κ':Key->KE} {g g':Gh}
theorem qL {n:Fr} {σ:S} {a:Act} (hR:R n σ g I a w) {k:Key} (hl:Live (σ.k k).ch) {b o:Nat} (hf:g.F k b o) : ∃ v,cellAt w b o=some v:=by
 have h:=hR.sj k
 cases hc:(σ.k k).ch with
 | gone=>rw [hc] at hl; exact hl.elim
 | fz es rows=>rw [hc] at hl; exact hl.elim
 | box ls =>
  rw [hc] at h
  obtain ⟨b',o',c,el,fz,-,h1,h2,-,h3,-⟩:=h
  obtain ⟨rfl,h4,h5⟩:=(h3 b o).1 hf
  rw [kH h1]
  exact ⟨_,Array.getElem?_eq_getElem (by omega)⟩
 | row es ms rows =>
  rw [hc] at h
  exact aS.cell h hf
 | Iq m j ls =>
  rw [hc] at h
  obtain ⟨⟨b',o',c,el,fz,-,h1,h2,-,h3,-⟩,-⟩:=h
  obtain ⟨rfl,h4,h5⟩:=(h3 b o).1 hf
  rw [kH h1]
  exact ⟨_,Array.getElem?_eq_getElem (by omega)⟩
 | hol es ms rows r j =>
  rw [hc] at h
  obtain ⟨-,-,-,b',cap,c,el,fz,B1,B2,-,-,h1,-,-,-,-,-,h3,-⟩:=h
  rcases (h3 b o).1 hf with ⟨rfl,h4,-⟩ | h4
  ·rw [kH h1]
   exact ⟨_,Array.getElem?_eq_getElem h4⟩
  ·exact R7 h4
theorem lS {b o:Nat} (h : ∃ v,cellAt w b o=some v):b<w.heap.size:=by
 obtain ⟨v,h⟩:=h
 unfold cellAt World.cell? at h
 simp only at h
 split at h
 ·rename_i hb
  exact (Array.getElem?_eq_some_iff.1 hb).1
 ·cases h
theorem kT.keep {ls:List Leaf} {h:Value} {F:au} (e:fG κ g w I κ' g' w' I') (hr:kT κ g w I ls h F) (hk:Keeps A w w') (hA : ∀ b o,F b o->A b o) :
  kT κ' g' w' I' ls h F:=by
 obtain ⟨b,o,c,el,fz,h1,h2,h3,h4,h5,h6⟩:=hr
 obtain ⟨c',h7,h8,h9⟩:=hk.block h2
 refine ⟨b,o,c',el,fz,h1,h7,by omega,h4,h5,?_⟩
 have:(c'.toList.drop o).take ls.length=(c.toList.drop o).take ls.length:=by
  apply List.ext_getElem?
  intro i
  by_cases hi:i<ls.length
  ·rw [List.getElem?_take_of_lt hi,List.getElem?_take_of_lt hi,List.getElem?_drop,List.getElem?_drop,Array.getElem?_toList,Array.getElem?_toList]
   exact h9 _ (hA _ _ ((h5 b (o+i)).2 ⟨rfl,by omega,by omega⟩))
  ·rw [List.getElem?_eq_none (by simp; omega),List.getElem?_eq_none (by simp; omega)]
 rw [this]
 exact e.Ue h6
theorem Mj.keep {k:Key} {m j:Nat} {ls:List Leaf} {h:Value} {F:au} (e:fG κ g w I κ' g' w' I') (hr:Mj κ g w I k m j ls h F) (hk:Keeps A w w') (hA : ∀ b o,F b o->A b o) :
  Mj κ' g' w' I' k m j ls h F:=by
 obtain ⟨⟨b,o,c,el,fz,h1,h2,h3,h4,h5,h6⟩,h7,h8⟩:=hr
 obtain ⟨c',h9,h10,h11⟩:=hk.block h2
 refine ⟨⟨b,o,c',el,fz,h1,h9,by omega,h4,h5,?_⟩,Nat.le_trans h7 (e.bK _),fun hi=>?_⟩
 ·have:(c'.toList.drop (o+m)).take ls.length=(c.toList.drop (o+m)).take ls.length:=by
   apply List.ext_getElem?
   intro i
   by_cases hi:i<ls.length
   ·rw [List.getElem?_take_of_lt hi,List.getElem?_take_of_lt hi,List.getElem?_drop,List.getElem?_drop,Array.getElem?_toList,Array.getElem?_toList]
    exact h11 _ (hA _ _ ((h5 b (o+m+i)).2 ⟨rfl,by omega,by omega⟩))
   ·rw [List.getElem?_eq_none (by simp; omega),List.getElem?_eq_none (by simp; omega)]
  rw [this]
  exact e.Ue h6
 ·have h12:(κ (lY k)).bK=j:=by have:=e.bK (lY k); omega
  rw [(e.head _ (hi.trans h12.symm)).1]; exact h8 h12
theorem Mk.keep {k:Key} {es:List LT} {ms:List M} {rows:List (List T)} {r j:Nat} {h:Value} {F:au} (e:fG κ g w I κ' g' w' I') (hr:Mk κ g w I k es ms rows r j h F) (hk:Keeps A w w') (hA : ∀ b o,F b o->A b o) :
  Mk κ' g' w' I' k es ms rows r j h F:=by
 obtain ⟨h0,h1,h2,b,cap,c,el,fz,B1,B2,h3,h4,h5,h6,h7,h8,h9,h10,h11,h12,h13⟩:=hr
 obtain ⟨c',hb,hsz,hcc⟩:=hk.block h5
 have hb1 : ∀ b∈B1++B2,∃ c el fz,Block w b c el fz:=fun x hx=>(List.mem_append.1 hx).elim (mR (I:=I) (fun vs ds bs h=>ak.blocks es h) _ h8 x) (mR (I:=I) (fun vs ds bs h=>ak.blocks es h) _ h9 x)
 have hcell : ∀ o,o<c.size->¬ (r * es.length<=o/\o<(r+1) * es.length)->c'[o]? = c[o]?:=fun o ho hn=>hcc o (hA _ _ ((h11 b o).2 (.inl ⟨rfl,ho,hn⟩)))
 have hF : ∀ x∈[B1,B2],∀ b o,FB w x b o->A b o:=fun x hx b o hf=>hA b o ((h11 b o).2 (.inr (qy (fun y hy=>by
  rcases List.mem_cons.1 hx with rfl | hx
  ·simp [hy]
  ·rw [List.mem_singleton.1 hx] at hy; simp [hy]) b o hf)))
 have hm:(r+1) * es.length<=cap * es.length:=Nat.mul_le_mul_right _ (by omega)
 have hr1:(rows.take r).length=r:=by rw [List.length_take]; omega
 refine ⟨h0,h1,h2,b,cap,c',el,fz,B1,B2,h3,h4,hb,hsz.trans h6,by rw [hsz]; exact h7,?_,?_,oW hk (fun x hx=>by
  rcases List.mem_cons.1 hx with rfl | hx
  ·exact ⟨c,el,fz,h5⟩
  ·exact hb1 x hx) h10,fun b' o'=>?_,Nat.le_trans h12 (e.bK _),fun hi=>?_⟩
 ·refine aK.cells (aK.imp (fun vs ds b' hb' h=>ak.keep hk e.iU es (fun b o hf=>hF B1 (by simp) b o (qy hb' b o hf)) h) h8) ?_
  rw [hr1]
  apply List.ext_getElem?
  intro i
  by_cases hi:i<r * es.length
  ·rw [List.getElem?_take_of_lt hi,List.getElem?_take_of_lt hi,Array.getElem?_toList,Array.getElem?_toList]
   exact hcell i (by rw [Nat.add_mul,Nat.one_mul] at hm; omega) (by omega)
  ·rw [List.getElem?_eq_none (by simp; omega),List.getElem?_eq_none (by simp; omega)]
 ·refine aK.cells (aK.imp (fun vs ds b' hb' h=>ak.keep hk e.iU es (fun b o hf=>hF B2 (by simp) b o (qy hb' b o hf)) h) h9) ?_
  congr 1
  apply List.ext_getElem?
  intro i
  rw [List.getElem?_drop,List.getElem?_drop,Array.getElem?_toList,Array.getElem?_toList]
  by_cases hi:(r+1) * es.length+i<c.size
  ·exact hcell _ hi (by omega)
  ·rw [Array.getElem?_eq_none (by omega),Array.getElem?_eq_none (by omega)]
 ·rw [h11,hsz,Dk hk hb1]
 ·have h14:(κ (gZ k)).bK=j:=by have:=e.bK (gZ k); omega
  rw [(e.head _ (hi.trans h14.symm)).1]; exact h13 h14
theorem EM.keep {k:Key} {ch:Ch} (e:fG κ g w I κ' g' w' I') (hk:Keeps A w w') (hA:Live ch->∀ b o,g.F k b o->A b o) (h1:g'.h k=g.h k) (h2:g'.F k=g.F k)
  (h:EM κ g w I k ch):EM κ' g' w' I' k ch:=by
 cases ch with
 | gone=>trivial
 | fz es rows=>simp only [EM] at h ⊢; rw [h1]; exact e.leaf h
 | box ls=>simp only [EM] at h ⊢; rw [h1,h2]; exact h.keep e hk (hA trivial)
 | row es ms rows=>simp only [EM] at h ⊢; rw [h1,h2]; exact h.keep hk (hA trivial) e.iU
 | Iq m j ls=>simp only [EM] at h ⊢; rw [h1,h2]; exact h.keep e hk (hA trivial)
 | hol es ms rows r j=>simp only [EM] at h ⊢; rw [h1,h2]; exact h.keep e hk (hA trivial)
end
section
variable {n:Fr} {σ:S} {g:Gh} {I:au} {a:Act} {w w':World}
theorem Keeps.p8 {w w':World} (h:Keeps (fun _ _=>True) w w') {b o:Nat} (hv : ∃ v,cellAt w b o=some v):cellAt w' b o=cellAt w b o:=h.cell trivial hv
theorem adF (hR:R n σ g I a w) (k:Key) (e:KE) (h:Value) (F:au) (h1:(σ.k k).bK<e.bK) (h2:(σ.k k).cv<e.cv) (hk:Keeps (fun _ _=>True) w w') :
  fG σ.k g w I (σ.bD k e).k (g.set k h F) w' I where
 cv u:=by by_cases hu:u=k; subst hu; rw [aN]; omega; rw [aL _ _ hu]; exact Nat.le_refl _
 bK u:=by by_cases hu:u=k; subst hu; rw [aN]; omega; rw [aL _ _ hu]; exact Nat.le_refl _
 foot u hc hl b o hf:=by
  by_cases hu:u=k
  ·subst hu; rw [aN] at hc; omega
  ·rw [aL _ _ hu,Gh.rA _ _ _ hu]
   exact ⟨.inl ⟨hl,hf⟩,hk.p8 (qL hR hl hf)⟩
 head u hc:=by
  by_cases hu:u=k
  ·subst hu; rw [aN] at hc; omega
  ·rw [aL _ _ hu,Gh.vJ _ _ _ hu]
   exact ⟨rfl,rfl⟩
 iU b o h:=⟨h,hk.p8 (hR.xA b o h)⟩
 dd b o h:=⟨h,hk.p8 (hR.x.WZ b o (hR.x.da b o h))⟩
theorem R.touch (hR:R n σ g I a w) {σ':S} {g':Gh} {I':au} (T:Key->Prop) (Z:au) (hs:σ'.s=σ.s) (hD:g'.D=g.D)
  (hsame : ∀ k,¬ T k->σ'.k k=σ.k k/\g'.h k=g.h k/\g'.F k=g.F k)
  (hT : ∀ k,T k->(σ.k k).cv<(σ'.k k).cv/\(σ.k k).bK<=(σ'.k k).bK/\((σ'.k k).bK=(σ.k k).bK->g'.h k=g.h k/\kR (σ'.k k).ch=kR (σ.k k).ch))
  (hpar : ∀ k,T k->fI n.np k->Live (σ'.k k).ch->g'.h k=n.H k)
  (hF : ∀ k,T k->Live (σ'.k k).ch->∀ b o,g'.F k b o->Z b o\/w.heap.size<=b)
  (hsep : ∀ k k',T k->T k'->Live (σ'.k k).ch->Live (σ'.k k').ch->k≠k'->au.apart (g'.F k) (g'.F k'))
  (hZ : ∀ u,¬ T u->Live (σ.k u).ch->au.apart (g.F u) Z) (hZI:au.apart Z I) (hZA:au.apart Z n.A)
  (hk:Keeps (fun b o=>¬ Z b o) w w')
  (hi1 : ∀ b o,I b o->I' b o) (hi2 : ∀ b o,I' b o->I b o\/Z b o\/w.heap.size<=b) (hi3 : ∀ k,T k->Live (σ'.k k).ch->au.apart (g'.F k) I') (hi4 : ∀ b o,I' b o->∃ v,cellAt w' b o=some v)
  (hch:fG σ.k g w I σ'.k g' w' I'->∀ k,T k->EM σ'.k g' w' I' k (σ'.k k).ch):R n σ' g' I' a w'/\fG σ.k g w I σ'.k g' w' I':=by
 have ev:fG σ.k g w I σ'.k g' w' I':=by
  refine ⟨fun k=>?_,fun k=>?_,fun k hc hl b o hf=>?_,fun k hc=>?_,fun b o h=>⟨hi1 b o h,hk.cell (fun hz=>hZI b o hz h) (hR.xA b o h)⟩,fun b o h=>⟨hD ▸ h,hk.cell (fun hz=>hZA b o hz (hR.x.da b o h)) (hR.x.WZ b o (hR.x.da b o h))⟩⟩
  ·by_cases ht:T k
   ·exact Nat.le_of_lt (hT k ht).1
   ·rw [(hsame k ht).1]; exact Nat.le_refl _
  ·by_cases ht:T k
   ·exact (hT k ht).2.1
   ·rw [(hsame k ht).1]; exact Nat.le_refl _
  ·by_cases ht:T k
   ·have:=(hT k ht).1; omega
   ·rw [(hsame k ht).1,(hsame k ht).2.2]
    exact ⟨.inl ⟨hl,hf⟩,hk.cell (fun hz=>hZ k ht hl b o hf hz) (qL hR hl hf)⟩
  ·by_cases ht:T k
   ·exact (hT k ht).2.2 hc
   ·rw [(hsame k ht).1]; exact ⟨(hsame k ht).2.1,rfl⟩
 have hap : ∀ u,¬ T u->Live (σ.k u).ch->∀ k,T k->Live (σ'.k k).ch->∀ b o,g.F u b o->g'.F k b o->False:=fun u hu hl k hk' hlk b o hfu hf=>by
  rcases hF k hk' hlk b o hf with hh | hh
  ·exact hZ u hu hl b o hfu hh
  ·have:=lS (qL hR hl hfu); omega
 refine ⟨⟨hR.size,hR.nd,fun t=>by rw [hs]; exact ev.ent (hR.slots t),fun u=>?_,fun u v hu hv huv=>?_,fun u hu=>?_,hi4,hR.x.step (hk.weaken fun b o ha hz=>hZA b o hz ha) hD (fun u hu=>?_) (fun b o hi=>?_)⟩,ev⟩
 ·by_cases ht:T u
  ·exact hch ev u ht
  ·obtain ⟨h1,h2,h3⟩:=hsame u ht
   rw [h1]
   exact EM.keep ev hk (fun hl b o hf hz=>hZ u ht hl b o hf hz) h2 h3 (hR.sj u)
 ·by_cases ht:T u
  ·by_cases hv':T v
   ·exact hsep u v ht hv' hu hv huv
   ·rw [(hsame v hv').1] at hv
    rw [(hsame v hv').2.2]
    exact fun b o h1 h2=>hap v hv' hv u ht hu b o h2 h1
  ·rw [(hsame u ht).1] at hu
   rw [(hsame u ht).2.2]
   by_cases hv':T v
   ·exact hap u ht hu v hv' hv
   ·rw [(hsame v hv').1] at hv
    rw [(hsame v hv').2.2]
    exact hR.sep u v hu hv huv
 ·by_cases ht:T u
  ·exact hi3 u ht hu
  ·rw [(hsame u ht).1] at hu
   rw [(hsame u ht).2.2]
   intro b o hf hi
   rcases hi2 b o hi with hi | hi | hi
   ·exact hR.iU u hu b o hf hi
   ·exact hZ u ht hu b o hf hi
   ·have:=lS (qL hR hu hf); omega
 ·by_cases ht:T u
  ·refine ⟨fun hp=>.inr (hpar u ht hp hu),fun b o hf ha=>?_⟩
   rcases hF u ht hu b o hf with hz | hz
   ·exact hZA b o hz ha
   ·have:=lS (hR.x.WZ b o ha); omega
  ·rw [(hsame u ht).1] at hu
   rw [(hsame u ht).2.1,(hsame u ht).2.2]
   exact ⟨fun _=>.inl ⟨hu,rfl⟩,hR.x.uN u hu⟩
 ·rcases hi2 b o hi with hi | hi | hi
  ·exact .inl hi
  ·exact .inr fun ha=>hZA b o hi ha
  ·exact .inr fun ha=>by have:=lS (hR.x.WZ b o ha); omega
theorem R.abj (hR:R n σ g I a w) (k:Key) (e:KE) (h:Value) (F:au) (h1:(σ.k k).bK<e.bK) (h2:(σ.k k).cv<e.cv) (hk:Keeps (fun _ _=>True) w w')
  (hkp : ¬ fI n.np k) (hF : ∀ b o,F b o->w.heap.size<=b) (hch:EM (σ.bD k e).k (g.set k h F) w' I k e.ch):R n (σ.bD k e) (g.set k h F) I a w':=by
 refine (hR.touch (σ':=σ.bD k e) (g':=g.set k h F) (I':=I) (w':=w') (fun u=>u=k) (fun _ _=>False) rfl rfl (fun u hu=>⟨aL _ _ hu,Gh.vJ _ _ _ hu,Gh.rA _ _ _ hu⟩) (fun u hu=>?_) (fun u hu hp=>?_) (fun u hu _ b o hf=>?_) (fun u v hu hv _ _ hne=>?_)
  (fun _ _ _ _ _ _ h=>h) (fun _ _ h _=>h) (fun _ _ h _=>h) (hk.weaken fun _ _ _=>trivial) (fun _ _ h=>h) (fun _ _ h=>.inl h) (fun u hu _ b o hf hi=>?_) (fun b o hi=>?_) (fun _ u hu=>?_)).1
 ·subst hu; rw [aN]; exact ⟨h2,Nat.le_of_lt h1,fun h=>by omega⟩
 ·subst hu; exact absurd hp hkp
 ·subst hu; rw [Gh.iW] at hf; exact .inr (hF b o hf)
 ·exact absurd (hu.trans hv.symm) hne
 ·subst hu; rw [Gh.iW] at hf
  have:=lS (hR.xA b o hi); have:=hF b o hf; omega
 ·obtain ⟨v,hv⟩:=hR.xA b o hi
  exact ⟨v,(hk.p8 ⟨v,hv⟩).trans hv⟩
 ·subst hu; rw [aN]; exact hch
theorem R.world (hR:R n σ g I a w) (hk:Keeps (fun _ _=>True) w w'):R n σ g I a w':=by
 have ev:fG σ.k g w I σ.k g w' I:=⟨fun _=>Nat.le_refl _,fun _=>Nat.le_refl _,fun u _ hl b o hf=>⟨.inl ⟨hl,hf⟩,hk.p8 (qL hR hl hf)⟩,fun _ _=>⟨rfl,rfl⟩,
  fun b o h=>⟨h,hk.p8 (hR.xA b o h)⟩,fun b o h=>⟨h,hk.p8 (hR.x.WZ b o (hR.x.da b o h))⟩⟩
 refine ⟨hR.size,hR.nd,fun t=>ev.ent (hR.slots t),fun u=>EM.keep ev hk (fun _ _ _ _=>trivial) rfl rfl (hR.sj u),hR.sep,hR.iU,fun b o hi=>?_,hR.x.step (hk.weaken fun _ _ _=>trivial) rfl (fun k h=>⟨fun _=>.inl ⟨h,rfl⟩,hR.x.uN k h⟩) (fun _ _ h=>.inl h)⟩
 obtain ⟨v,hv⟩:=hR.xA b o hi
 exact ⟨v,(hk.p8 ⟨v,hv⟩).trans hv⟩
theorem qM (w:World) (m:Nat):Keeps (fun _ _=>True) w { w with drawn:=m }:=⟨Nat.le_refl _,fun b x h=>⟨x,h,.refl _ _ _⟩,rfl,rfl,rfl⟩
def World.pushed (w:World) (o:Obj):World:={ w with heap:=w.heap.push o }
theorem ou (w:World) (o:Obj):Keeps (fun _ _=>True) w (World.pushed w o) :=
 ⟨by simp [World.pushed],fun b x h=>⟨x,by
  have hlt:=(Array.getElem?_eq_some_iff.1 h).1
  simp only [World.pushed,Array.getElem?_push_lt hlt]
  rw [<-h,Array.getElem?_eq_getElem hlt],.refl _ _ _⟩,rfl,rfl,rfl⟩
theorem rD (w:World) (c:Array Value) (el:TypeId) (fz:Nat×Nat):Block (World.pushed w (.cells c el fz)) w.heap.size c el fz:=by
 unfold Block World.pushed
 simp only [Array.getElem?_push_size]
theorem qz {P:Program} {el:TypeId} {c:Array Value} : (newRow el c).run P w = .ok ⟨w.heap.size,0,none⟩ (World.pushed w (.cells c el)):=by
 simp only [newRow,newObj]
 rfl
end
end Go.E

namespace Go.E
open Go
section
variable {n:Fr} {σ:S} {g:Gh} {I:au} {a:Act} {w w':World}
theorem R.freeze (hR:R n σ g I a w) {key:Key} {es:List LT} {ms:List M} {rows:List (List T)} (hc:(σ.k key).ch = .row es ms rows) :
  R n (σ.bD key { σ.k key with ch:=.fz es rows }) g (fun b o=>I b o\/g.F key b o) a w /\
  fG σ.k g w I (σ.bD key { σ.k key with ch:=.fz es rows }).k g w (fun b o=>I b o\/g.F key b o):=by
 have ev:fG σ.k g w I (σ.bD key { σ.k key with ch:=.fz es rows }).k g w (fun b o=>I b o\/g.F key b o):=by
  refine ⟨fun u=>?_,fun u=>?_,fun u hcv hl b o hf=>?_,fun u hid=>?_,fun b o h=>⟨.inl h,rfl⟩,fun b o h=>⟨h,rfl⟩⟩
  ·by_cases hu:u=key
   ·subst hu; rw [aN]; exact Nat.le_refl _
   ·rw [aL _ _ hu]; exact Nat.le_refl _
  ·by_cases hu:u=key
   ·subst hu; rw [aN]; exact Nat.le_refl _
   ·rw [aL _ _ hu]; exact Nat.le_refl _
  ·by_cases hu:u=key
   ·subst hu; exact ⟨.inr (.inr hf),rfl⟩
   ·rw [aL _ _ hu]; exact ⟨.inl ⟨hl,hf⟩,rfl⟩
  ·by_cases hu:u=key
   ·subst hu; rw [aN,hc]; exact ⟨rfl,rfl⟩
   ·rw [aL _ _ hu]; exact ⟨rfl,rfl⟩
 refine ⟨⟨hR.size,hR.nd,fun t=>ev.ent (hR.slots t),fun u=>?_,fun u v hu hv huv=>?_,fun u hu=>?_,fun b o hi=>?_,hR.x.step (Keeps.refl _ _) rfl (fun u hu=>?_) (fun b o hb=>?_)⟩,ev⟩
 ·by_cases Qg:u=key
  ·subst Qg
   rw [aN]
   have:=hR.sj u
   rw [hc] at this
   exact aS.leaf this (fun _ _ h=>.inl h) (fun _ _ h=>.inr h)
  ·rw [aL _ _ Qg]
   exact EM.keep ev (Keeps.refl (fun _ _=>True) w) (fun _ _ _ _=>trivial) rfl rfl (hR.sj u)
 ·have hu':u≠key:=by rintro rfl; rw [aN] at hu; exact hu
  have hv':v≠key:=by rintro rfl; rw [aN] at hv; exact hv
  rw [aL _ _ hu'] at hu
  rw [aL _ _ hv'] at hv
  exact hR.sep u v hu hv huv
 ·have hu':u≠key:=by rintro rfl; rw [aN] at hu; exact hu
  rw [aL _ _ hu'] at hu
  intro b o hf hi
  rcases hi with hi | hi
  ·exact hR.iU u hu b o hf hi
  ·exact hR.sep u key hu (by rw [hc]; trivial) hu' b o hf hi
 ·rcases hi with hi | hi
  ·exact hR.xA b o hi
  ·exact qL hR (by rw [hc]; trivial) hi
 ·have hu':u≠key:=by rintro rfl; rw [aN] at hu; exact hu
  rw [aL _ _ hu'] at hu
  exact ⟨fun _=>.inl ⟨hu,rfl⟩,hR.x.uN u hu⟩
 ·exact hb.imp id fun hf ha=>hR.x.uN key (by rw [hc]; trivial) b o hf ha
variable {cf:FuncId->List Arg->R3 fE} {Q:S->Tr->Prop}
structure Bg (n:Fr) (σ:S) (g:Gh) (I:au) (Z:au):Prop where
 live : ∀ u,Live (σ.k u).ch->au.apart (g.F u) Z
 iU:au.apart Z I
 uN:au.apart Z n.A
theorem Bg.none:Bg n σ g I (fun _ _=>False):=⟨fun _ _ _ _ _ h=>h,fun _ _ h _=>h,fun _ _ h _=>h⟩
theorem Bg.sub {Z Z':au} (h:Bg n σ g I Z) (hs : ∀ b o,Z' b o->Z b o):Bg n σ g I Z' :=
 ⟨fun u hu b o h1 h2=>h.live u hu b o h1 (hs b o h2),fun b o h1 h2=>h.iU b o (hs b o h1) h2,fun b o h1 h2=>h.uN b o (hs b o h1) h2⟩
theorem Bg.frz {Z:au} (h:Bg n σ g I Z) {key:Key} {es:List LT} {ms:List M} {rows:List (List T)} (hc:(σ.k key).ch = .row es ms rows):Bg n (σ.bD key { σ.k key with ch:=.fz es rows }) g (fun b o=>I b o\/g.F key b o) Z:=by
 refine ⟨fun u hu=>?_,fun b o h1 h2=>?_,h.uN⟩
 ·by_cases Qg:u=key
  ·subst Qg; rw [aN] at hu; exact hu.elim
  ·rw [aL _ _ Qg] at hu; exact h.live u hu
 ·rcases h2 with h2 | h2
  ·exact h.iU b o h1 h2
  ·exact h.live key (by rw [hc]; trivial) b o h2 h1
theorem R.gone (hR:R n σ g I a w) (k:Key):R n (σ.bD k ⟨.gone,(σ.k k).bK+1,(σ.k k).cv+1⟩) g I a w /\
  fG σ.k g w I (σ.bD k ⟨.gone,(σ.k k).bK+1,(σ.k k).cv+1⟩).k g w I:=by
 have nl : ¬ Live ((σ.bD k ⟨.gone,(σ.k k).bK+1,(σ.k k).cv+1⟩).k k).ch:=by rw [aN]; exact id
 refine hR.touch (σ':=σ.bD k ⟨.gone,(σ.k k).bK+1,(σ.k k).cv+1⟩) (g':=g) (I':=I) (w':=w) (fun u=>u=k) (fun _ _=>False) rfl rfl (fun u hu=>⟨aL _ _ hu,rfl,rfl⟩) (fun u hu=>?_) (fun u hu _ hl=>?_) (fun u hu hl=>?_) (fun u v hu _ hl=>?_)
  (fun _ _ _ _ _ _ h=>h) (fun _ _ h _=>h) (fun _ _ h _=>h) (Keeps.refl _ _) (fun _ _ h=>h) (fun _ _ h=>.inl h) (fun u hu hl=>?_) hR.xA (fun _ u hu=>?_)
 ·subst hu; rw [aN]; exact ⟨Nat.lt_succ_self _,Nat.le_succ _,fun h=>by have h:(σ.k u).bK+1=(σ.k u).bK:=h; omega⟩
 ·subst hu; exact (nl hl).elim
 ·subst hu; exact (nl hl).elim
 ·subst hu; exact (nl hl).elim
 ·subst hu; exact (nl hl).elim
 ·subst hu; rw [aN]; trivial
theorem Bg.gone (hR:R n σ g I a w) {Z:au} (h:Bg n σ g I Z) {key:Key} (hl:Live (σ.k key).ch):Bg n (σ.bD key ⟨.gone,(σ.k key).bK+1,(σ.k key).cv+1⟩) g I (fun b o=>Z b o\/g.F key b o):=by
 refine ⟨fun u hu=>?_,fun b o h1 h2=>?_,fun b o h1 h2=>?_⟩
 ·by_cases Qg:u=key
  ·subst Qg; rw [aN] at hu; exact hu.elim
  ·rw [aL _ _ Qg] at hu
   exact fun b o h1 h2=>h2.elim (h.live u hu b o h1) (hR.sep u key hu hl Qg b o h1)
 ·exact h1.elim (fun h1=>h.iU b o h1 h2) fun h1=>hR.iU key hl b o h1 h2
 ·exact h1.elim (fun h1=>h.uN b o h1 h2) fun h1=>hR.x.uN key hl b o h1 h2
theorem Ef : ∀ {es:List LT} {ms:List M} {ls:List Leaf} {vs:List Value} {σ:S} {I Z:au} {k:List T->Prog} {tr:Tr},R n σ g I a w->Bg n σ g I Z->bW σ.k g w I ls vs ->
  (vD es ms ls k).wp cf σ tr Q->∃ σ' I' dn ds bs,R n σ' g I' a w/\fG σ.k g w I σ'.k g w I'/\ak w I' es ms vs ds bs/\eO w bs/\Bg n σ' g I' (fun b o=>Z b o\/FB w bs b o)/\au.apart Z (FB w bs)/\σ'.s=σ.s /\
   (k ds).wp cf σ' dn Q
 | [],ms,[],[],σ,I,Z,k,tr,hR,hZ,hl,h=>⟨σ,I,tr,[],[],hR,fG.refl,by unfold ak; exact ⟨rfl,rfl,rfl⟩,by unfold eO; trivial,hZ.sub (fun b o h=>h.elim id fun h=>(nomatch h.1)),(fun b o _ h=>(nomatch h.1)),rfl,h⟩
 | [],_,[],_::_,σ,I,Z,k,tr,hR,hZ,hl,h=>hl.elim
 | [],_,_::_,vs,σ,I,Z,k,tr,hR,hZ,hl,h=>h.elim
 | _::_,_,[],vs,σ,I,Z,k,tr,hR,hZ,hl,h=>h.elim
 | e::es,_,l::ls,[],σ,I,Z,k,tr,hR,hZ,hl,h=>hl.elim
 | e::es,ms,l::ls,v::vs,σ,I,Z,k,tr,hR,hZ,hl,h=>by
  obtain ⟨st,lt,d⟩:=l
  have step : ∀ (d:T) (b1:List Nat) (σ₁:S) (I₁:au) (aeA:Tr),R n σ₁ g I₁ a w->fG σ.k g w I σ₁.k g w I₁->σ₁.s=σ.s->bO w I₁ e (ms.headD .F) v d b1->eO w b1->Bg n σ₁ g I₁ (fun b o=>Z b o\/FB w b1 b o)->au.apart Z (FB w b1) ->
    (vD es ms.tail ls fun ds=>k (d::ds)).wp cf σ₁ aeA Q ->
    ∃ σ' I' dn ds bs,R n σ' g I' a w/\fG σ.k g w I σ'.k g w I'/\ak w I' (e::es) ms (v::vs) ds bs/\eO w bs/\Bg n σ' g I' (fun b o=>Z b o\/FB w bs b o)/\au.apart Z (FB w bs)/\σ'.s=σ.s/\(k ds).wp cf σ' dn Q:=by
   intro d b1 σ₁ I₁ aeA agZ ev hs hc hn hz hza h
   obtain ⟨σ',I',dn,ds,b2,h1,h2,h3,h4,h5,h6,h7,h8⟩:=Ef agZ hz (ev.Ue hl.2) h
   refine ⟨σ',I',dn,d::ds,b1++b2,h1,ev.trans h2,?_,jA.2 ⟨hn,h4,uP.1 fun b o h9 h10=>h6 b o (.inr h9) h10⟩,h5.sub fun b o h9=>?_,fun b o h9 h10=>?_,h7.trans hs,h8⟩
   ·unfold ak
    exact ⟨v,vs,d,ds,b1,b2,rfl,rfl,rfl,bO.same (fun b o hb=>(h2.iU b o hb).1) hc,h3⟩
   ·rw [kV] at h9
    rcases h9 with h9 | h9 | h9
    ·exact .inl (.inl h9)
    ·exact .inl (.inr h9)
    ·exact .inr h9
   ·rcases kV.1 h10 with h10 | h10
    ·exact hza b o h9 h10
    ·exact h6 b o (.inl h9) h10
  have hzn : ∀ {σ₁:S} {I₁:au},Bg n σ₁ g I₁ Z->Bg n σ₁ g I₁ (fun b o=>Z b o\/FB w [] b o):=fun hz=>hz.sub fun b o h=>h.elim id fun h=>(nomatch h.1)
  have abk:au.apart Z (FB w []):=fun b o _ h=>(nomatch h.1)
  obtain ⟨hs,hl1⟩:=hl.1
  unfold vD at h
  simp only at h hl1
  split at h
  ·rename_i s s' _ _ _
   split at h
   ·rename_i hss
    subst hss
    obtain ⟨s',e1,hv⟩:=hl1
    cases e1
    exact step d [] σ I tr hR fG.refl rfl (by unfold bO; exact ⟨hv,rfl⟩) trivial (hzn hZ) abk h
   ·exact h.elim
  ·obtain ⟨-,rfl,-⟩:=hl1
   rename_i es'
   have hnil:aG w I (.sl es') (.slice none 0 0) (.l []):=by unfold aG; exact ⟨none,0,[],rfl,rfl,Nat.le_refl _,Nat.zero_le _,.inl rfl⟩
   obtain ⟨hne,h⟩:=h
   refine step (.l []) [] σ I tr hR fG.refl rfl ?_ trivial (hzn hZ) abk h
   cases hm:ms.headD .F with
   | F=>unfold bO; exact ⟨hnil,rfl⟩
   | O x =>
    rw [hm] at hne
    unfold bO
    exact ⟨[],rfl,by intro e; subst e; simp at hne,Nat.zero_le _,.inl ⟨⟨_,rfl⟩,rfl,rfl⟩⟩
  ·rename_i es'
   cases hm:ms.headD .F with
   | O x=>rw [hm] at h; exact h.elim
   | F =>
    rw [hm] at h
    simp only at h
    cases hb:LT.beq (.sl es') lt with
    | false=>rw [hb] at h; exact h.elim
    | true =>
     rw [hb] at h
     have hlt:=LT.beq_eq hb
     subst hlt
     obtain ⟨-,-,h1⟩:=hl1
     have h2:=h1 (Gp _)
     refine step d [] σ I tr hR fG.refl rfl ?_ trivial (hzn hZ) abk h
     rw [hm]; unfold bO
     exact ⟨aG.mono (fun b o hb=>hb.elim id (fun ⟨d,hd,_⟩=>(nomatch hd))) (fun _ _ _=>rfl) _ h2,rfl⟩
  ·rename_i es' key m
   obtain ⟨-,h1,h2⟩:=hl1
   obtain ⟨h3,h⟩:=h
   have hv:=h2 (Nat.eq_of_beq_eq_true h3)
   subst hv
   have hch:=hR.sj key
   split at h
   ·rename_i es'' rows e1
    rw [e1] at hch
    cases hm:ms.headD .F with
    | O x=>rw [hm] at h; exact h.elim
    | F =>
     rw [hm] at h
     simp only at h
     cases hb:LT.dQ es' es'' with
     | false=>rw [hb] at h; exact h.elim
     | true =>
      rw [hb] at h
      have:=LT.bI hb
      subst this
      refine step (.l rows) [] σ I _ hR fG.refl rfl ?_ trivial (hzn hZ) abk h
      rw [hm]; unfold bO
      exact ⟨hch,rfl⟩
   ·rename_i es'' afd rows e1
    rw [e1] at hch
    cases hm:ms.headD .F with
    | F =>
     rw [hm] at h
     simp only at h
     cases hb:LT.dQ es' es'' with
     | false=>rw [hb] at h; exact h.elim
     | true =>
      rw [hb] at h
      have:=LT.bI hb
      subst this
      obtain ⟨h4,h5⟩:=hR.freeze e1
      refine step (.l rows) [] _ _ _ h4 h5 rfl ?_ trivial (hzn (hZ.frz e1)) abk h
      rw [hm]; unfold bO
      exact ⟨aS.leaf hch (fun _ _ h=>.inl h) (fun _ _ h=>.inr h),rfl⟩
    | O ms' =>
     rw [hm] at h
     simp only at h
     cases hb:(LT.dQ es' es''&&M.dQ ms' afd) with
     | false=>rw [hb] at h; exact h.elim
     | true =>
      rw [hb] at h
      simp only [Bool.and_eq_true] at hb
      have:=LT.bI hb.1
      subst this
      have:=M.bI hb.2
      subst this
      obtain ⟨h4,h5⟩:=hR.gone key
      obtain ⟨bs,hn,hc,hF⟩:=hch
      have hlive:Live (σ.k key).ch:=by rw [e1]; trivial
      refine step (.l rows) bs _ _ _ h4 h5 rfl (by rw [hm]; exact hc) hn ((hZ.gone hR hlive).sub fun b o h=>h.imp id fun h=>(hF b o).2 h) (fun b o h9 h10=>hZ.live key hlive b o ((hF b o).2 h10) h9) h
   ·exact h.elim
  ·exact h.elim
end
end Go.E

namespace Go.E
open Go
section
variable {w:World} {I S A:au}
def dH (w:World) (I:au) (es:List LT):List (List T)->List Value->Prop
 | [],_=>True
 | r::rs,cs=>aT w I es (cs.take es.length) r/\dH w I es rs (cs.drop es.length)
theorem dH.row {b:Nat} {c:Array Value} {el:TypeId} {fz:Nat×Nat} {es:List LT} (hb:Block w b c el fz) : ∀ (rows:List (List T)) (k:Nat),dH w I es rows (c.toList.drop k)->k+rows.length * es.length<=c.size ->
  ∀ i (hi:i<rows.length),dA w (fun _ _=>True) I es b (k+i * es.length) rows[i]
 | [],_,_,_,i,hi=>by simp at hi
 | r::rs,k,h,hn,i,hi=>by
  have hn':k+es.length+rs.length * es.length<=c.size:=by simp only [List.length_cons,Nat.add_mul] at hn; omega
  cases i with
  | zero =>
   refine dA.Yy (vs:=(c.toList.drop k).take es.length) (by simpa using h.1) (bH.of_block hb _ _ fun j hj=>?_)
   simp only [List.length_take,List.length_drop,Array.length_toList] at hj
   simp only [List.getElem_take,List.getElem_drop,Array.getElem_toList,Nat.zero_mul,Nat.add_zero]
   exact Array.getElem?_eq_getElem (by omega)
  | succ i =>
   have h2:=h.2
   rw [List.drop_drop] at h2
   have:=dH.row hb rs (k+es.length) h2 hn' i (by simpa using hi)
   rw [show k+(i+1) * es.length=k+es.length+i * es.length from by rw [Nat.add_mul]; omega]
   simpa using this
theorem dH.mono {w w':World} {I I':au} (h : ∀ b o,I b o->I' b o/\cellAt w' b o=cellAt w b o) {es:List LT} : ∀ {rows:List (List T)} {cs:List Value},dH w I es rows cs->dH w' I' es rows cs
 | [],_,_=>trivial
 | _::_,_,hh=>⟨hh.1.mono h,dH.mono h hh.2⟩
theorem dH.toM {es:List LT} {ms:List M} (hm:ZA ms) : ∀ {rows:List (List T)} {cs:List Value},dH w I es rows cs->aK (fun vs ds bs=>ak w I es ms vs ds bs) es.length rows cs []
 | [],cs,_=>rfl
 | r::rs,cs,h=>⟨[],[],rfl,ak.of_flat hm h.1,dH.toM hm h.2⟩
theorem aK.toV {es:List LT} {ms:List M} {S:au} (hs : ∀ b o,I b o->S b o) : ∀ {rows:List (List T)} {cs:List Value} {bs:List Nat},(∀ b o,FB w bs b o->S b o)->aK (fun vs ds bs=>ak w I es ms vs ds bs) es.length rows cs bs->dH w S es rows cs
 | [],cs,bs,_,_=>trivial
 | r::rs,cs,bs,hb,h=>by
  obtain ⟨b1,b2,rfl,h1,h2⟩:=h
  exact ⟨ak.leaves hs es (fun b o h=>hb b o (kV.2 (.inl h))) h1,aK.toV hs (fun b o h=>hb b o (kV.2 (.inr h))) h2⟩
theorem dH.app {es:List LT} : ∀ {rows rows':List (List T)} {cs cs':List Value},dH w I es rows cs->cs.length=rows.length * es.length->dH w I es rows' cs'->dH w I es (rows++rows') (cs++cs')
 | [],rows',cs,cs',h,hn,h'=>by
  have:cs=[]:=List.length_eq_zero_iff.1 (by simpa using hn)
  subst this; exact h'
 | r::rs,rows',cs,cs',h,hn,h'=>by
  simp only [List.length_cons,Nat.add_mul,Nat.one_mul] at hn
  have hle:es.length<=cs.length:=by omega
  refine ⟨?_,?_⟩
  ·rw [List.take_append_of_le_length hle]; exact h.1
  ·rw [List.drop_append_of_le_length hle]
   exact dH.app h.2 (by rw [List.length_drop]; omega) h'
theorem dH.tail {es:List LT} : ∀ {rows:List (List T)} {cs cs':List Value},dH w I es rows cs->dH w I es rows (cs++cs')
 | [],cs,cs',h=>trivial
 | r::rs,cs,cs',h=>by
  have hlen:=h.1.len.1
  have hle:es.length<=cs.length:=by rw [List.length_take] at hlen; omega
  refine ⟨?_,?_⟩
  ·rw [List.take_append_of_le_length hle]; exact h.1
  ·rw [List.drop_append_of_le_length hle]; exact dH.tail h.2
end
section
variable {Γ:Ctx} {P:Program} {cf:FuncId->List Arg->R3 fE}
variable {n:Fr} {σ:S} {g:Gh} {I:au} {a:Act} {w w':World}
variable {o:Oper} {f:FuncId} {tr:Tr} {Q:S->Tr->Prop} {K:Act->World->Prop} {Qm:Exit->Act->World->Prop}
theorem YB {d0:Nat} {c:Array Value} {el:TypeId} {ls:List Leaf} (hdst:o.dst=some d0) (hd:dB n.np n.nt o=true) (hR:R n σ g I a w) (hK:Post P n I w Q K)
  (hrun:(execOp a.eval o).run P w = .ok (.value (.pointer (some ⟨w.heap.size,0,none⟩))) (World.pushed w (.cells c el))) (hl:bW σ.k g w I ls c.toList)
  (h:(aaZ d0 ls).wp cf σ tr Q):Goal P o a w K Qm:=by
 refine xB hrun ?_
 rw [hdst]
 obtain ⟨hdn,hkp⟩:=Dj hd hdst
 let F:au:=fun b o'=>b=w.heap.size/\o'<c.size
 have hk:=ou w (.cells c el)
 have ev:=adF hR [d0+2000000] ⟨.box ls,(σ.k [d0+2000000]).bK+1,(σ.k [d0+2000000]).cv+1⟩ (.pointer (some ⟨w.heap.size,0,none⟩)) F (by simp) (by simp) hk
 have hlen:=hl.len
 have abl:kT (σ.bD [d0+2000000] ⟨.box ls,(σ.k [d0+2000000]).bK+1,(σ.k [d0+2000000]).cv+1⟩).k (g.set [d0+2000000] (.pointer (some ⟨w.heap.size,0,none⟩)) F) (World.pushed w (.cells c el)) I ls (.pointer (some ⟨w.heap.size,0,none⟩)) F:=by
  refine ⟨w.heap.size,0,c,el,(0,0),rfl,rD w c el (0,0),by simp at hlen; omega,fun j hj=>by omega,fun b' o'=>?_,?_⟩
  ·simp only [F,Nat.zero_le,true_and,Nat.zero_add]
   simp at hlen
   rw [hlen]
  ·rw [List.drop_zero,<-hlen,List.take_length]
   exact ev.Ue hl
 have hR':=hR.abj [d0+2000000] ⟨.box ls,(σ.k [d0+2000000]).bK+1,(σ.k [d0+2000000]).cv+1⟩ (.pointer (some ⟨w.heap.size,0,none⟩)) F (by simp) (by simp) hk (hkp n.big _) (fun b o' hf=>by rw [hf.1]; exact Nat.le_refl _)
  (by simp only [EM,Gh.mh,Gh.iW]; exact abl)
 refine hK _ _ _ I _ _ h (hR'.put hdn (e:=.ptr [d0+2000000] ((σ.k [d0+2000000]).bK+1) 0 0) ⟨⟨fun _ h=>(nomatch h),fun _ h=>(nomatch h)⟩,?_,fun _=>⟨w.heap.size,0,rfl,?_⟩⟩) (fun _ _ h=>h) (hk.weaken fun _ _ _=>trivial)
 ·rw [aN]; exact Nat.le_refl _
 ·rw [Gh.mh]; rfl
theorem ME {d0:Nat} {c:Array Value} {el:TypeId} {fz:Nat×Nat} {es:List LT} {ms:List M} {rows:List (List T)} {b cap:Nat} {bs:List Nat} {p:Prog} {Q:S->Tr->Prop} (hdst:o.dst=some d0) (hd:dB n.np n.nt o=true) (hR:R n σ g I a w) (hK:Post P n I w Q K)
  (hk:Keeps (fun _ _=>True) w w') (hb:w.heap.size<=b) (hblk:Block w' b c el fz) (hfz : ∀ o',o'<=c.size->¬ (fz.1<=o'/\o'<fz.2))
  (hrun:(execOp a.eval o).run P w = .ok (.value (.slice (some ⟨b,0,none⟩) rows.length cap)) w') (hes:es≠[]) (h1:rows.length<=bA) (h2:rows.length<=cap)
  (h4:c.size=cap * es.length) (hn:eO w bs) (hz:Bg n σ g I (FB w bs)) (hrows:aK (fun vs ds bs=>ak w I es ms vs ds bs) es.length rows c.toList bs) (h:(Jv d0 es ms rows).wp cf σ tr Q):Goal P o a w K Qm:=by
 refine xB hrun ?_
 rw [hdst]
 obtain ⟨hdn,hkp⟩:=Dj hd hdst
 have hbs : ∀ x∈bs,∃ c el fz,Block w x c el fz:=mR (I:=I) (fun vs ds bs h=>ak.blocks es h) _ hrows
 have hlt : ∀ x∈bs,x<w.heap.size:=fun x hx=>by
  obtain ⟨c,el,fz,h⟩:=hbs x hx
  exact (Array.getElem?_eq_some_iff.1 h).1
 let F:au:=fun b' o'=>(b'=b/\o'<c.size)\/FB w bs b' o'
 let e:KE:=⟨.row es ms rows,(σ.k [d0+2000000]).bK+1,(σ.k [d0+2000000]).cv+1⟩
 have hiI : ∀ b o,I b o->I b o/\cellAt w' b o=cellAt w b o:=fun b o hi=>⟨hi,hk.p8 (hR.xA b o hi)⟩
 have hrow:aS w' I es ms rows (.slice (some ⟨b,0,none⟩) rows.length cap) F:=by
  refine aS.mk' hes h1 h2 hblk h4 hfz (aK.imp (fun vs ds b' _ h=>ak.keep hk hiI es (fun _ _ _=>trivial) h) hrows) ⟨fun hm=>?_,oW hk hbs hn⟩ (fun b' o'=>?_)
  ·have:=hlt b hm; omega
  ·rw [Dk hk hbs]
 obtain ⟨hR',-⟩:=hR.touch (σ':=σ.bD [d0+2000000] e) (g':=g.set [d0+2000000] (.slice (some ⟨b,0,none⟩) rows.length cap) F) (I':=I) (w':=w') (fun u=>u=[d0+2000000]) (FB w bs) rfl rfl
  (fun u hu=>⟨aL _ _ hu,Gh.vJ _ _ _ hu,Gh.rA _ _ _ hu⟩) (fun u hu=>by subst hu; rw [aN]; exact ⟨Nat.lt_succ_self _,Nat.le_succ _,fun h=>by have h:(σ.k [d0+2000000]).bK+1=(σ.k [d0+2000000]).bK:=h; omega⟩)
  (fun u hu hp=>by subst hu; exact absurd hp (hkp n.big _)) (fun u hu _ b' o' hf=>by subst hu; rw [Gh.iW] at hf; exact hf.elim (fun h=>.inr (by rw [h.1]; exact hb)) .inl)
  (fun u v hu hv _ _ hne=>absurd (hu.trans hv.symm) hne) (fun u _ hl=>hz.live u hl) hz.iU hz.uN (hk.weaken fun _ _ _=>trivial) (fun _ _ h=>h) (fun _ _ h=>.inl h)
  (fun u hu _ b' o' hf hi=>by
   subst hu; rw [Gh.iW] at hf
   rcases hf with hf | hf
   ·have:=lS (hR.xA b' o' hi); rw [hf.1] at this; omega
   ·exact hz.iU b' o' hf hi)
  (fun b' o' hi=>by obtain ⟨v,hv⟩:=hR.xA b' o' hi; exact ⟨v,(hk.p8 ⟨v,hv⟩).trans hv⟩)
  (fun _ u hu=>by subst hu; rw [aN]; simp only [e,EM,Gh.mh,Gh.iW]; exact hrow)
 refine hK _ _ _ I _ _ h (hR'.put hdn (e:=.one ⟨.al [d0+2000000] ((σ.k [d0+2000000]).bK+1),.sl es,.l []⟩) ⟨⟨fun _ h=>(nomatch h),fun _ h=>(nomatch h)⟩,trivial,?_,fun _=>?_⟩) (fun _ _ h=>h) (hk.weaken fun _ _ _=>trivial)
 ·rw [aN]; exact Nat.le_refl _
 ·rw [Gh.mh]
theorem Dm {κ:Key->KE} : ∀ {aO:List LT} {vs:List Value},Di aO vs->bW κ g w I (aO.map F3) vs
 | [],[],_=>trivial
 | lt::aO,v::vs,h=>by
  refine ⟨?_,Dm h.2⟩
  have h1:=h.1
  cases lt with
  | sl es=>cases h1; exact ⟨⟨fun _ h=>(nomatch h),fun _ h=>(nomatch h)⟩,trivial,rfl,rfl⟩
  | sc s =>
   cases s with
   | int k=>cases h1; exact ⟨⟨fun _ h=>(nomatch h),fun _ h=>(nomatch h)⟩,.int k,rfl,0,rfl,rfl,Gm k⟩
   | bool=>cases h1; exact ⟨⟨fun _ h=>(nomatch h),fun _ h=>(nomatch h)⟩,.bool,rfl,false,rfl,rfl⟩
   | str=>cases h1; exact ⟨⟨fun _ h=>(nomatch h),fun _ h=>(nomatch h)⟩,.str,rfl,.empty,rfl,rfl,by decide⟩
   | any=>exact ⟨h1,trivial⟩
 | [],_::_,h=>h.elim
 | _::_,[],h=>h.elim
theorem JC : ∀ {aO:List LT} {vs:List Value},Di aO vs->aO.all (fun l=>match l with | .sc .any=>false | _=>true)=true->aT w I aO vs (aO.map CY)
 | [],[],_,_=>trivial
 | lt::aO,v::vs,h,ha=>by
  simp only [List.all_cons,Bool.and_eq_true] at ha
  refine ⟨?_,JC h.2 ha.2⟩
  have h1:=h.1
  unfold aG
  cases lt with
  | sl es=>cases h1; exact ⟨none,0,[],rfl,rfl,Nat.le_refl _,Nat.zero_le _,.inl rfl⟩
  | sc s =>
   cases s with
   | int k=>cases h1; exact ⟨0,rfl,rfl,Gm k⟩
   | bool=>cases h1; exact ⟨false,rfl,rfl⟩
   | str=>cases h1; exact ⟨.empty,rfl,rfl,by decide⟩
   | any=>simp at ha
 | [],_::_,h,_=>h.elim
 | _::_,[],h,_=>h.elim
theorem p9 {t:TypeId} {ti:TI} (h:sK Γ P t ti) : ∃ z,(zeroValue t).run P w = .ok z w/\Di ti.aO z.cells.toList:=by
 obtain ⟨i,h1,-,-,-,-,z,hz,h2⟩:=h.info
 exact ⟨z,by simp [zeroValue,typeInfo,h1,hz,go_sem],h2⟩
theorem Gt {κ:Key->KE} {e:eG} {v:Value} {ls:List Leaf} (he:iY κ g w I e v) (h:Ac e=some ls):bW κ g w I ls v.cells.toList:=by
 cases e with
 | one l =>
  cases h
  have h1:CP κ g w I l v:=he
  rw [h1.1.cells]
  exact ⟨h1,trivial⟩
 | agg ls' =>
  cases h
  obtain ⟨cs,rfl,h1⟩:=he
  exact h1
 | _=>cases h
end
end Go.E

