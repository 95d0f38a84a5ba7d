/- A part of the proof: texts ECore, EMin, ERel, EBase, EOps1, EOps2, EOps3, EOps4, EOwn, EOps5, EOps6, EOps7, EOps8, EMem, EOps9, EOps10: see the last part's opening words. -/
import Derived.Orders
import Derived.Tactics
import Derived.Laws.StructEq
import Derived.Laws.BytesString
set_option linter.unusedVariables false
set_option linter.unusedSimpArgs false
set_option linter.unnecessarySimpa false
namespace Go.E
inductive ST where
 | int (k:IntKind) | bool | str | any
 deriving DecidableEq,Repr,Inhabited
inductive LT where
 | sc (s:ST) | sl (es:List LT)
 deriving Repr,Inhabited
inductive T where
 | i (n:Int) | b (x:Bool) | s (x:ByteArray) | l (rows:List (List T)) | x (v:Value)
 deriving Inhabited
def T.int:T->Int | .i n=>n | _=>0
def T.bool:T->Bool | .b y=>y | _=>false
def T.str:T->ByteArray | .s y=>y | _=>.empty
def T.rows:T->List (List T) | .l r=>r | _=>[]
mutual
def LT.beq:LT->LT->Bool
 | .sc a,.sc b=>decide (a=b)
 | .sl a,.sl b=>LT.eH a b
 | _,_=>false
def LT.eH:List LT->List LT->Bool
 | [],[]=>true
 | a::as,b::bs=>LT.beq a b&&LT.eH as bs
 | _,_=>false
end
abbrev Key:=List Nat
def dQ:Key->Key->Bool
 | [],[]=>true
 | a::as,b::bs=>Nat.beq a b&&dQ as bs
 | _,_=>false
def uS:Key:=[4000000]
inductive M where
 | F | O (ms:List M)
 deriving Inhabited,Repr
mutual
def M.beq:M->M->Bool
 | .F,.F=>true
 | .O a,.O b=>M.eH a b
 | _,_=>false
def M.eH:List M->List M->Bool
 | [],[]=>true
 | a::az,b::bs=>M.beq a b&&M.eH az bs
 | _,_=>false
end
mutual
def M.OQ:M->M->Bool
 | _,.F=>true
 | .O a,.O b=>M.vN a b
 | .F,.O _=>false
def M.vN:List M->List M->Bool
 | [],[]=>true
 | a::az,b::bs=>M.OQ a b&&M.vN az bs
 | _,_=>false
end
abbrev Dp:=Key×Nat
inductive St where
 | sc | nl | sn (deps:List Dp) | sb (k:Key) (n cv r off:Nat) | al (k:Key) (n:Nat) | dead
 deriving Inhabited,Repr
structure Leaf where
 st:St
 lt:LT
 d:T
 deriving Inhabited
inductive fC where
 | one (l:Leaf) | agg (ls:List Leaf) | OT (es:List fC)
 | ptr (k:Key) (n i off:Nat)
 | rp (deps:List Dp) (aR:List LT) (row:List T)
 | fn (f:FuncId) (caps:List fC)
 | und | junk
 deriving Inhabited
inductive Ch where
 | box (ls:List Leaf) | row (es:List LT) (ms:List M) (rows:List (List T)) | fz (es:List LT) (rows:List (List T)) | gone
 | K9 (m j:Nat) (ls:List Leaf)
 | hol (es:List LT) (ms:List M) (rows:List (List T)) (r j:Nat)
 deriving Inhabited
structure KE where
 ch:Ch
 bQ:Nat
 cv:Nat
 deriving Inhabited
structure S where
 s:Nat->fC
 k:Key->KE
inductive R3 (α:Type) where
 | ok (a:α) | out | bad
 deriving Inhabited
inductive AL where
 | sc (s:ST) (d:T) | fz (es:List LT) (rows:List (List T)) | own (es:List LT) (ms:List M) (rows:List (List T)) | nl (es:List LT)
 | dz (es:List LT) (rows:List (List T))
 deriving Inhabited
inductive Arg where
 | one (l:AL) | agg (ls:List AL)
 | Ie (aR:List LT) (row:List T)
 | bx (ls:List AL)
 | fn (f:FuncId) (caps:List Arg)
 deriving Inhabited
inductive RL where
 | sc (s:ST) (d:T) | fz (es:List LT) (rows:List (List T)) | own (k:Key) (es:List LT) (ms:List M) (rows:List (List T)) | nl (es:List LT)
 | par (i j:Nat) | dz (es:List LT) (rows:List (List T))
 deriving Inhabited
inductive RE where
 | one (l:RL) | agg (ls:List RL)
 | bx (k:Key) (ls:List RL)
 | none
 deriving Inhabited
structure fV where
 rs:List RE
 owns:List (List (Option (List LT×List M×List (List T))))
 bxs:List (Option (List RL))
 deriving Inhabited
inductive Prog where
 | ret | fail | out
 | ig (c:Bool) (p:Prog)
 | lim (c:Bool) (p:Prog)
 | br (c:Bool) (p q:Prog)
 | Dq (t:Nat) (k:fC->Prog)
 | mG (t:Nat) (e:fC) (p:Prog)
 | fZ (k:Key) (c:KE->Prog)
 | bK (k:Key) (e:KE) (p:Prog)
 | call (f:FuncId) (args:List Arg) (k:fV->Prog)
structure Tr where
 rs:List Nat:=[]
 ws:List Nat:=[]
 rk:List Key:=[]
 wk:List Key:=[]
 deriving Inhabited
def S.mG (σ:S) (t:Nat) (e:fC):S:={ σ with s:=fun u=>cond (Nat.beq u t) e (σ.s u) }
def S.bK (σ:S) (k:Key) (e:KE):S:={ σ with k:=fun u=>cond (dQ u k) e (σ.k u) }
def R3.bind {α β:Type} (r:R3 α) (k:α->R3 β):R3 β:=match r with | .ok a=>k a | _=>.bad
variable (cf:FuncId->List Arg->R3 fV)
def Prog.run {α:Type} : Prog->S->Tr->(S->Tr->R3 α)->R3 α
 | .ret,σ,tr,K=>K σ tr
 | .fail,_,_,_=>.bad
 | .out,_,_,_=>.bad
 | .ig c p,σ,tr,K=>cond c (p.run σ tr K) .bad
 | .lim _ p,σ,tr,K=>p.run σ tr K
 | .br c p q,σ,tr,K=>cond c (p.run σ tr K) (q.run σ tr K)
 | .Dq t k,σ,tr,K=>(k (σ.s t)).run σ { tr with rs:=t::tr.rs } K
 | .mG t e p,σ,tr,K=>p.run (σ.mG t e) { tr with ws:=t::tr.ws } K
 | .fZ k c,σ,tr,K=>(c (σ.k k)).run σ { tr with rk:=k::tr.rk } K
 | .bK k e p,σ,tr,K=>p.run (σ.bK k e) { tr with wk:=k::tr.wk } K
 | .call f args k,σ,tr,K=>(cf f args).bind fun r=>(k r).run σ tr K
inductive TK where
 | sc (s:ST) | slice (elem:TypeId) | struct (fs:List (Nat×TypeId)) | array (n:Nat) (elem:TypeId) | ptr (elem:TypeId) | other
 deriving Inhabited
structure TI where
 kind:TK
 aR:List LT
 bytes:Nat
 flat:Bool
 deriving Inhabited
inductive PM where
 | R | F | O (ms:List M)
 deriving Inhabited,Repr
structure Sig where
 pms:List (List PM)
 deriving Inhabited
structure Ctx where
 ty:TypeId->Option TI
 fn:FuncId->Option Func
 sig:FuncId->Sig
 own:FuncId->Nat->Bool
 ms:FuncId->Nat->List M
 cut:FuncId->Nat->Nat
 cast:FuncId->Nat->List M
 box:FuncId->Nat->List M
 rg:FuncId->Nat->List (Nat×Nat)
 ret:FuncId->Bool
 can:FuncId->Nat->List M
def E8:LT->T
 | .sc (.int _)=>.i 0 | .sc .bool=>.b false | .sc .str=>.s .empty | .sc .any=>.x .nilIface | .sl _=>.l []
def Jj:LT->Leaf
 | .sl es=>⟨.nl,.sl es,.l []⟩
 | .sc .any=>⟨.dead,.sc .any,.l []⟩
 | lt=>⟨.sc,lt,E8 lt⟩
def Dr:Value->Option Leaf
 | .bool b=>some ⟨.sc,.sc .bool,.b b⟩
 | .int k n=>if k.min<=n/\n<=k.max then some ⟨.sc,.sc (.int k),.i n⟩ else none
 | .string s=>if s.size<9223372036854775808 then some ⟨.sc,.sc .str,.s s⟩ else none
 | .slice none 0 0=>some ⟨.nl,.sl [],.l []⟩
 | _=>none
def dflt:T:=.i 0
def aaC (deps:List Dp) (lt:LT) (d:T):Leaf :=
 match lt with
 | .sl _=>⟨.sn deps,lt,d⟩
 | _=>⟨.sc,lt,d⟩
def zh:TK->Bool
 | .struct _ | .array _ _=>true
 | _=>false
def E9 (agg:Bool) (ls:List Leaf):fC :=
 cond agg (.agg ls) (match ls with | [l]=>.one l | _=>.junk)
def Cw:fC->Option (List Leaf)
 | .one l=>some [l]
 | .agg ls=>some ls
 | _=>none
section ops
variable (Γ:Ctx)
def pF {α:Type} (o:Option α) (k:α->Prog):Prog:=match o with | some a=>k a | none=>.fail
def vJ (t:TypeId) (k:TI->Prog):Prog:=pF (Γ.ty t) k
def rd (x:Operand) (k:fC->Prog):Prog :=
 match x with
 | .tmp t=>.Dq t k
 | .const (.pointer none)=>k .junk
 | .const (.agg cs)=>pF (cs.toList.mapM Dr) fun ls=>k (.agg ls)
 | .const v=>pF (Dr v) fun l=>k (.one l)
 | .func f=>k (.fn f [])
 | .global _=>.fail
def BL (ds:List Dp) (p:Prog):Prog :=
 match ds with
 | []=>p
 | (k,n)::ds=>.fZ k fun ke=>.ig (Nat.beq ke.cv n) (BL ds p)
def xK (l:Leaf) (k:List LT->List (List T)->List Dp->Prog):Prog :=
 match l.lt,l.st with
 | .sl es,.nl=>k es [] []
 | .sl es,.sn deps=>BL deps (k es l.d.rows deps)
 | .sl es,.sb key _ cv _ _=>BL [(key,cv)] (k es l.d.rows [(key,cv)])
 | .sl _,.al key n=>.fZ key fun ke=>.ig (Nat.beq ke.bQ n) (match ke.ch with
   | .row es _ rows=>k es rows [(key,ke.cv)]
   | .fz es rows=>k es rows []
   | _=>.fail)
 | _,_=>.fail
def vO (e:fC) (k:ST->T->Prog):Prog :=
 match e with
 | .one ⟨.sc,.sc s,d⟩=>k s d
 | _=>.fail
def VJ (e:fC) (k:Leaf->Prog):Prog:=match e with | .one l=>k l | _=>.fail
def OU (ms:List M):Bool:=ms.all fun m=>match m with | .F=>true | .O _=>false
def xL:List LT->List M->List Leaf->(List T->Prog)->Prog
 | [],_,[],k=>k []
 | e::es,ms,l::ls,k =>
  match e,l.lt,l.st with
  | .sc s,.sc s',.sc=>if s=s' then xL es ms.tail ls fun ds=>k (l.d::ds) else .fail
  | .sl es',_,.nl=>.ig (match ms.headD .F with | .F=>true | .O _=>!es'.isEmpty) (xL es ms.tail ls fun ds=>k (.l []::ds))
  | .sl _,lt,.sn []=>(match ms.headD .F with
    | .F=>cond (LT.beq e lt) (xL es ms.tail ls fun ds=>k (l.d::ds)) .fail
    | .O _=>.fail)
  | .sl es',_,.al key n=>.fZ key fun ke=>.ig (Nat.beq ke.bQ n) (match ke.ch with
    | .fz es'' rows=>(match ms.headD .F with
      | .F=>cond (LT.eH es' es'') (xL es ms.tail ls fun ds=>k (.l rows::ds)) .fail
      | .O _=>.fail)
    | .row es'' alr rows=>(match ms.headD .F with
      | .F=>cond (LT.eH es' es'') (.bK key { ke with ch:=.fz es'' rows } (xL es ms.tail ls fun ds=>k (.l rows::ds))) .fail
      | .O ms'=>cond (LT.eH es' es''&&M.eH ms' alr) (.bK key ⟨.gone,ke.bQ+1,ke.cv+1⟩ (xL es ms.tail ls fun ds=>k (.l rows::ds))) .fail)
    | _=>.fail)
  | _,_,_=>.fail
 | _,_,_,_=>.fail
def Mq (dst:Nat) (es:List LT) (ms:List M) (rows:List (List T)):Prog :=
 .fZ [dst+2000000] fun ke=>.bK [dst+2000000] ⟨.row es ms rows,ke.bQ+1,ke.cv+1⟩ (.mG dst (.one ⟨.al [dst+2000000] (ke.bQ+1),.sl es,.l []⟩) .ret)
def VK (key:Key) (k:Prog):Prog:=.fZ key fun ke=>match ke.ch with
 | .row es _ rows=>.bK key { ke with ch:=.fz es rows } k
 | _=>.fail
def alu (fz:Bool) (dst:Nat) (es:List LT) (ms:List M) (rows:List (List T)):Prog :=
 .fZ [dst+2000000] fun ke=>.bK [dst+2000000] ⟨.row es ms rows,ke.bQ+1,ke.cv+1⟩ (.mG dst (.one ⟨.al [dst+2000000] (ke.bQ+1),.sl es,.l []⟩) (cond fz (VK [dst+2000000] .ret) .ret))
def afm (dst:Nat) (ls:List Leaf):Prog :=
 .fZ [dst+2000000] fun ke=>.bK [dst+2000000] ⟨.box ls,ke.bQ+1,ke.cv+1⟩ (.mG dst (.ptr [dst+2000000] (ke.bQ+1) 0 0) .ret)
def Jk (key:Key) (n cv r off:Nat) (lt:LT) (m:M) (d:T):Leaf :=
 match lt,m with
 | .sl _,.O _=>⟨.sb key n cv r off,lt,d⟩
 | .sl _,_=>⟨.sn [],lt,d⟩
 | _,_=>⟨.sc,lt,d⟩
def La (key:Key) (n cv r off size:Nat) (es:List LT) (ms:List M) (row:List T):List Leaf :=
 (List.range size).map fun j=>Jk key n cv r (off+j) (es.getD (off+j) default) (ms.getD (off+j) .F) (row.getD (off+j) dflt)
def Jl (deps:List Dp) (size:Nat) (es:List LT) (row:List T):List Leaf :=
 (List.range size).map fun j=>aaC deps (es.getD j default) (row.getD j dflt)
def setMany (row:List T) (off:Nat):List T->List T
 | []=>row
 | d::ds=>setMany (row.set off d) (off+1) ds
def iI (s:ByteArray):List (List T):=s.data.toList.map fun b=>[T.i b.toNat]
def qV (rows:List (List T)):ByteArray:=⟨(rows.map fun r=>UInt8.ofNat (r.getD 0 dflt).int.toNat).toArray⟩
def kX (k:IntKind) (r:BitVec k.bits):T:=.i (k.wrap r.toNat)
def aaD (op:BinOp) (k:IntKind) (x y:Int) (K:ST->T->Prog):Prog :=
 match op with
 | .add=>K (.int k) (.i (k.wrap (x+y)))
 | .sub=>K (.int k) (.i (k.wrap (x-y)))
 | .mul=>K (.int k) (.i (k.wrap (x * y)))
 | .quo=>.ig (!decide (y=0)) (K (.int k) (.i (k.wrap (x.tdiv y))))
 | .rem=>.ig (!decide (y=0)) (K (.int k) (.i (x.tmod y)))
 | .and=>K (.int k) (kX k (BitVec.ofInt k.bits x &&& BitVec.ofInt k.bits y))
 | .or=>K (.int k) (kX k (BitVec.ofInt k.bits x ||| BitVec.ofInt k.bits y))
 | .xor=>K (.int k) (kX k (BitVec.ofInt k.bits x ^^^ BitVec.ofInt k.bits y))
 | .andNot=>K (.int k) (kX k (BitVec.ofInt k.bits x &&& ~~~ BitVec.ofInt k.bits y))
 | .eql=>K .bool (.b (x==y))
 | .neq=>K .bool (.b (x != y))
 | .lss=>K .bool (.b (decide (x<y)))
 | .leq=>K .bool (.b (decide (x<=y)))
 | .gtr=>K .bool (.b (decide (x > y)))
 | .geq=>K .bool (.b (decide (x>=y)))
 | _=>.fail
def aaE (op:BinOp) (x y:ByteArray) (K:ST->T->Prog):Prog :=
 let eq:=x.toList==y.toList
 let lt:=Op.bytesLess x.toList y.toList
 match op with
 | .add=>.ig (decide (x.size+y.size<9223372036854775808)) (K .str (.s (x++y)))
 | .eql=>K .bool (.b eq)
 | .neq=>K .bool (.b (!eq))
 | .lss=>K .bool (.b lt)
 | .leq=>K .bool (.b (lt||eq))
 | .gtr=>K .bool (.b (!(lt||eq)))
 | .geq=>K .bool (.b (!lt))
 | _=>.fail
def afn:ST->T->T->Option Bool
 | .int _,x,y=>some (x.int==y.int)
 | .bool,x,y=>some (x.bool==y.bool)
 | .str,x,y=>some (x.str.toList==y.str.toList)
 | .any,_,_=>none
def zi:List LT->List Leaf->List Leaf->Option Bool
 | [],[],[]=>some true
 | .sc c::aR,⟨.sc,.sc a,x⟩::ls,⟨.sc,.sc b,y⟩::rs =>
  if c=a/\c=b then
   match afn c x y,zi aR ls rs with
   | some b,some r=>some (b&&r)
   | _,_=>none
  else none
 | _,_,_=>none
def VL:TK->Bool | .sc .bool=>true | _=>false
def anY (ti:TI) (op:BinOp) (x y:fC) (K:ST->T->Prog):Prog :=
 match x,y with
 | .one ⟨.sc,.sc (.int k),a⟩,.one ⟨.sc,.sc (.int k'),b⟩ =>
  match op with
  | .shl=>.ig (decide (0<=b.int)) (K (.int k) (.i (k.wrap (a.int * 2 ^ (min b.int.toNat k.bits)))))
  | .shr=>.ig (decide (0<=b.int)) (K (.int k) (.i (a.int.fdiv (2 ^ (min b.int.toNat k.bits)))))
  | _=>if k=k' then aaD op k a.int b.int K else .fail
 | .one ⟨.sc,.sc .str,a⟩,.one ⟨.sc,.sc .str,b⟩=>aaE op a.str b.str K
 | .one ⟨.sc,.sc .bool,a⟩,.one ⟨.sc,.sc .bool,b⟩ =>
  cond (VL ti.kind) (match op with
  | .eql=>K .bool (.b (a.bool==b.bool))
  | .neq=>K .bool (.b (!(a.bool==b.bool)))
  | _=>.fail) .fail
 | .agg ls,.agg rs =>
  cond ti.flat (match op with
  | .eql=>pF (zi ti.aR ls rs) fun r=>K .bool (.b r)
  | .neq=>pF (zi ti.aR ls rs) fun r=>K .bool (.b (!r))
  | _=>.fail) .fail
 | _,_=>.fail
def put (dst:Option Nat) (e:fC):Prog:=match dst with | some d=>.mG d e .ret | none=>.ret
def adQ:List LT->List M->Bool
 | [],_=>true
 | e::es,ms=>(match e,ms.headD .F with | .sl es',.O _=>!es'.isEmpty | _,_=>true)&&adQ es ms.tail
def Gf (ms:Nat->List M) (d:Nat) (es:List LT):List M:=match ms d with | []=>es.map fun _=>.F | l=>l
def afo (own:Nat->Bool) (ms:Nat->List M) (dst:Option Nat) (e:fC):Prog :=
 match dst,e with
 | some d0,.one ⟨.nl,.sl es,_⟩=>cond (own d0 && !es.isEmpty) (Mq d0 es (Gf ms d0 es) []) (put dst e)
 | _,_=>put dst e
def qb (dst:Option Nat) (s:ST) (d:T):Prog:=put dst (.one ⟨.sc,.sc s,d⟩)
def bG:Nat:=140737488355328
def ak:Nat:=1099511627776
def xM (es:List LT):Bool:=es.all fun t=>match t with | .sc _=>true | _=>false
def vL:Nat:=999999
structure wQ where
 key:Key
 bQ:Nat
 es:List LT
 i:Nat
 j:Nat
structure Pass where
 args:List Arg
 gq:List wQ
 deps:List Dp
def wR (i j:Nat) (m:PM) (l:Leaf) (c:Pass) (k:AL->Pass->Prog):Prog :=
 match l.lt,l.st with
 | .sc s,.sc=>k (.sc s l.d) c
 | .sl es,.nl=>(match m with
  | .R=>k (.dz es []) c
  | .F=>k (.fz es []) c
  | .O _=>k (.nl es) c)
 | .sl es,.sn deps=>(match m with
  | .R=>BL deps (k (.dz es l.d.rows) { c with deps:=deps++c.deps })
  | .F=>(match deps with | []=>k (.fz es l.d.rows) c | _=>.fail)
  | .O _=>.fail)
 | .sl es,.sb key _ cv _ _=>(match m with
  | .R=>BL [(key,cv)] (k (.dz es l.d.rows) { c with deps:=(key,cv)::c.deps })
  | _=>.fail)
 | .sl es0,.al key n=>.fZ key fun ke=>.ig (Nat.beq ke.bQ n) (match ke.ch,m with
  | .fz es rows,.R=>.ig (LT.eH es0 es) (k (.dz es rows) c)
  | .fz es rows,.F=>.ig (LT.eH es0 es) (k (.fz es rows) c)
  | .row es _ rows,.R=>.ig (LT.eH es0 es) (k (.dz es rows) { c with deps:=(key,ke.cv)::c.deps })
  | .row es ms rows,.O _=>.ig (LT.eH es0 es&&Nat.blt j vL) (k (.own es ms rows) { c with gq:=⟨key,n,es,i,j⟩::c.gq })
  | _,_=>.fail)
 | _,_=>.fail
def Ig (i:Nat):Nat->List PM->List Leaf->Pass->(List AL->Pass->Prog)->Prog
 | _,_,[],c,k=>k [] c
 | j,ms,l::ls,c,k=>wR i j (ms.headD .R) l c fun a c=>Ig i (j+1) (ms.drop 1) ls c fun as c=>k (a::as) c
def zk:List Leaf->Pass->(List LT->List T->Pass->Prog)->Prog
 | [],c,k=>k [] [] c
 | l::ls,c,k =>
  match l.lt,l.st with
  | .sc s,.sc=>zk ls c fun aR ds c=>k (.sc s::aR) (l.d::ds) c
  | _,_=>xK l fun es rows deps=>zk ls { c with deps:=deps++c.deps } fun aR ds c=>k (.sl es::aR) (.l rows::ds) c
def Jm (sz:Option Nat) (e:fC) (c:Pass) (k:Arg->Pass->Prog):Prog :=
 let aaF {α:Type} (l:List α):List α:=match sz with | some n=>l.take n | none=>l
 match e with
 | .ptr key n r off=>.fZ key fun ke=>.ig (Nat.beq ke.bQ n) (match ke.ch with
  | .box ls=>zk (aaF (ls.drop off)) { c with deps:=(key,ke.cv)::c.deps } fun aR ds c=>k (.Ie aR ds) c
  | .row es _ rows=>.ig (decide (r<rows.length)) (k (.Ie (aaF (es.drop off)) (aaF ((rows.getD r []).drop off))) { c with deps:=(key,ke.cv)::c.deps })
  | .fz es rows=>.ig (decide (r<rows.length)) (k (.Ie (aaF (es.drop off)) (aaF ((rows.getD r []).drop off))) c)
  | _=>.fail)
 | .rp deps aR row=>BL deps (k (.Ie (aaF aR) (aaF row)) { c with deps:=deps++c.deps })
 | _=>.fail
def jc (key:Key):Key:=3000000::key
def nZ (key:Key) (j:Nat):Key:=3000001::j::key
def og (key:Key):Key:=3000002::key
def tV (key:Key):Nat->List LT->List M->List T->(List Leaf->Prog)->Prog
 | _,[],_,_,k=>k []
 | j,e::es,ms,ds,k =>
  let d:=ds.headD dflt
  match e,ms.headD .F with
  | .sl es',.O ms'=>.fZ (nZ key j) fun ke=>.bK (nZ key j) ⟨.row es' ms' d.rows,ke.bQ+1,ke.cv+1⟩
    (tV key (j+1) es ms.tail ds.tail fun ls=>k (⟨.al (nZ key j) (ke.bQ+1),.sl es',.l []⟩::ls))
  | .sl es',.F=>tV key (j+1) es ms.tail ds.tail fun ls=>k (⟨.sn [],.sl es',d⟩::ls)
  | .sc s,_=>tV key (j+1) es ms.tail ds.tail fun ls=>k (⟨.sc,.sc s,d⟩::ls)
def Jo (key:Key) (r:Nat) (k:Nat->List Leaf->Prog):Prog :=
 .fZ key fun ke=>match ke.ch with
  | .row es ms rows=>.ig (decide (r<rows.length)) (.fZ (jc key) fun kb=>.bK key ⟨.hol es ms rows r (kb.bQ+1),ke.bQ,ke.cv+1⟩ (tV key 0 es ms (rows.getD r []) fun ls =>
    .bK (jc key) ⟨.box ls,kb.bQ+1,kb.cv+1⟩ (k (kb.bQ+1) ls)))
  | _=>.fail
def XO (key:Key) (es0:List LT) (ms0:List M) (ds:List T) (p:Prog):Prog :=
 .fZ key fun ke=>.fZ (jc key) fun kb=>match ke.ch,kb.ch with
  | .hol es ms rows r j,.box ls=>.ig (Nat.beq kb.bQ j&&Nat.beq ls.length es.length&&LT.eH es0 es&&M.eH ms0 ms) (.bK (jc key) ⟨.gone,kb.bQ+1,kb.cv+1⟩ (.bK key ⟨.row es ms (rows.set r ds),ke.bQ,ke.cv+1⟩ p))
  | _,_=>.fail
def Jp (key:Key) (p:Prog):Prog :=
 .fZ key fun ke=>.fZ (jc key) fun kb=>match ke.ch,kb.ch with
  | .hol es ms _ _ j,.box ls=>.ig (Nat.beq kb.bQ j) (xL es ms ls fun ds=>XO key es ms ds p)
  | _,_=>.fail
def VO (key:Key) (m:Nat) (k:Nat->Prog):Prog :=
 .fZ key fun ke=>match ke.ch with
  | .box ls=>.ig (Nat.ble m ls.length) (.fZ (og key) fun kb=>.bK key ⟨.K9 m (kb.bQ+1) (ls.drop m),ke.bQ,ke.cv+1⟩ (.bK (og key) ⟨.box (ls.take m),kb.bQ+1,kb.cv+1⟩ (k (kb.bQ+1))))
  | _=>.fail
def OV (key:Key) (p:Prog):Prog :=
 .fZ key fun ke=>.fZ (og key) fun kb=>match ke.ch,kb.ch with
  | .K9 m j rest,.box ls=>.ig (Nat.beq ls.length m&&Nat.beq kb.bQ j) (.bK (og key) ⟨.gone,kb.bQ+1,kb.cv+1⟩ (.bK key ⟨.box (ls++rest),ke.bQ,ke.cv+1⟩ p))
  | _,_=>.fail
def closeAll:List (Bool×Key)->Prog->Prog
 | [],p=>p
 | (b,k)::os,p=>cond b (Jp k (closeAll os p)) (OV k (closeAll os p))
def wS (nk:Key) (m:PM) (l:Leaf) (os:List (Bool×Key)) (k:Leaf->List (Bool×Key)->Prog):Prog :=
 match m with
 | .R=>k l os
 | .F=>(match l.st with
  | .al key n=>.fZ key fun ke=>.ig (Nat.beq ke.bQ n) (match ke.ch with
   | .row es _ rows=>.bK key { ke with ch:=.fz es rows } (k ⟨.sn [],.sl es,.l rows⟩ os)
   | .fz es rows=>k ⟨.sn [],.sl es,.l rows⟩ os
   | _=>.fail)
  | _=>k l os)
 | .O ms=>(match l.st with
  | .nl=>(match ms,l.lt with
   | [],_=>k l os
   | ms,.sl es=>.ig (!es.isEmpty) (.fZ nk fun ke=>.bK nk ⟨.row es ms [],ke.bQ+1,ke.cv+1⟩ (k ⟨.al nk (ke.bQ+1),.sl es,.l []⟩ os))
   | _,_=>.fail)
  | .sb key n cv r off=>.fZ key fun ke=>.ig (Nat.beq ke.bQ n&&Nat.beq ke.cv cv) (Jo key r fun _ ls=>.ig (Nat.blt off ls.length) (k (ls.getD off default) ((true,key)::os)))
  | .al key n=>(match ms with
   | []=>k l os
   | ms=>.fZ key fun ke=>.ig (Nat.beq ke.bQ n) (match ke.ch with
    | .row es ms0 rows=>cond (M.eH ms0 ms) (k l os) (.ig (M.vN ms0 ms) (.bK key ⟨.row es ms rows,ke.bQ,ke.cv+1⟩ (k l os)))
    | _=>k l os))
  | _=>k l os)
def qw (nk:Key):Nat->List PM->List Leaf->List (Bool×Key)->(List Leaf->List (Bool×Key)->Prog)->Prog
 | _,_,[],os,k=>k [] os
 | j,ms,l::ls,os,k=>wS (5000000::j::nk) (ms.headD .R) l os fun l os=>qw nk (j+1) (ms.drop 1) ls os fun ls os=>k (l::ls) os
def isO:PM->Bool | .O _=>true | _=>false
def anZ (pm:List PM):Bool:=pm.any isO
def needs:List PM->List Leaf->Bool
 | m::pm,l::ls=>(match m,l.st with
  | .O (_::_),.nl=>true
  | .O (_::_),.al _ _=>true
  | .F,.al _ _=>true
  | _,_=>false)||needs pm ls
 | _,_=>false
def Jq (key:Key) (n:Nat) (pm:List PM) (os:List (Bool×Key)) (k:List (Bool×Key)->Prog):Prog :=
 .fZ key fun ke=>.ig (Nat.beq ke.bQ n) <| match ke.ch with
  | .box ls=>cond (needs pm ls) (qw key 0 pm ls os fun ls' os=>.fZ key fun ke=>.ig (Nat.beq ke.bQ n) (match ke.ch with
   | .box ls0=>.ig (Nat.beq ls'.length ls0.length) (.bK key ⟨.box ls',ke.bQ,ke.cv+1⟩ (k os))
   | _=>.fail)) (k os)
  | _=>k os
def Jr (nk:Key) (pm:List PM) (e:fC) (os:List (Bool×Key)) (k:fC->List (Bool×Key)->Prog):Prog :=
 match e with
 | .one l=>wS nk (pm.headD .R) l os fun l os=>k (.one l) os
 | .agg ls=>qw nk 0 pm ls os fun ls os=>k (.agg ls) os
 | .ptr key n r off=>cond (anZ pm) (.fZ key fun ke=>.ig (Nat.beq ke.bQ n&&Nat.beq off 0) (match ke.ch with
   | .box ls=>cond (Nat.blt pm.length ls.length) (VO key pm.length fun m=>Jq (og key) m pm ((false,key)::os) (k (.ptr (og key) m 0 0)))
     (Jq key n pm os (k e))
   | .row es _ _=>.ig (Nat.beq pm.length es.length) (Jo key r fun m _=>Jq (jc key) m pm ((true,key)::os) (k (.ptr (jc key) m 0 0)))
   | _=>.fail)) (k e os)
 | e=>k e os
def Oo (d:Nat):Nat->List (List PM)->List fC->List (Bool×Key)->(List fC->List (Bool×Key)->Prog)->Prog
 | _,_,[],os,k=>k [] os
 | i,pms,e::es,os,k=>Jr [d+2000000,700+i] (pms.headD []) e os fun e os=>Oo d (i+1) (pms.drop 1) es os fun es os=>k (e::es) os
def Lb (i j:Nat) (l:Leaf) (c:Pass) (k:AL->Pass->Prog):Prog :=
 match l.lt,l.st with
 | .sl _,.al key _=>.fZ key fun ke=>match ke.ch with
  | .row _ _ _=>wR i j (.O []) l c k
  | _=>wR i j .F l c k
 | .sl _,.nl=>wR i j (.O []) l c k
 | _,_=>wR i j .F l c k
def Fa (i:Nat):Nat->List Leaf->Pass->(List AL->Pass->Prog)->Prog
 | _,[],c,k=>k [] c
 | j,l::ls,c,k=>Lb i j l c fun a c=>Fa i (j+1) ls c fun as c=>k (a::as) c
def VP (i sz:Nat) (e:fC) (c:Pass) (k:Arg->Pass->Prog):Prog :=
 match e with
 | .ptr key n _ off=>.fZ key fun ke=>.ig (Nat.beq ke.bQ n) (match ke.ch with
  | .box ls=>.ig (Nat.beq off 0&&Nat.beq ls.length sz&&Nat.ble sz 1000) (Fa i 0 ls { c with gq:=⟨key,n,[],i,vL⟩::c.gq } fun as c=>k (.bx as) c)
  | _=>.fail)
 | _=>.fail
def OX:List fC->Pass->(List Arg->Pass->Prog)->Prog
 | [],c,k=>k [] c
 | e::es,c,k=>Jm none e c fun a c=>OX es c fun as c=>k (a::as) c
def VQ (i:Nat) (pm:List PM) (e:fC) (c:Pass) (k:Arg->Pass->Prog):Prog :=
 match e with
 | .one l=>wR i 0 (pm.headD .R) l c fun a c=>k (.one a) c
 | .agg ls=>Ig i 0 pm ls c fun as c=>k (.agg as) c
 | .fn f caps=>OX caps c fun as c=>k (.fn f as) c
 | e=>cond (anZ pm) (VP i pm.length e c k) (Jm (cond pm.isEmpty none (some pm.length)) e c k)
def VR (pms:List (List PM)):Nat->List fC->Pass->(List Arg->Pass->Prog)->Prog
 | _,[],c,k=>k [] c
 | i,e::es,c,k=>VQ i (pms.getD i []) e c fun a c=>VR pms (i+1) es c fun as c=>k (a::as) c
def Gg (deps:List Dp):List wQ->Bool
 | []=>true
 | x::xs=>!(xs.any fun y=>dQ x.key y.key||(Nat.beq x.i y.i&&Nat.beq x.j y.j)) && !(deps.any fun d=>dQ x.key d.1)&&Gg deps xs
def wT (i j:Nat):List wQ->Option wQ
 | []=>none
 | l::ls=>cond (Nat.beq l.i i&&Nat.beq l.j j) (some l) (wT i j ls)
def lI (r:fV) (i j:Nat):Option (List LT×List M×List (List T)):=(r.owns.getD i []).getD j none
def xO (r:fV) (i:Nat):Option (List RL):=r.bxs.getD i none
def afp (l:Leaf):Leaf:={ l with st:=.dead,d:=.l [] }
def wU (r:fV):List wQ->Prog->Prog
 | [],p=>p
 | l::ls,p=>.fZ l.key fun ke=>cond (Nat.beq l.j vL)
  (match ke.ch with
  | .box old=>(match xO r l.i with
   | some rls=>.ig (Nat.beq rls.length old.length) (.bK l.key ⟨.box (old.map afp),ke.bQ,ke.cv+1⟩ (wU r ls p))
   | none=>.fail)
  | _=>.fail)
  (match lI r l.i l.j with
  | some (es,ms,rows)=>.ig (LT.eH l.es es) (.bK l.key ⟨.row es ms rows,ke.bQ,ke.cv+1⟩ (wU r ls p))
  | none=>.bK l.key ⟨.gone,ke.bQ+1,ke.cv+1⟩ (wU r ls p))
def OY (c:Pass) (key:Key) (l:RL) (k:Leaf->Prog):Prog :=
 match l with
 | .sc s d=>k ⟨.sc,.sc s,d⟩
 | .fz es rows=>k ⟨.sn [],.sl es,.l rows⟩
 | .dz es rows=>k ⟨.sn c.deps,.sl es,.l rows⟩
 | .nl es=>k ⟨.nl,.sl es,.l []⟩
 | .own _ es ms rows=>.fZ key fun ke=>.bK key ⟨.row es ms rows,ke.bQ+1,ke.cv+1⟩ (k ⟨.al key (ke.bQ+1),.sl es,.l []⟩)
 | .par i j=>pF (wT i j c.gq) fun l=>k ⟨.al l.key l.bQ,.sl l.es,.l []⟩
def zl (c:Pass) (dst q:Nat):Nat->List RL->(List Leaf->Prog)->Prog
 | _,[],k=>k []
 | j,l::ls,k=>OY c [dst+2000000,q,j] l fun x=>zl c dst q (j+1) ls fun xs=>k (x::xs)
def Aw (c:Pass) (dst:Nat):Nat->List RE->(List fC->Prog)->Prog
 | _,[],k=>k []
 | q,e::es,k =>
  match e with
  | .one l=>OY c [dst+2000000,q,0] l fun x=>Aw c dst (q+1) es fun xs=>k (.one x::xs)
  | .agg ls=>zl c dst q 0 ls fun x=>Aw c dst (q+1) es fun xs=>k (.agg x::xs)
  | .bx _ ls=>zl c dst q 0 ls fun x=>.ig (Nat.beq x.length ls.length&&Nat.ble ls.length 1000) (.fZ [dst+2000000,q,vL] fun ke =>
    .bK [dst+2000000,q,vL] ⟨.box x,ke.bQ+1,ke.cv+1⟩ (Aw c dst (q+1) es fun xs=>k (.ptr [dst+2000000,q,vL] (ke.bQ+1) 0 0::xs)))
  | _=>.fail
def yV (c:Pass) (dst:Nat) (r:fV):List wQ->Prog->Prog
 | [],p=>p
 | l::ls,p=>cond (Nat.beq l.j vL)
  (match xO r l.i with
  | some rls=>zl c dst (1000+l.i) 0 rls fun xs=>.fZ l.key fun ke=>match ke.ch with
   | .box old=>.ig (Nat.beq ke.bQ l.bQ&&Nat.beq xs.length old.length) (.bK l.key ⟨.box xs,ke.bQ,ke.cv+1⟩ (yV c dst r ls p))
   | _=>.fail
  | none=>.fail)
  (yV c dst r ls p)
def aiC:M->PM | .F=>.F | .O ms=>.O ms
def OZ (nk:Key) (ms:List M):List fC->(List fC->Prog)->Prog
 | [],k=>k []
 | e::es,k=>match ms with
  | []=>k (e::es)
  | ms=>match e with
   | .one l=>wS nk ((ms.map aiC).headD .R) l [] fun l _=>k (.one l::es)
   | .agg ls=>qw nk 0 (ms.map aiC) ls [] fun ls _=>k (.agg ls::es)
   | e=>k (e::es)
def afq (xs:List fC):fC:=match xs with | [x]=>x | _=>.OT xs
def O0 (fr f:FuncId) (dst:Option Nat) (es:List fC):Prog :=
 .ig (Γ.fn f).isSome (Oo (match dst with | some d=>d | none=>2000000+f) 0 (Γ.sig f).pms es [] fun es os=>VR (Γ.sig f).pms 0 es ⟨[],[],[]⟩ fun args c =>
 .ig (Gg c.deps c.gq) (.call f args fun r =>
  wU r c.gq (yV c (match dst with | some d=>d | none=>2000000+f) r c.gq (match dst with
   | none=>closeAll os .ret
   | some d=>Aw c d 0 r.rs fun xs=>closeAll os (OZ [d+2000000,600] (Γ.cast fr d) xs fun xs=>.mG d (afq xs) .ret)))))
def Mr:List Operand->(List fC->Prog)->Prog
 | [],k=>k []
 | x::xs,k=>rd x fun e=>Mr xs fun es=>k (e::es)
def O1 (es:List LT):Bool:=es.all fun l=>match l with | .sc .any=>false | _=>true
def partsOf (es:List LT) (ms:List M):List (Nat×Operand)->(List (Nat×List T)->Prog)->Prog
 | [],k=>k []
 | (i,x)::ps,k=>rd x fun e=>pF (Cw e) fun ls=>xL es ms ls fun ds=>partsOf es ms ps fun r=>k ((i,ds)::r)
def Js (n:Nat):List (Nat×List T)->List (List T)->Option (List (List T))
 | [],rows=>some rows
 | (i,ds)::ps,rows=>if i<rows.length&&ds.length==n then Js n ps (rows.set i ds) else none
mutual
def ajM:LT->M
 | .sc _=>.F
 | .sl es=>.O (afr es)
def afr:List LT->List M
 | []=>[]
 | e::es=>ajM e::afr es
end
def qW:List LT->List Leaf->(List M->Prog)->Prog
 | e::es,l::ls,k=>match l.st with
  | .al key _=>.fZ key fun ke=>(match ke.ch with
    | .row _ ms _=>qW es ls fun r=>k (.O ms::r)
    | _=>qW es ls fun r=>k (.F::r))
  | .nl=>qW es ls fun r=>k (ajM e::r)
  | _=>qW es ls fun r=>k (.F::r)
 | es,_,k=>k (es.map fun _=>.F)
def O3 (ms:List M) (es:List LT) (ps:List (Nat×Operand)) (k:List M->Prog):Prog :=
 match ms,ps with
 | [],(_,x)::_=>rd x fun e=>pF (Cw e) fun ls=>qW es ls k
 | [],[]=>k (es.map fun _=>.F)
 | ms,_=>k ms
def Dt:List (Nat×Operand)->(List (Nat×List Leaf)->Prog)->Prog
 | [],k=>k []
 | (i,x)::ps,k=>rd x fun e=>pF (Cw e) fun ls=>Dt ps fun r=>k ((i,ls)::r)
def zm (Γ:Ctx) (fs:List (Nat×TypeId)):List (Nat×List Leaf)->List Leaf->Option (List Leaf)
 | [],acc=>some acc
 | (i,ls)::ps,acc=>match fs[i]? with
  | some (off,ft)=>match Γ.ty ft with
   | some tf=>cond (Nat.beq ls.length tf.aR.length&&Nat.ble (off+ls.length) acc.length) (zm Γ fs ps (acc.take off++ls++acc.drop (off+ls.length))) none
   | none=>none
  | none=>none
def qx:List LT->List Leaf->List Leaf
 | lt::aR,l::ls=>(match l.st,lt with | .nl,.sl _=>{ l with lt:=lt } | _,_=>l)::qx aR ls
 | _,ls=>ls
def Lc (ls:List Leaf):fC:=match ls with | [l]=>.one l | _=>.junk
def Ld (aR:List LT):fC->fC
 | .one l=>Lc (qx aR [l])
 | .agg ls=>.agg (qx aR ls)
 | e=>e
def uD (Jt:List LT) (msT:List M) (lx:Leaf) (k:List (List T)->List Dp->Prog):Prog :=
 match lx.st,lx.lt with
 | .sc,.sc .str=>.ig (LT.eH Jt [.sc (.int .u8)]&&OU msT) (k (iI lx.d.str) [])
 | .nl,_=>k [] []
 | .al key n,_=>.fZ key fun ke=>.ig (Nat.beq ke.bQ n) (match ke.ch with
   | .row es ms rows=>.ig (LT.eH Jt es) (cond (OU ms) (.ig (OU msT) (k rows [(key,ke.cv)])) (.ig (M.vN ms msT) (.bK key ⟨.row es msT rows,ke.bQ,ke.cv+1⟩ (.fZ key fun ke=>.bK key ⟨.gone,ke.bQ+1,ke.cv+1⟩ (k rows [])))))
   | .fz es rows=>.ig (LT.eH Jt es&&OU msT) (k rows [])
   | _=>.fail)
 | _,_=>xK lx fun es rows deps=>.ig (LT.eH Jt es&&OU msT&&(xM Jt||deps.isEmpty)) (k rows deps)
def vP (dst:Nat) (Jt:List LT) (ms:List M) (old new:List (List T)):Prog :=
 .ig (Nat.ble Jt.length 1000&&decide ((old.length+new.length) * Jt.length<=ak)) (Mq dst Jt ms (old++new))
def O4 (dst:Nat) (Jt:List LT) (key:Key) (n:Nat) (lx:Leaf):Prog :=
 .fZ key fun ke=>.ig (Nat.beq ke.bQ n) (match ke.ch with
   | .row es ms _=>.ig (LT.eH Jt es) (uD Jt ms lx fun new deps=>.ig (!(deps.any fun d=>dQ d.1 key)) (.fZ key fun ke=>.ig (Nat.beq ke.bQ n) (match ke.ch with
     | .row es' ms' rows=>.ig (LT.eH Jt es'&&M.eH ms ms') (.bK key ⟨.gone,ke.bQ+1,ke.cv+1⟩ (vP dst Jt ms rows new))
     | _=>.fail)))
   | _=>.fail)
def O5 (msB:List M) (dst:Nat) (Jt:List LT) (s x:fC):Prog :=
 VJ s fun ls=>VJ x fun lx =>
 match ls.st with
 | .nl=>(match msB,lx.st with
  | [],.al key _=>.fZ key fun ke=>(match ke.ch with
    | .row _ ms _=>uD Jt ms lx fun new _=>vP dst Jt ms [] new
    | _=>uD Jt (Jt.map fun _=>.F) lx fun new _=>vP dst Jt (Jt.map fun _=>.F) [] new)
  | [],_=>uD Jt (Jt.map fun _=>.F) lx fun new _=>vP dst Jt (Jt.map fun _=>.F) [] new
  | msB,_=>uD Jt msB lx fun new _=>vP dst Jt msB [] new)
 | .al key n=>O4 dst Jt key n lx
 | .sb key n cv r off=>.fZ key fun ke=>.ig (Nat.beq ke.bQ n&&Nat.beq ke.cv cv) (Jo key r fun _ ls=>match (ls.getD off default).st with
   | .al key n=>O4 dst Jt key n lx
   | _=>.fail)
 | _=>.fail
def Fe:TK->Bool | .sc .str=>true | _=>false
def uT:TK->Bool | .slice _=>true | _=>false
def sliceBound (e:Option fC) (d:Int) (k:Int->Prog):Prog:=match e with
  | none=>k d
  | some e=>vO e fun s t=>match s with | .int _=>k t.int | _=>.fail
def ou (ti:TI) (cut:Nat) (dst:Nat) (x:fC) (lo hi:Option fC):Prog :=
 VJ x fun l =>
 match l.st,l.lt with
 | .sc,.sc .str =>
  let n:Int:=l.d.str.size
  .ig (Fe ti.kind) <| sliceBound hi n fun h=>sliceBound lo 0 fun a=>.ig (decide (0<=h/\h<=n)) (.ig (decide (0<=a/\a<=h))
   (qb (some dst) .str (.s (l.d.str.extract a.toNat h.toNat))))
 | _,_=>xK l fun es rows deps =>
  let n:Int:=rows.length
  .ig (match ti.aR with | [.sl tes]=>uT ti.kind&&Nat.beq es.length tes.length | _=>false) <| sliceBound hi n fun h=>sliceBound lo 0 fun a=>.ig (decide (0<=h/\h<=n)) (.ig (decide (0<=a/\a<=h))
   (match cut with
    | 0=>.mG dst (.one ⟨.sn deps,.sl es,.l ((rows.take h.toNat).drop a.toNat)⟩) .ret
    | 1=>(match l.st,lo with
    | .al key _,none=>.fZ key fun ke=>match ke.ch with
      | .row es ms rows=>.ig (OU ms) (.bK key ⟨.gone,ke.bQ+1,ke.cv+1⟩ (Mq dst es ms (rows.take h.toNat)))
      | _=>.fail
    | _,_=>.fail)
    | _=>(match l.st with
    | .al key n=>.fZ key fun ke=>.ig (Nat.beq ke.bQ n && !dQ key uS) (match ke.ch with
      | .row es0 _ Ud=>.bK key { ke with ch:=.fz es0 Ud } (.mG dst (.one ⟨.sn [],.sl es,.l ((rows.take h.toNat).drop a.toNat)⟩) .ret)
      | .fz _ _=>.mG dst (.one ⟨.sn [],.sl es,.l ((rows.take h.toNat).drop a.toNat)⟩) .ret
      | _=>.fail)
    | .sn []=>.mG dst (.one ⟨.sn [],.sl es,.l ((rows.take h.toNat).drop a.toNat)⟩) .ret
    | .nl=>.mG dst (.one ⟨.sn [],.sl es,.l ((rows.take h.toNat).drop a.toNat)⟩) .ret
    | _=>.fail)))
def i64:ST:=.int .i64
def ow (x y:Int):Int:=if y<x then y else x
def qX (x y:Int):Int:=if y > x then y else x
def VT (f:Int->Int->Int):List fC->Option (IntKind×Int)
 | [.one ⟨.sc,.sc (.int k),x⟩,.one ⟨.sc,.sc (.int k'),y⟩]=>if k=k' then some (k,f x.int y.int) else none
 | _=>none
def Oq:TK->Bool | .sc (.int .u8)=>true | _=>false
def Fg (dst:Nat) (aqp an0:TI) (x:fC):Prog :=
 match aqp.kind,an0.kind with
 | .sc (.int _),.sc (.int k)=>vO x fun s d=>match s with
  | .int _=>qb (some dst) (.int k) (.i (k.wrap d.int))
  | _=>.fail
 | .sc .str,.sc .str=>vO x fun s d=>match s with
  | .str=>qb (some dst) .str d
  | _=>.fail
 | .sc .str,.slice el=>vJ Γ el fun te=>.ig (Oq te.kind) (vO x fun s d=>match s,an0.aR with
  | .str,[.sl [.sc (.int .u8)]]=>.ig (decide (d.str.size<=bG)) (.mG dst (.one ⟨.sn [],.sl [.sc (.int .u8)],.l (iI d.str)⟩) .ret)
  | _,_=>.fail)
 | .slice el,.sc .str=>vJ Γ el fun te=>.ig (Oq te.kind) (VJ x fun l=>xK l fun es rows _=>match es with
  | [.sc (.int .u8)]=>qb (some dst) .str (.s (qV rows))
  | _=>.fail)
 | _,_=>.fail
def Ot (pm:List M) (d0:Nat) (ls:List Leaf):Prog :=
 match pm with
 | []=>afm d0 ls
 | pm=>qw [d0+2000000,500] 0 (pm.map aiC) ls [] fun ls _=>afm d0 ls
def Ou (pm:List M) (dst:Option Nat) (ls:List Leaf):Prog :=
 match pm,dst with
 | _::_,some d=>qw [d+2000000,400] 0 (pm.map aiC) ls [] fun ls _=>put dst (.agg ls)
 | _,_=>put dst (.agg ls)
def isZero:Operand->Bool | .const (.int _ 0)=>true | _=>false
def slice3 (ti:TI) (dst:Nat) (x:fC) (lo:Option fC) (hi mx:fC) (z:Bool):Prog :=
 VJ x fun l=>xK l fun es rows deps =>
  .ig (match ti.aR with | [.sl tes]=>uT ti.kind&&Nat.beq es.length tes.length && !es.isEmpty | _=>false) <| vO hi fun sh h=>vO mx fun sm m=>sliceBound lo 0 fun a=>(match sh,sm with
   | .int _,.int _=>.ig (decide (0<=h.int/\h.int<=m.int/\m.int<=rows.length)) (.ig (decide (0<=a/\a<=h.int))
    (cond (z&&lo.isNone) (.ig (decide (h.int=0/\m.int=0)) (Mq dst es (es.map fun _=>.F) [])) (.mG dst (.one ⟨.sn deps,.sl es,.l ((rows.take h.int.toNat).drop a.toNat)⟩) .ret)))
   | _,_=>.fail)
def acg (s:ST):List Leaf->Bool
 | []=>true
 | l::ls=>(match l.st,l.lt with | .sc,.sc s'=>decide (s=s') | _,_=>false)&&acg s ls
def O6 (m:Nat) (el:TypeId) (dst:Nat) (e:fC):Prog:=vJ Γ el fun te=>match te.aR,e with
 | [.sc s],.ptr key n _ off=>.fZ key fun ke=>.ig (Nat.beq ke.bQ n) (match ke.ch with
   | .box ls=>.ig (Nat.beq off 0&&Nat.beq ls.length m&&Nat.ble m 1000&&acg s ls) (.mG dst (.one ⟨.sn [(key,ke.cv)],.sl [.sc s],.l (ls.map fun l=>[l.d])⟩) .ret)
   | _=>.fail)
 | _,_=>.fail
def VU (f:FuncId) (t:TypeId) (dst:Option Nat) (e:fC):Prog :=
 match e with
 | .OT _=>put dst e
 | e=>vJ Γ t fun ti=>afo (Γ.own f) (Γ.ms f) dst (Ld ti.aR e)
def VW:fC->Bool | .OT _=>false | .fn _ _=>false | _=>true
def O7 (s:ST) (x:T):T:=match s with | .bool=>.b x.bool | _=>x
def bH (f:FuncId) (o:Oper):Prog :=
 let dst:=o.dst
 let wd:=pF o.dst
 match o.op with
 | .move x | .assign x=>rd x fun e=>VU Γ f o.type dst e
 | .pick c a b=>rd c fun c=>rd a fun a=>rd b fun b=>vO c fun sc c =>
   match sc with
   | .bool=>.br c.bool (vO a fun s x=>qb dst s (O7 s x)) (vO b fun s x=>qb dst s (O7 s x))
   | _=>.fail
 | .alloc t=>wd fun d0=>vJ Γ t fun ti=>Ot (Γ.box f d0) d0 (ti.aR.map Jj)
 | .box t x=>wd fun d0=>vJ Γ t fun ti=>rd x fun e=>pF (Cw e) fun ls=>Ot (Γ.box f d0) d0 (qx ti.aR ls)
 | .build t ps=>vJ Γ t fun ti=>match ti.kind with
   | .struct fs=>Dt ps.toList fun r=>pF (zm Γ fs r (ti.aR.map Jj)) fun ls=>Ou (match dst with | some d=>Γ.box f d | none=>[]) dst (qx ti.aR ls)
   | .array m el=>vJ Γ el fun te=>Dt ps.toList fun r=>pF (zm Γ ((List.range m).map fun i=>(i * te.aR.length,el)) r (ti.aR.map Jj)) fun ls=>Ou (match dst with | some d=>Γ.box f d | none=>[]) dst (qx ti.aR ls)
   | _=>.fail
 | .buildSlice t n ps=>wd fun d0=>vJ Γ t fun ti=>match ti.kind,ti.aR with
   | .slice _,[.sl es]=>.ig (O1 es&&Nat.ble (n * es.length) 16777216) <|
     O3 (Γ.ms f d0) es ps.toList fun ms=>.ig (adQ es ms) (partsOf es ms ps.toList fun r =>
     pF (Js es.length r (List.replicate n (es.map E8))) fun rows=>alu (!Γ.own f d0) d0 es ms rows)
   | _,_=>.fail
 | .load t a=>vJ Γ t fun ti=>rd a fun e =>
   let size:=ti.aR.length
   let agg:=zh ti.kind
   match e with
   | .ptr key n r off=>.fZ key fun ke=>.ig (Nat.beq ke.bQ n) (match ke.ch with
     | .box ls=>.ig (Nat.ble (off+size) ls.length) (put dst (E9 agg ((ls.drop off).take size)))
     | .row es ms rows=>.ig (Nat.ble (off+size) es.length) (.ig (decide (r<rows.length)) (put dst (E9 agg (La key n ke.cv r off size es ms (rows.getD r [])))))
     | .fz es rows=>.ig (Nat.ble (off+size) es.length) (.ig (decide (r<rows.length)) (put dst (E9 agg (Jl [] size (es.drop off) ((rows.getD r []).drop off)))))
     | .hol _ _ _ r' j=>.ig (Nat.beq r r') (.fZ (jc key) fun kb=>.ig (Nat.beq kb.bQ j) <| match kb.ch with
       | .box ls=>.ig (Nat.ble (off+size) ls.length) (put dst (E9 agg ((ls.drop off).take size)))
       | _=>.fail)
     | _=>.fail)
   | .rp deps aR row=>.ig (Nat.ble size aR.length) (BL deps (put dst (E9 agg (Jl deps size aR row))))
   | _=>.fail
 | .store t a x=>vJ Γ t fun ti=>rd a fun e=>rd x fun v=>pF (Cw v) fun ls =>
   match e with
   | .ptr key n r off=>.fZ key fun ke=>.ig (Nat.beq ke.bQ n) (match ke.ch with
     | .box old=>.ig (Nat.beq ls.length ti.aR.length&&Nat.ble (off+ls.length) old.length) (.bK key ⟨.box (old.take off++qx ti.aR ls++old.drop (off+ls.length)),ke.bQ,ke.cv+1⟩ (put dst .und))
     | .row es0 ms0 _=>.ig (Nat.beq ls.length ti.aR.length&&Nat.ble (off+ls.length) es0.length) <| xL ((es0.drop off).take ls.length) (ms0.drop off) ls fun ds=>.fZ key fun ke=>.ig (Nat.beq ke.bQ n) <| match ke.ch with
       | .row es ms rows=>.ig (LT.eH es0 es&&M.eH ms0 ms&&decide (r<rows.length))
         (.bK key ⟨.row es ms (rows.set r (setMany (rows.getD r []) off ds)),ke.bQ,ke.cv+1⟩ (put dst .und))
       | _=>.fail
     | .hol _ _ _ r' j=>.ig (Nat.beq r r') (.fZ (jc key) fun kb=>.ig (Nat.beq kb.bQ j) <| match kb.ch with
       | .box old=>.ig (Nat.beq ls.length ti.aR.length&&Nat.ble (off+ls.length) old.length) (.bK (jc key) ⟨.box (old.take off++qx ti.aR ls++old.drop (off+ls.length)),kb.bQ,kb.cv+1⟩ (Jp key (put dst .und)))
       | _=>.fail)
     | _=>.fail)
   | _=>.fail
 | .nilCheck x=>rd x fun e=>match e with
   | .ptr k n _ _=>.fZ k fun ke=>.ig (Nat.beq ke.bQ n) (put dst e)
   | .rp ds _ _=>BL ds (put dst e)
   | _=>.fail
 | .binOp op t x y _=>vJ Γ t fun ti=>rd x fun x=>rd y fun y=>anY ti op x y fun s d=>qb dst s d
 | .unOp op _ x=>rd x fun x=>vO x fun s d=>match op,s with
   | .not,.bool=>qb dst .bool (.b (!d.bool))
   | .neg,.int k=>qb dst (.int k) (.i (k.wrap (0-d.int)))
   | .xor,.int k=>qb dst (.int k) (kX k (BitVec.ofInt k.bits (if k.signed then -1 else k.max) ^^^ BitVec.ofInt k.bits d.int))
   | _,_=>.fail
 | .convert s t x=>wd fun d0=>vJ Γ s fun ts=>vJ Γ t fun tt=>rd x fun e=>Fg Γ d0 ts tt e
 | .makeSlice t l c=>wd fun d0=>vJ Γ t fun ti=>rd l fun l=>rd c fun c=>vO l fun sl l=>vO c fun sc c=>match sl,sc,ti.kind,ti.aR with
   | .int .i64,.int .i64,.slice el,[.sl es]=>vJ Γ el fun te =>
     .ig (O1 es&&adQ es (Gf (Γ.ms f) d0 es)&&decide (0<=l.int/\l.int<=c.int)) (.ig (decide (c.int * te.bytes<=bG)) (Mq d0 es (Gf (Γ.ms f) d0 es) (List.replicate l.int.toNat (es.map E8))))
   | _,_,_,_=>.fail
 | .slice t x lo hi none=>wd fun d0=>vJ Γ t fun ti=>rd x fun x =>
   let go (lo:Option fC) (hi:Option fC):=ou ti (Γ.cut f d0) d0 x lo hi
   match lo,hi with
   | none,none=>(match ti.kind with | .array m el=>O6 Γ m el d0 x | _=>go none none)
   | some a,none=>rd a fun a=>go (some a) none
   | none,some b=>rd b fun b=>go none (some b)
   | some a,some b=>rd a fun a=>rd b fun b=>go (some a) (some b)
 | .slice t x lo (some hi) (some mx)=>wd fun d0=>vJ Γ t fun ti=>rd x fun x=>rd hi fun h=>rd mx fun m=>(match lo with
   | none=>slice3 ti d0 x none h m (isZero hi&&isZero mx)
   | some lo=>rd lo fun l=>slice3 ti d0 x (some l) h m false)
 | .fieldAddr t x i=>vJ Γ t fun ti=>rd x fun e=>match ti.kind with
   | .struct fs=>pF fs[i]? fun (off,_)=>match e with
     | .ptr k n r o=>.fZ k fun ke=>.ig (Nat.beq ke.bQ n) (put dst (.ptr k n r (o+off)))
     | .rp deps aR row=>.ig (Nat.ble off aR.length) (BL deps (put dst (.rp deps (aR.drop off) (row.drop off))))
     | _=>.fail
   | _=>.fail
 | .field t x i=>vJ Γ t fun ti=>rd x fun e=>match ti.kind,e with
   | .struct fs,.agg ls=>pF fs[i]? fun (off,ft)=>vJ Γ ft fun tf=>.ig (Nat.ble (off+tf.aR.length) ls.length) (put dst (E9 (zh tf.kind) ((ls.drop off).take tf.aR.length)))
   | _,_=>.fail
 | .indexAddr t x i=>vJ Γ t fun ti=>rd x fun e=>rd i fun ie=>vO ie fun si ix=>match si,ti.kind,ti.aR,e with
   | .int _,.slice _,[.sl tes],.one l=>(match l.st with
     | .al key n=>.fZ key fun ke=>.ig (Nat.beq ke.bQ n) (match ke.ch with
       | .row es _ rows=>.ig (Nat.beq es.length tes.length) (.ig (decide (0<=ix.int/\ix.int<rows.length)) (put dst (.ptr key n ix.int.toNat 0)))
       | .fz es rows=>.ig (Nat.beq es.length tes.length) (.ig (decide (0<=ix.int/\ix.int<rows.length)) (put dst (.ptr key n ix.int.toNat 0)))
       | _=>.fail)
     | _=>xK l fun es rows deps=>.ig (Nat.beq es.length tes.length) (.ig (decide (0<=ix.int/\ix.int<rows.length)) (put dst (.rp deps es (rows.getD ix.int.toNat [])))))
   | _,_,_,_=>.fail
 | .index t x i=>vJ Γ t fun ti=>rd x fun x=>rd i fun i=>vO x fun sx d=>vO i fun si ix=>match si,sx,ti.kind with
   | .int _,.str,.sc .str=>.ig (decide (0<=ix.int/\ix.int<d.str.size)) (qb dst (.int .u8) (.i (d.str.data.toList.getD ix.int.toNat 0).toNat))
   | _,_,_=>.fail
 | .extract x i=>rd x fun e=>match e with
   | .OT es=>pF es[i]? fun e=>put dst e
   | _=>.fail
 | .makeFunc (.func g) first caps=>cond (first.isEmpty) (Mr caps.toList fun es=>.ig (es.all VW) (put dst (.fn g es))) .fail
 | .call c=>match c.callee with
   | .value g=>rd g fun g=>Mr c.args.toList fun es=>match g with
     | .fn g caps=>O0 Γ f g dst (es++caps)
     | _=>.fail
   | .builtin .len=>pF c.argTypes[0]? fun t=>vJ Γ t fun ti=>Mr c.args.toList fun es=>match es with
     | [.one l]=>(match l.st,l.lt with
       | .sc,.sc .str=>.ig (Fe ti.kind) (qb dst i64 (.i l.d.str.size))
       | _,_=>.ig (uT ti.kind) (xK l fun _ rows _=>.lim (decide (rows.length<=bG)) (qb dst i64 (.i rows.length))))
     | _=>.fail
   | .builtin .min=>Mr c.args.toList fun es=>pF (VT ow es) fun (k,v)=>qb dst (.int k) (.i v)
   | .builtin .max=>Mr c.args.toList fun es=>pF (VT qX es) fun (k,v)=>qb dst (.int k) (.i v)
   | .builtin .append=>wd fun d0=>Mr c.args.toList fun es=>match es,c.argTypes.toList with
     | [s,x],[t,tx]=>vJ Γ t fun ti=>vJ Γ tx fun tk=>match ti.kind,ti.aR with
       | .slice _,[.sl aR]=>.ig (uT tk.kind||Fe tk.kind) (O5 (Γ.ms f d0) d0 aR s x)
       | _,_=>.fail
     | _,_=>.fail
   | _=>.fail
 | _=>.fail
def bit (t:Nat):Nat:=1 <<< t
def ajN (m:Nat):Operand->Nat
 | .tmp t=>m ||| bit t
 | _=>m
def ach (ops:Array Oper):List Oper->Nat->Nat
 | [],m=>m
 | o::os,m =>
  let m:=ach ops os m
  let m:=match o.dst with
   | some d=>m ^^^ (m &&& bit d)
   | none=>m
  let m:=o.op.operands.toList.foldl ajN m
  match o.guard with
  | some (i,_)=>(match (ops[i]?).bind (·.dst) with | some d=>m ||| bit d | none=>m)
  | none=>m
def O8 (ex:List (Nat×Nat)) (id:Nat):Nat:=match ex.find? (fun p=>Nat.beq p.1 id) with | some p=>p.2 | none=>0
def lin (ret:Nat):List (Nat×Nat)->Code->Nat->Nat
 | _,.region _ ops _,m=>ach ops ops.toList m
 | ex,.seq a b,m=>lin ret ex a (lin ret ex b m)
 | ex,.cond c a b,m=>ajN (lin ret ex a m ||| lin ret ex b m) c
 | ex,.block id b,m=>lin ret ((id,m)::ex) b m
 | ex,.loop b,_=>lin ret ex b (lin ret ex b 0)
 | ex,.exit id,_=>O8 ex id
 | _,.ret,_=>ret
 | _,_,m=>m
structure Pack where
 es:List (Nat×fC)
 ks:List (Key×Ch)
 deriving Inhabited
inductive G7 where
 | normal | exit (id:Nat) | ret
 deriving Inhabited
def Fh:Ch->Bool
 | .K9 _ _ _=>false
 | .hol _ _ _ _ _=>false
 | _=>true
def uU (σ:S) (ds:List Dp):Bool:=ds.all fun d=>Nat.beq (σ.k d.1).cv d.2&&Fh (σ.k d.1).ch
def qy (ds:List Dp):List Dp:=ds.map fun d=>(d.1,0)
def Cx (σ:S) (l:Leaf):Leaf :=
 match l.st with
 | .sn ds=>cond (uU σ ds) { l with st:=.sn (qy ds) } { l with st:=.dead,d:=.l [] }
 | .sb k _ cv _ _=>cond (uU σ [(k,cv)]) { l with st:=.sn [(k,0)] } { l with st:=.dead,d:=.l [] }
 | .al k n=>cond (Nat.beq (σ.k k).bQ n&&Fh (σ.k k).ch) { l with st:=.al k 0 } { l with st:=.dead,d:=.l [] }
 | _=>l
def yu (σ:S):Nat->fC->fC
 | _,.one l=>.one (Cx σ l)
 | _,.agg ls=>.agg (ls.map (Cx σ))
 | n+1,.OT es=>.OT (es.map (yu σ n))
 | _,.ptr k n i off=>cond (Nat.beq (σ.k k).bQ n&&Fh (σ.k k).ch) (.ptr k 0 i off) .junk
 | _,.rp ds aR row=>cond (uU σ ds) (.rp (qy ds) aR row) .junk
 | n+1,.fn f caps=>.fn f (caps.map (yu σ n))
 | _,.und=>.und
 | _,_=>.junk
def wV (l:Leaf):List Key:=match l.st with
 | .sn ds=>ds.map (·.1)
 | .sb k _ _ _ _=>[k]
 | .al k _=>[k]
 | _=>[]
def Ov:Nat->fC->List Key
 | _,.one l=>wV l
 | _,.agg ls=>ls.flatMap wV
 | n+1,.OT es=>es.flatMap (Ov n)
 | _,.ptr k _ _ _=>[k]
 | _,.rp ds _ _=>ds.map (·.1)
 | n+1,.fn _ caps=>caps.flatMap (Ov n)
 | _,_=>[]
def Gi (ks new:List Key):List Key:=new.foldl (fun ks k=>cond (ks.any (dQ k)) ks (ks++[k])) ks
def afs:Ch->List Key
 | .box ls=>ls.flatMap wV
 | _=>[]
def VX (k:Key):Nat->List Key->Key
 | _,[]=>k
 | i,u::us=>cond (dQ k u) [1000000,i] (VX k (i+1) us)
def VY (np:Nat):Key->Bool
 | i::_=>Nat.blt i np
 | []=>false
def eO (np:Nat) (ks:List Key) (k:Key):Key:=cond (VY np k||dQ k uS) k (VX k 0 ks)
def Lf (ks:List Key) (k:Key):Bool:=ks.any (dQ k)
def Du (np:Nat) (ks:List Key) (ds:List Dp):List Dp:=ds.map fun d=>(eO np ks d.1,d.2)
def uV (np:Nat) (ks:List Key) (l:Leaf):Leaf :=
 match l.st with
 | .sn ds=>cond (ds.all fun d=>Lf ks d.1) { l with st:=.sn (Du np ks ds) } { l with st:=.dead,d:=.l [] }
 | .sb _ _ _ _ _=>{ l with st:=.dead,d:=.l [] }
 | .al k n=>cond (Lf ks k) { l with st:=.al (eO np ks k) n } { l with st:=.dead,d:=.l [] }
 | _=>l
def zn (np:Nat) (ks:List Key):Nat->fC->fC
 | _,.one l=>.one (uV np ks l)
 | _,.agg ls=>.agg (ls.map (uV np ks))
 | n+1,.OT es=>.OT (es.map (zn np ks n))
 | _,.ptr k n i off=>cond (Lf ks k) (.ptr (eO np ks k) n i off) .junk
 | _,.rp ds aR row=>cond (ds.all fun d=>Lf ks d.1) (.rp (Du np ks ds) aR row) .junk
 | n+1,.fn f caps=>.fn f (caps.map (zn np ks n))
 | _,.und=>.und
 | _,_=>.junk
def xP (σ:S):Ch->Ch
 | .box ls=>.box (ls.map (Cx σ))
 | .K9 _ _ _=>.gone
 | .hol _ _ _ _ _=>.gone
 | c=>c
def G8 (np:Nat) (ks:List Key):Ch->Ch
 | .box ls=>.box (ls.map (uV np ks))
 | c=>c
def bitsOf (n m:Nat):List Nat:=(List.range n).filter fun t=>Nat.testBit m t
def Ay (np n m:Nat) (σ:S):Pack :=
 let es:=(bitsOf n m).map fun t=>(t,yu σ 3 (σ.s t))
 let ks:=Gi [] (es.flatMap fun e=>Ov 3 e.2)
 let Ns:=Gi ks (ks.flatMap fun k=>afs (xP σ (σ.k k).ch))
 ⟨es.map fun e=>(e.1,zn np Ns 3 e.2),Ns.map fun k=>(eO np Ns k,G8 np Ns (xP σ (σ.k k).ch))⟩
def wB (t:Nat):List (Nat×fC)->fC
 | []=>.junk
 | (u,e)::r=>cond (Nat.beq t u) e (wB t r)
def Fj (k:Key):List (Key×Ch)->KE
 | []=>⟨.gone,0,0⟩
 | (u,c)::r=>cond (dQ k u) ⟨c,0,0⟩ (Fj k r)
def nK (p:Pack):S:=⟨fun t=>wB t p.es,fun k=>Fj k p.ks⟩
def aaG (b:Bool):fC:=.one ⟨.sc,.sc .bool,.b b⟩
variable (cf:FuncId->List Arg->R3 fV)
def VZ (a b:Tr):Bool :=
 !(a.ws.any fun t=>b.ws.any (Nat.beq t)||b.rs.any (Nat.beq t)) && !(b.ws.any fun t=>a.rs.any (Nat.beq t)) &&
 !(a.wk.any fun t=>b.wk.any (dQ t)||b.rk.any (dQ t)) && !(b.wk.any fun t=>a.rk.any (dQ t))
def V3 (acc:List Nat) (o:Oper):Nat:=o.after.toList.foldl (fun s e=>cond (Region.binds .any e) (s ||| 2 ^ e.on ||| acc.getD e.on 0) s) 0
def Ju:List Oper->List Nat->List Nat
 | [],acc=>acc
 | o::os,acc=>Ju os (acc++[V3 acc o])
def Ow:Nat->List Oper->Bool
 | _,[]=>true
 | j,o::os=>(o.after.toList.all fun e=>!Region.binds .any e||Nat.blt e.on j)&&Ow (j+1) os
def Ox (bf:List Nat) (i:Nat) (ti:Tr):Nat->List Tr->Bool
 | _,[]=>true
 | j,tj::ts=>(Nat.testBit (bf.getD j 0) i||VZ ti tj)&&Ox bf i ti (j+1) ts
def Oy (bf:List Nat):Nat->List Tr->Bool
 | _,[]=>true
 | i,ti::ts=>Ox bf i ti (i+1) ts&&Oy bf (i+1) ts
def O9 (ops:Array Oper) (Dm:List Tr):Bool:=Ow 0 ops.toList&&Oy (Ju ops.toList []) 0 Dm
def dM (np nt:Nat) (o:Oper):Bool:=match o.dst with | some d=>Nat.blt d nt | none=>true
def yw (g:Nat):List (Nat×Bool)->Option Bool
 | []=>none
 | (u,b)::r=>cond (Nat.beq g u) (some b) (yw g r)
def uW (ws:List Nat):List (Nat×Bool)->List (Nat×Bool)
 | []=>[]
 | (u,b)::r=>cond (ws.any (Nat.beq u)) (uW ws r) ((u,b)::uW ws r)
def XP (asm:List (Nat×Bool)) (x:Operand) (e:fC):fC :=
 match x with
 | .tmp u=>(match yw u asm with
  | some w=>aaG w
  | none=>e)
 | _=>e
def Oz (f:FuncId) (asm:List (Nat×Bool)) (o:Oper):Prog :=
 match o.op with
 | .pick (.tmp c) a b=>(match yw c asm with
  | some v=>.Dq c fun _=>rd a fun ea=>rd b fun eb=>cond v (vO (XP asm a ea) fun s x=>qb o.dst s (O7 s x)) (vO (XP asm b eb) fun s x=>qb o.dst s (O7 s x))
  | none=>bH Γ f o)
 | _=>bH Γ f o
def uX {α:Type} (f np nt:Nat) (ops:Array Oper):List Oper->S->List Tr->List (Nat×Bool)->(S->List Tr->List (Nat×Bool)->R3 α)->R3 α
 | [],σ,Dm,asm,K=>K σ Dm.reverse asm
 | o::os,σ,Dm,asm,K =>
  cond (dM np nt o) (
   let step (tr0:Tr) (asm:List (Nat×Bool)):R3 α:=(Oz Γ f asm o).run cf σ tr0 fun σ tr=>uX f np nt ops os σ (tr::Dm) (uW tr.ws asm) K
   let skip (g:Nat) (asm:List (Nat×Bool)):R3 α:=(put o.dst .und).run cf σ { rs:=[g] } fun σ tr=>uX f np nt ops os σ (tr::Dm) (uW tr.ws asm) K
   match o.guard with
   | none=>step {} asm
   | some (i,want) =>
    match (ops[i]?).bind (·.dst) with
    | none=>.bad
    | some g =>
     match yw g asm with
     | some b=>cond (b==want) (step { rs:=[g] } asm) (skip g asm)
     | none =>
      match σ.s g with
      | .und=>skip g asm
      | .one ⟨.sc,.sc .bool,d⟩=>cond (d.bool==want) (step { rs:=[g] } ((g,want)::asm)) (skip g ((g,!want)::asm))
      | _=>.bad) .bad
def V4 (σ:S):List (Nat×Bool)->S
 | []=>σ
 | (g,b)::r=>(V4 σ r).mG g (aaG b)
def yx (l:Leaf) (p:Prog):Prog :=
 match l.st with
 | .al key n=>.fZ key fun ke=>cond (Nat.beq ke.bQ n) (match ke.ch with
   | .row es _ rows=>.bK key { ke with ch:=.fz es rows } p
   | _=>p) p
 | _=>p
def Cy:List Leaf->Prog->Prog
 | [],p=>p
 | l::ls,p=>yx l (Cy ls p)
def GL:List (Nat×Nat)->Prog
 | []=>.ret
 | (t,j)::r=>.Dq t fun e=>match e with
  | .one l=>yx l (GL r)
  | .agg ls=>yx (ls.getD j default) (GL r)
  | .ptr k _ _ off=>.fZ k fun ke=>(match ke.ch with
   | .box ls=>yx (ls.getD (off+j) default) (GL r)
   | _=>GL r)
  | _=>GL r
structure Fi where
 f:FuncId
 np:Nat
 nt:Nat
 ret:Nat
def nL {α:Type} (lf:List (Nat×Nat)->Code->Pack->R3 (G7×Pack)) (fi:Fi):List (Nat×Nat)->Nat->Code->S->(G7->S->R3 α)->R3 α
 | _,_,.skip,σ,K=>K .normal σ
 | _,_,.region id ops dr,σ,K=>(GL (Γ.rg fi.f id)).run cf σ {} fun σ _=>uX Γ cf fi.f fi.np fi.nt ops ops.toList σ [] [] fun σ Dm asm=>cond (!dr||O9 ops Dm) (K .normal (V4 σ asm)) .bad
 | ex,af,.seq a b,σ,K=>nL lf fi ex (lin fi.ret ex b af) a σ fun c σ=>match c with
   | .normal=>nL lf fi ex af b σ K
   | c=>K c σ
 | ex,af,.cond c a b,σ,K =>
  match c with
  | .tmp t=>(match σ.s t with
   | .one ⟨.sc,.sc .bool,d⟩=>cond d.bool (nL lf fi ex af a (σ.mG t (aaG true)) K) (nL lf fi ex af b (σ.mG t (aaG false)) K)
   | _=>.bad)
  | .const (.bool true)=>nL lf fi ex af a σ K
  | .const (.bool false)=>nL lf fi ex af b σ K
  | _=>.bad
 | ex,af,.block id b,σ,K=>nL lf fi ((id,af)::ex) af b σ fun c σ=>match c with
   | .exit id'=>cond (Nat.beq id' id) (K .normal σ) (K (.exit id') σ)
   | c=>K c σ
 | ex,_,.loop b,σ,K=>(lf ex b (Ay fi.np fi.nt (lin fi.ret ex b (lin fi.ret ex b 0)) σ)).bind fun cp=>K cp.1 (nK cp.2)
 | _,_,.exit id,σ,K=>K (.exit id) σ
 | _,_,.ret,σ,K=>K .ret σ
 | _,_,_,_,_=>.bad
def G9 (fi:Fi):Nat->List (Nat×Nat)->Code->Pack->R3 (G7×Pack)
 | 0,_,_,_=>.bad
 | n+1,ex,b,p =>
  let m:=lin fi.ret ex b (lin fi.ret ex b 0)
  nL Γ cf (G9 fi n) fi ex m b (nK p) fun c σ=>match c with
   | .normal=>G9 fi n ex b (Ay fi.np fi.nt m σ)
   | .exit id=>.ok (.exit id,Ay fi.np fi.nt (O8 ex id) σ)
   | .ret=>.ok (.ret,Ay fi.np fi.nt fi.ret σ)
def aaI (i j:Nat):AL->Leaf
 | .sc s d=>⟨.sc,.sc s,d⟩
 | .fz es rows=>⟨.sn [],.sl es,.l rows⟩
 | .dz es rows=>⟨.sn [(uS,0)],.sl es,.l rows⟩
 | .own es _ _=>⟨.al [i,j] 0,.sl es,.l []⟩
 | .nl es=>⟨.nl,.sl es,.l []⟩
def zo (i:Nat):Nat->List AL->List Leaf
 | _,[]=>[]
 | j,a::as=>aaI i j a::zo i (j+1) as
def ajO:Arg->fC
 | .Ie aR row=>.rp [(uS,0)] aR row
 | _=>.junk
def aft (i:Nat):Arg->fC
 | .one a=>.one (aaI i 0 a)
 | .agg as=>.agg (zo i 0 as)
 | .Ie aR row=>.rp [(uS,0)] aR row
 | .bx _=>.ptr [i,vL] 0 0 0
 | .fn f caps=>.fn f (caps.map ajO)
def He (i:Nat):Nat->List AL->List (Key×Ch)
 | _,[]=>[]
 | j,a::as=>match a with
  | .own es ms rows=>([i,j],.row es ms rows)::He i (j+1) as
  | _=>He i (j+1) as
def aci (i:Nat):Arg->List (Key×Ch)
 | .one a=>He i 0 [a]
 | .agg as=>He i 0 as
 | .bx as=>([i,vL],.box (zo i 0 as))::He i 0 as
 | _=>[]
def Pb:Nat->List Arg->List (Nat×fC)
 | _,[]=>[]
 | i,a::as=>(i,aft i a)::Pb (i+1) as
def zq:Nat->List Arg->List (Key×Ch)
 | _,[]=>[]
 | i,a::as=>aci i a++zq (i+1) as
def Lg (args:List Arg):Pack:=⟨Pb 0 args,zq 0 args⟩
def ajP:Ch->Bool | .gone=>true | _=>false
def OA (σ:S) (np:Nat) (l:Leaf):Option RL :=
 match l.lt,l.st with
 | .sc s,.sc=>some (.sc s l.d)
 | .sl es,.nl=>some (.nl es)
 | .sl es,.sn ds=>(match ds with
  | []=>some (.fz es l.d.rows)
  | ds=>cond (ajP (σ.k uS).ch&&ds.all fun d=>dQ d.1 uS&&Nat.beq (σ.k uS).cv d.2) (some (.dz es l.d.rows)) none)
 | .sl es0,.al k n =>
  let ke:=σ.k k
  cond (Nat.beq ke.bQ n) (match ke.ch with
   | .fz es rows=>cond (LT.eH es0 es) (some (.fz es rows)) none
   | .row es ms rows=>cond (LT.eH es0 es) (match k with
     | [i,j]=>cond (Nat.blt i np) (some (.par i j)) (some (.own k es ms rows))
     | _=>cond (Nat.blt (k.headD 0) np) none (some (.own k es ms rows))) none
   | _=>none) none
 | _,_=>none
def lV (σ:S) (np:Nat):List Leaf->Option (List RL)
 | []=>some []
 | l::ls=>match OA σ np l,lV σ np ls with
  | some r,some rs=>some (r::rs)
  | _,_=>none
def Pd (σ:S) (np:Nat):fC->Option RE
 | .one l=>(OA σ np l).map .one
 | .agg ls=>(lV σ np ls).map .agg
 | .ptr k n _ off=>cond (Nat.beq (σ.k k).bQ n&&Nat.beq off 0 && !Nat.blt (k.headD 0) np) (match (σ.k k).ch with
  | .box ls=>(lV σ np ls).map (.bx k)
  | _=>none) none
 | _=>none
def Jv (σ:S) (np:Nat):List fC->Option (List RE)
 | []=>some []
 | l::ls=>match Pd σ np l,Jv σ np ls with
  | some r,some rs=>some (r::rs)
  | _,_=>none
def Az (σ:S) (i:Nat):Nat->List AL->List (Option (List LT×List M×List (List T)))
 | _,[]=>[]
 | j,a::as=>(match a with
  | .own ..=>(match (σ.k [i,j]).ch with | .row es ms rows=>some (es,ms,rows) | _=>none)
  | _=>none)::Az σ i (j+1) as
def afu (σ:S) (i:Nat) (a:Arg):List (Option (List LT×List M×List (List T))) :=
 match a with | .one a=>Az σ i 0 [a] | .agg as=>Az σ i 0 as | .bx as=>Az σ i 0 as | _=>[]
def wC (σ:S):Nat->List Arg->List (List (Option (List LT×List M×List (List T))))
 | _,[]=>[]
 | i,a::as=>afu σ i a::wC σ (i+1) as
def BM (σ:S) (np:Nat):Nat->List Arg->Option (List (Option (List RL)))
 | _,[]=>some []
 | i,.bx _::as=>(match (σ.k [i,vL]).ch with
  | .box ls=>(match lV σ np ls,BM σ np (i+1) as with
   | some r,some rs=>some (some r::rs)
   | _,_=>none)
  | _=>none)
 | i,_::as=>(BM σ np (i+1) as).map (none :: ·)
def je (rl:RL):List Key:=match rl with | .own k _ _ _=>[k] | _=>[]
def jf (o:Option (List RL)):List Key:=match o with | some ls=>ls.flatMap je | none=>[]
def eD:RE->List Key
 | .one (.own k _ _ _)=>[k]
 | .agg ls=>ls.filterMap fun l=>match l with | .own k _ _ _=>some k | _=>none
 | .bx k ls=>k::ls.flatMap je
 | _=>[]
def yX:List Key->Bool
 | []=>true
 | k::ks=>!(ks.any (dQ k))&&yX ks
def aaJ (σ:S):List ResultVar->Option (List fC)
 | []=>some []
 | .tmp t::rs=>(aaJ σ rs).map fun es=>σ.s t::es
 | .cell a t::rs=>match Γ.ty t,σ.s a with
  | some ti,.ptr k m _ off=>cond (Nat.beq (σ.k k).bQ m) (match (σ.k k).ch with
    | .box ls=>cond (Nat.ble (off+ti.aR.length) ls.length) ((aaJ σ rs).map fun es=>E9 (zh ti.kind) ((ls.drop off).take ti.aR.length)::es) none
    | _=>none) none
  | _,_=>none
def Ez (fn:Func) (args:List Arg) (σ:S):R3 fV :=
 let np:=args.length
 match aaJ Γ σ fn.results.toList with
 | none=>.bad
 | some es =>
  match Jv σ np es with
  | some rs=>(match BM σ np 0 args with
   | some bs=>cond (yX (rs.flatMap eD++bs.flatMap jf)) (.ok ⟨rs,wC σ 0 args,bs⟩) .bad
   | none=>.bad)
  | none=>.bad
def BN:List ResultVar->Prog->Prog
 | [],p=>p
 | .tmp t::rs,p=>.Dq t fun e=>(match e with | .one l=>yx l (BN rs p) | .agg ls=>Cy ls (BN rs p) | _=>BN rs p)
 | .cell a _::rs,p=>.Dq a fun e=>(match e with | .ptr k _ _ _=>.fZ k fun ke=>(match ke.ch with | .box ls=>Cy ls (BN rs p) | _=>BN rs p) | _=>BN rs p)
def Dv (nk:Key) (l:Leaf) (k:Leaf->Prog):Prog :=
 match l.st with
 | .al key n=>cond (dQ key nk) (k l) (.fZ key fun ke=>cond (Nat.beq ke.bQ n) (match ke.ch with
   | .row es ms rows=>.fZ nk fun kn=>.bK nk ⟨.row es ms rows,kn.bQ+1,kn.cv+1⟩ (.bK key ⟨.gone,ke.bQ+1,ke.cv+1⟩ (k ⟨.al nk (kn.bQ+1),.sl es,.l []⟩))
   | _=>k l) (k l))
 | _=>k l
def an1:M->PM | .F=>.R | .O ms=>.O ms
def alv:M->Bool | .O [.O []]=>true | _=>false
def OB (nk:Key) (m:M) (l:Leaf) (k:Leaf->Prog):Prog :=
 cond (alv m) (k l) <| match l.st with
 | .nl=>wS nk (an1 m) l [] fun l _=>k l
 | .al key _=>(match m with
  | .O ms=>.fZ key fun ke=>(match ke.ch with
   | .row _ ms0 _=>cond (M.vN ms0 ms) (wS nk (.O ms) l [] fun l _=>Dv nk l k) (Dv nk l k)
   | _=>Dv nk l k)
  | .F=>Dv nk l k)
 | _=>k l
def Cz (base:Nat):Nat->List M->List Leaf->(List Leaf->Prog)->Prog
 | _,_,[],k=>k []
 | j,ms,l::ls,k=>OB [6000000,base,j] (ms.headD .F) l fun l=>Cz base (j+1) ms.tail ls fun ls=>k (l::ls)
def ajQ (ls:List Leaf):Bool:=ls.any fun l=>match l.st with | .nl=>true | .al _ _=>true | _=>false
def Lh (base:Nat) (ms:List M) (key:Key) (n:Nat) (p:Prog):Prog :=
 .fZ key fun ke=>cond (Nat.beq ke.bQ n) (match ke.ch with
  | .box ls=>cond (ajQ ls) (Cz base 0 ms ls fun ls'=>.fZ key fun ke=>.ig (Nat.beq ke.bQ n) (match ke.ch with
   | .box ls0=>.ig (Nat.beq ls'.length ls0.length) (.bK key ⟨.box ls',ke.bQ,ke.cv+1⟩ p)
   | _=>.fail)) p
  | _=>p) p
def xQ (f:FuncId):Nat->List ResultVar->Prog->Prog
 | _,[],p=>p
 | q,.tmp t::rs,p=>.Dq t fun e=>(match e with
  | .one l=>OB [6000000,q,0] ((Γ.can f q).headD .F) l fun l=>.mG t (.one l) (xQ f (q+1) rs p)
  | .agg ls=>cond (ajQ ls) (Cz q 0 (Γ.can f q) ls fun ls=>.mG t (.agg ls) (xQ f (q+1) rs p)) (xQ f (q+1) rs p)
  | .ptr k n _ _=>Lh q (Γ.can f q) k n (xQ f (q+1) rs p)
  | _=>xQ f (q+1) rs p)
 | q,.cell a _::rs,p=>.Dq a fun e=>(match e with | .ptr k n _ _=>Lh q (Γ.can f q) k n (xQ f (q+1) rs p) | _=>xQ f (q+1) rs p)
def Jw (f:FuncId):Nat->List Arg->Prog->Prog
 | _,[],p=>p
 | i,.bx _::as,p=>Lh (1000+i) (Γ.can f (1000+i)) [i,vL] 0 (Jw f (i+1) as p)
 | i,_::as,p=>Jw f (i+1) as p
def AA (f:FuncId) (fn:Func) (args:List Arg):Prog :=
 let p:=xQ Γ f 0 fn.results.toList (Jw Γ f 0 args .ret)
 cond (Γ.ret f) (BN fn.results.toList p) p
def Jy (fn:Func):Nat:=fn.results.foldl (fun m r=>match r with | .tmp t=>m ||| bit t | .cell t _=>m ||| bit t) 0
def ajR:AL->Bool | .own ..=>true | _=>false
def Jz (args:List Arg):Nat:=args.zipIdx.foldl (fun m (a,i)=>cond (match a with | .one l=>ajR l | .agg ls=>ls.any ajR | .bx _=>true | _=>false) (m ||| bit i) m) 0
def Fp (gF:FuncId->Option (List Arg->R3 fV)):Nat->FuncId->List Arg->R3 fV
 | 0,_,_=>.bad
 | n+1,f,args =>
  match gF f with
  | some g=>g args
  | none =>
   match Γ.fn f with
   | none=>.bad
   | some fn =>
    match fn.body with
    | none=>.bad
    | some c =>
     let fi:Fi:=⟨f,args.length,fn.ntmps,Jy fn ||| Jz args⟩
     cond (Nat.ble args.length 1000000&&Nat.ble args.length fn.ntmps) (nL Γ (Fp gF n) (G9 Γ (Fp gF n) fi n) fi [] fi.ret c (nK (Lg args)) fun ctl σ=>match ctl with
      | .exit _=>.bad
      | _=>(AA Γ f fn args).run (Fp gF n) σ {} fun σ _=>Ez Γ fn args σ) .bad
end ops
end Go.E

namespace Go.E
abbrev tO:List LT:=[.sc (.int .i64),.sc (.str),.sc (.str)]
abbrev tP:List LT:=[.sc (.str),.sc (.str)]
abbrev tR:List LT:=[.sc (.int .i64),.sc (.int .i64),.sl tO]
abbrev tS:List LT:=[.sc (.int .i64),.sl tR,.sc (.int .i64),.sl [.sc (.str),.sc (.str)],.sl tR]
abbrev tJ:List LT:=[.sc (.int .i64),.sl tO,.sc (.int .i64),.sl [.sc (.int .i64)]]
abbrev tW:List LT:=[.sc (.int .i64),.sc (.int .i64),.sc (.int .i64),.sl tO,.sc (.bool)]
abbrev tB:List LT:=[.sc (.int .i64),.sl tO]
abbrev tC:List LT:=[.sc (.int .i64),.sc (.bool)]
abbrev tI:List LT:=[.sc (.int .i64)]
abbrev tT:List LT:=[.sc (.str)]
abbrev tU:List LT:=[.sc (.int .u8)]
abbrev mS:List M:=[.F,.O [.F,.F,.F],.F,.O [.F,.F],.O [.F,.F,.F]]
abbrev m5:List M:=[.F,.F,.F,.F,.F]
abbrev m4:List M:=[.F,.F,.F,.F]
abbrev m3:List M:=[.F,.F,.F]
abbrev m2:List M:=[.F,.F]
abbrev tX:Option TI:=some ⟨.other,[.sc (.any)],8,false⟩
abbrev tY:Option TI:=some ⟨.other,[.sc (.any)],16,false⟩
end Go.E

namespace Go.E
open Go
abbrev aB:=Nat->Nat->Prop
def aB.or (A B:aB):aB:=fun b o=>A b o\/B b o
def aB.apart (A B:aB):Prop:=∀ b o,A b o->B b o->False
def cellAt (w:World) (b o:Nat):Option Value:=w.cell? ⟨b,o,none⟩
def Single (v:Value):Prop:=(∀ cs,v ≠ .agg cs)/\(∀ vs,v ≠ .tuple vs)
theorem Single.cells {v:Value} (h:Single v):v.cells = #[v]:=by
 cases v <;> first | rfl | exact absurd rfl (h.1 _)
def Ms:ST->Value->T->Prop
 | .int k,c,d=>∃ n,c = .int k n/\d = .i n/\k.min<=n/\n<=k.max
 | .bool,c,d=>∃ b,c = .bool b/\d = .b b
 | .str,c,d=>∃ s,c = .string s/\d = .s s/\s.size<9223372036854775808
 | .any,c,d=>d = .x c/\Single c
mutual
def aJ (w:World) (S:aB):LT->Value->T->Prop
 | .sc s,c,d=>Ms s c d
 | .sl es,c,d=>∃ a cap rows,d = .l rows/\c = .slice a rows.length cap/\rows.length<=cap/\rows.length<=bG /\
   (rows=[] \/ ∃ b o,a=some ⟨b,o,none⟩ /\ ∀ i (h:i<rows.length),dK w S S es b (o+i * es.length) rows[i])
def dK (w:World) (A S:aB):List LT->Nat->Nat->List T->Prop
 | [],_,_,row=>row=[]
 | e::es,b,o,row=>∃ d rest v,row=d::rest/\A b o/\cellAt w b o=some v/\aJ w S e v d/\dK w A S es b (o+1) rest
end
theorem Ms.single {s:ST} {c:Value} {d:T} (h:Ms s c d):Single c:=by
 cases s
 ·obtain ⟨n,rfl,-⟩:=h; exact ⟨fun _ h=>(nomatch h),fun _ h=>(nomatch h)⟩
 ·obtain ⟨n,rfl,-⟩:=h; exact ⟨fun _ h=>(nomatch h),fun _ h=>(nomatch h)⟩
 ·obtain ⟨n,rfl,-⟩:=h; exact ⟨fun _ h=>(nomatch h),fun _ h=>(nomatch h)⟩
 ·exact h.2
theorem aJ.single {w:World} {S:aB} {lt:LT} {c:Value} {d:T} (h:aJ w S lt c d):Single c:=by
 cases lt with
 | sc s=>unfold aJ at h; exact h.single
 | sl es=>unfold aJ at h; obtain ⟨a,cap,rows,-,rfl,-⟩:=h; exact ⟨fun _ h=>(nomatch h),fun _ h=>(nomatch h)⟩
mutual
theorem aJ.mono {w w':World} {S S':aB} (hs : ∀ b o,S b o->S' b o) (hw : ∀ b o,S b o->cellAt w' b o=cellAt w b o) :
  ∀ (lt:LT) {c:Value} {d:T},aJ w S lt c d->aJ w' S' lt c d
 | .sc s,c,d,h=>by unfold aJ at *; exact h
 | .sl es,c,d,h=>by
  unfold aJ at h ⊢
  obtain ⟨a,cap,rows,h1,h2,h3,h4,h6⟩:=h
  refine ⟨a,cap,rows,h1,h2,h3,h4,?_⟩
  rcases h6 with h6 | ⟨b,o,ha,h6⟩
  ·exact .inl h6
  ·exact .inr ⟨b,o,ha,fun i hi=>dK.mono hs hw hs hw es (h6 i hi)⟩
theorem dK.mono {w w':World} {A A' S S':aB} (ha : ∀ b o,A b o->A' b o) (hwa : ∀ b o,A b o->cellAt w' b o=cellAt w b o)
  (hs : ∀ b o,S b o->S' b o) (hw : ∀ b o,S b o->cellAt w' b o=cellAt w b o) :
  ∀ (es:List LT) {b o:Nat} {row:List T},dK w A S es b o row->dK w' A' S' es b o row
 | [],b,o,row,h=>by unfold dK at *; exact h
 | e::es,b,o,row,h=>by
  unfold dK at h ⊢
  obtain ⟨d,rest,v,h1,h2,h3,h4,h5⟩:=h
  exact ⟨d,rest,v,h1,ha _ _ h2,(hwa _ _ h2).trans h3,aJ.mono hs hw e h4,dK.mono ha hwa hs hw es h5⟩
end
theorem eX : ∀ (a b:Key),dQ a b=true ↔ a=b
 | [],[]=>by simp [dQ]
 | [],_::_=>by simp [dQ]
 | _::_,[]=>by simp [dQ]
 | a::as,b::bs=>by simp [dQ,eX as bs]
theorem gu (a:Key):dQ a a=true:=(eX a a).2 rfl
def noO (ms:List M):Prop:=∀ m∈ms,∀ x,m ≠ .O x
def Block (w:World) (b:Nat) (c:Array Value) (el:TypeId) (fz:Nat×Nat):Prop:=w.heap[b]? = some (.cells c el fz)
def aN (p:List Value->List T->List Nat->Prop) (sz:Nat):List (List T)->List Value->List Nat->Prop
 | [],_,bs=>bs=[]
 | r::rs,cs,bs=>∃ b1 b2,bs=b1++b2/\p (cs.take sz) r b1/\aN p sz rs (cs.drop sz) b2
mutual
def bU (w:World) (I:aB):LT->M->Value->T->List Nat->Prop
 | .sc s,_,v,d,bs=>Ms s v d/\bs=[]
 | .sl es,.F,v,d,bs=>aJ w I (.sl es) v d/\bs=[]
 | .sl es,.O ms,v,d,bs=>∃ rows,d = .l rows/\es≠[]/\rows.length<=bG/\(((∃ a,v = .slice a 0 0)/\rows=[]/\bs=[]) \/
   ∃ b cap c el fz bs',bs=b::bs'/\v = .slice (some ⟨b,0,none⟩) rows.length cap/\rows.length<=cap/\Block w b c el fz/\c.size=cap * es.length/\(∀ o,o<=c.size->¬ (fz.1<=o/\o<fz.2)) /\
    aN (fun vs ds bs=>au w I es ms vs ds bs) es.length rows c.toList bs')
def au (w:World) (I:aB):List LT->List M->List Value->List T->List Nat->Prop
 | [],_,vs,ds,bs=>vs=[]/\ds=[]/\bs=[]
 | e::es,ms,vs,ds,bs=>∃ v vs' d ds' b1 b2,vs=v::vs'/\ds=d::ds'/\bs=b1++b2/\bU w I e (ms.headD .F) v d b1/\au w I es ms.tail vs' ds' b2
end
def rZ (w:World) (b:Nat):Nat:=match w.heap[b]? with | some (.cells c _ _)=>c.size | _=>0
def fP (w:World):List Nat->Prop
 | []=>True
 | b::bs=>(b∈bs->rZ w b=0)/\fP w bs
def FB (w:World) (bs:List Nat):aB:=fun b o=>b∈bs/\o<rZ w b
def aV (w:World) (I:aB) (es:List LT) (ms:List M) (rows:List (List T)) (h:Value) (F:aB):Prop :=
 ∃ bs,fP w bs/\bU w I (.sl es) (.O ms) h (.l rows) bs /\ ∀ b o,F b o ↔ FB w bs b o
structure Gh where
 h:Key->Value
 F:Key->aB
 D:aB
def Live:Ch->Prop
 | .box _=>True
 | .row _ _ _=>True
 | .K9 _ _ _=>True
 | .hol _ _ _ _ _=>True
 | _=>False
def dF (κ:Key->KE) (g:Gh) (I:aB) (ds:List Dp):aB:=fun b o=>I b o \/ ∃ d∈ds,(d.1=uS/\g.D b o)\/(Live (κ d.1).ch/\g.F d.1 b o)
def Cur (κ:Key->KE) (ds:List Dp):Prop:=∀ d∈ds,(κ d.1).cv=d.2
def Old (κ:Key->KE) (ds:List Dp):Prop:=∀ d∈ds,d.2<=(κ d.1).cv
def aiD:LT->Prop | .sl _=>True | _=>False
def addrIn (esz:Nat) (h:Value) (i off:Nat):Option (Nat×Nat) :=
 match h with
 | .pointer (some ⟨b,o,none⟩)=>some (b,o+off)
 | .slice (some ⟨b,o,none⟩) _ _=>some (b,o+i * esz+off)
 | _=>none
def mW:Ch->Nat
 | .row es _ _=>es.length
 | .fz es _=>es.length
 | .hol es _ _ _ _=>es.length
 | _=>0
def ER (κ:Key->KE) (g:Gh) (w:World) (I:aB) (l:Leaf) (v:Value):Prop :=
 Single v/\match l.st with
 | .sc=>∃ s,l.lt = .sc s/\Ms s v l.d
 | .nl=>aiD l.lt/\v = .slice none 0 0/\l.d = .l []
 | .sn ds=>aiD l.lt/\Old κ ds/\(Cur κ ds->aJ w (dF κ g I ds) l.lt v l.d)
 | .sb k n cv r off=>aiD l.lt/\n<=(κ k).bQ/\Old κ [(k,cv)]/\(Cur κ [(k,cv)]->aJ w (dF κ g I [(k,cv)]) l.lt v l.d /\
   ((κ k).bQ=n->∃ b o,addrIn (mW (κ k).ch) (g.h k) r off=some (b,o)/\cellAt w b o=some v/\dF κ g I [(k,cv)] b o))
 | .al k n=>aiD l.lt/\n<=(κ k).bQ/\((κ k).bQ=n->v=g.h k)
 | .dead=>True
def cu (κ:Key->KE) (g:Gh) (w:World) (I:aB):List Leaf->List Value->Prop
 | [],[]=>True
 | l::ls,v::vs=>ER κ g w I l v/\cu κ g w I ls vs
 | _,_=>False
def r9 (κ:Key->KE) (g:Gh) (w:World) (I:aB):fC->Value->Prop
 | .one l,v=>ER κ g w I l v
 | .agg ls,v=>∃ cs,v = .agg cs/\cu κ g w I ls cs.toList
 | .ptr k n i off,v=>Single v/\n<=(κ k).bQ/\((κ k).bQ=n->∃ b o,v = .pointer (some ⟨b,o,none⟩)/\addrIn (mW (κ k).ch) (g.h k) i off=some (b,o))
 | .rp ds aR row,v=>Single v/\Old κ ds/\(Cur κ ds->∃ b o,v = .pointer (some ⟨b,o,none⟩)/\dK w (dF κ g I ds) (dF κ g I ds) aR b o row)
 | .und,v=>v=undef
 | .junk,_=>True
 | _,_=>False
def pY (κ:Key->KE) (g:Gh) (w:World) (I:aB):List fC->List Value->Prop
 | [],[]=>True
 | l::ls,v::vs=>r9 κ g w I l v/\pY κ g w I ls vs
 | _,_=>False
def jY (κ:Key->KE) (g:Gh) (w:World) (I:aB):fC->Value->Prop
 | .OT es,v=>∃ vs,v = .tuple vs/\pY κ g w I es vs.toList
 | .fn f caps,v=>∃ vs,v = .func (.func f) #[] vs/\pY κ g w I caps vs.toList
 | e,v=>r9 κ g w I e v
def mZ (κ:Key->KE) (g:Gh) (w:World) (I:aB) (ls:List Leaf) (h:Value) (F:aB):Prop :=
 ∃ b o c el fz,h = .pointer (some ⟨b,o,none⟩)/\Block w b c el fz/\o+ls.length<=c.size /\
  (∀ j,j<ls.length->¬ (fz.1<=o+j/\o+j<fz.2))/\(∀ b' o',F b' o' ↔ b'=b/\o<=o'/\o'<o+ls.length) /\
  cu κ g w I ls ((c.toList.drop o).take ls.length)
def Pe (κ:Key->KE) (g:Gh) (w:World) (I:aB) (k:Key) (m j:Nat) (ls:List Leaf) (h:Value) (F:aB):Prop :=
 (∃ b o c el fz,h = .pointer (some ⟨b,o,none⟩)/\Block w b c el fz/\o+m+ls.length<=c.size /\
  (∀ j,j<m+ls.length->¬ (fz.1<=o+j/\o+j<fz.2))/\(∀ b' o',F b' o' ↔ b'=b/\o+m<=o'/\o'<o+m+ls.length) /\
  cu κ g w I ls ((c.toList.drop (o+m)).take ls.length)) /\
 j<=(κ (og k)).bQ/\((κ (og k)).bQ=j->g.h (og k)=h)
def Pf (κ:Key->KE) (g:Gh) (w:World) (I:aB) (k:Key) (es:List LT) (ms:List M) (rows:List (List T)) (r j:Nat) (h:Value) (F:aB):Prop :=
 es≠[]/\rows.length<=bG/\r<rows.length /\
 (∃ b cap c el fz B1 B2,h = .slice (some ⟨b,0,none⟩) rows.length cap/\rows.length<=cap/\Block w b c el fz/\c.size=cap * es.length/\(∀ o,o<=c.size->¬ (fz.1<=o/\o<fz.2)) /\
  aN (fun vs ds bs=>au w I es ms vs ds bs) es.length (rows.take r) c.toList B1 /\
  aN (fun vs ds bs=>au w I es ms vs ds bs) es.length (rows.drop (r+1)) (c.toList.drop ((r+1) * es.length)) B2 /\
  fP w (b::(B1++B2))/\(∀ b' o',F b' o' ↔ (b'=b/\o'<c.size /\ ¬ (r * es.length<=o'/\o'<(r+1) * es.length))\/FB w (B1++B2) b' o') /\
  j<=(κ (jc k)).bQ/\((κ (jc k)).bQ=j->g.h (jc k) = .pointer (some ⟨b,r * es.length,none⟩)))
def Hf (κ:Key->KE) (g:Gh) (w:World) (I:aB) (k:Key):Ch->Prop
 | .box ls=>mZ κ g w I ls (g.h k) (g.F k)
 | .K9 m j ls=>Pe κ g w I k m j ls (g.h k) (g.F k)
 | .row es ms rows=>aV w I es ms rows (g.h k) (g.F k)
 | .hol es ms rows r j=>Pf κ g w I k es ms rows r j (g.h k) (g.F k)
 | .fz es rows=>aJ w I (.sl es) (g.h k) (.l rows)
 | .gone=>True
def gN (np:Nat):Key->Prop
 | i::_=>i<np
 | []=>False
structure Fr where
 nt:Nat
 np:Nat
 big:np<=1000000
 H:Key->Value
 D:aB
 A:aB
 B:aB
def Im (n:Fr) (I:aB):aB:=fun b o=>I b o\/n.A b o
structure RX (n:Fr) (κ:Key->KE) (g:Gh) (I:aB) (w:World):Prop where
 par : ∀ k,gN n.np k->Live (κ k).ch->g.h k=n.H k
 dq:g.D=n.D
 da : ∀ b o,g.D b o->n.A b o
 wW : ∀ k,Live (κ k).ch->aB.apart (g.F k) n.A
 awf : ∀ b o,n.A b o->∃ v,cellAt w b o=some v
 ia : ∀ b o,I b o->n.A b o->n.B b o
structure R (n:Fr) (σ:S) (g:Gh) (I:aB) (a:Act) (w:World):Prop where
 size:a.tmps.size=n.nt
 nd:a.defers=[]
 slots : ∀ t,jY σ.k g w I (σ.s t) (a.tmps.getD t undef)
 vI : ∀ k,Hf σ.k g w I k (σ.k k).ch
 sep : ∀ k k',Live (σ.k k).ch->Live (σ.k k').ch->k≠k'->aB.apart (g.F k) (g.F k')
 jP : ∀ k,Live (σ.k k).ch->aB.apart (g.F k) I
 zu : ∀ b o,I b o->∃ v,cellAt w b o=some v
 x:RX n σ.k g I w
def qc (I:aB) (b:Nat) (x y:Obj):Prop :=
 match x with
 | .cells c el fz=>∃ c',y = .cells c' el fz/\c'.size=c.size /\ ∀ o,I b o->c'[o]? = c[o]?
 | _=>y=x
structure Keeps (I:aB) (w w':World):Prop where
 size:w.heap.size<=w'.heap.size
 obj : ∀ b x,w.heap[b]? = some x->∃ y,w'.heap[b]? = some y/\qc I b x y
 os:w'.os=w.os
 output:w'.output=w.output
 tape:w'.tape=w.tape
theorem qc.refl (I:aB) (b:Nat) (x:Obj):qc I b x x:=by
 cases x <;> first | exact ⟨_,rfl,rfl,fun _ _=>rfl⟩ | rfl
theorem Keeps.refl (I:aB) (w:World):Keeps I w w:=⟨Nat.le_refl _,fun _ _ h=>⟨_,h,.refl _ _ _⟩,rfl,rfl,rfl⟩
theorem qc.trans {I J:aB} {b:Nat} {x y z:Obj} (hij : ∀ o,I b o->J b o) (h:qc I b x y) (h':qc J b y z):qc I b x z:=by
 cases x <;> simp only [qc] at h ⊢ <;> try (subst h; simpa [qc] using h')
 obtain ⟨c',rfl,h1,h2⟩:=h
 simp only [qc] at h'
 obtain ⟨c'',rfl,h3,h4⟩:=h'
 exact ⟨c'',rfl,h3.trans h1,fun o ho=>(h4 o (hij o ho)).trans (h2 o ho)⟩
theorem Keeps.trans {I J:aB} {w w' w'':World} (hij : ∀ b o,I b o->J b o) (h:Keeps I w w') (h':Keeps J w' w''):Keeps I w w'' :=
 ⟨Nat.le_trans h.size h'.size,fun b x hx=>by
  obtain ⟨y,hy,h1⟩:=h.obj b x hx
  obtain ⟨z,hz,h2⟩:=h'.obj b y hy
  exact ⟨z,hz,h1.trans (hij b) h2⟩,h'.os.trans h.os,h'.output.trans h.output,h'.tape.trans h.tape⟩
theorem Keeps.cell {I:aB} {w w':World} (h:Keeps I w w') {b o:Nat} (hi:I b o) (hv : ∃ v,cellAt w b o=some v):cellAt w' b o=cellAt w b o:=by
 obtain ⟨v,hv⟩:=hv
 unfold cellAt World.cell? at hv ⊢
 simp only at hv ⊢
 cases hx:w.heap[b]? with
 | none=>simp [hx] at hv
 | some x =>
  obtain ⟨y,hy,hk⟩:=h.obj b x hx
  cases x with
  | cells c el fz =>
   obtain ⟨c',rfl,-,h2⟩:=hk
   simp [hy,h2 o hi]
  | _=>simp [hx] at hv
theorem RX.step {n:Fr} {κ κ':Key->KE} {g g':Gh} {I I':aB} {w w':World} (h:RX n κ g I w) (hk:Keeps n.A w w') (hd:g'.D=g.D)
  (hl : ∀ k,Live (κ' k).ch->(gN n.np k->Live (κ k).ch/\g'.h k=g.h k\/g'.h k=n.H k)/\aB.apart (g'.F k) n.A) (hi : ∀ b o,I' b o->I b o \/ ¬ n.A b o):RX n κ' g' I' w' where
 par k hp hv:=by
  rcases (hl k hv).1 hp with ⟨h1,h2⟩ | h1
  ·rw [h2]; exact h.par k hp h1
  ·exact h1
 dq:=hd.trans h.dq
 da b o hb:=h.da b o (hd ▸ hb)
 wW k hv:=(hl k hv).2
 awf b o ha:=by
  obtain ⟨v,hv⟩:=h.awf b o ha
  exact ⟨v,(hk.cell ha ⟨v,hv⟩).trans hv⟩
 ia b o h1 h2:=(hi b o h1).elim (fun h3=>h.ia b o h3 h2) fun h3=>absurd h2 h3
structure gM (κ:Key->KE) (g:Gh) (w:World) (I:aB) (κ':Key->KE) (g':Gh) (w':World) (I':aB):Prop where
 cv : ∀ k,(κ k).cv<=(κ' k).cv
 bQ : ∀ k,(κ k).bQ<=(κ' k).bQ
 foot : ∀ k,(κ' k).cv=(κ k).cv->Live (κ k).ch->∀ b o,g.F k b o->((Live (κ' k).ch/\g'.F k b o)\/I' b o)/\cellAt w' b o=cellAt w b o
 head : ∀ k,(κ' k).bQ=(κ k).bQ->g'.h k=g.h k/\mW (κ' k).ch=mW (κ k).ch
 jP : ∀ b o,I b o->I' b o/\cellAt w' b o=cellAt w b o
 dd : ∀ b o,g.D b o->g'.D b o/\cellAt w' b o=cellAt w b o
section evo
variable {κ κ':Key->KE} {g g':Gh} {w w':World} {I I':aB}
theorem gM.cur (e:gM κ g w I κ' g' w' I') {ds:List Dp} (ho:Old κ ds) (hc:Cur κ' ds):Cur κ ds:=fun d hd=>by
 have h1:=e.cv d.1; have h2:=ho d hd; have h3:=hc d hd; omega
theorem gM.old (e:gM κ g w I κ' g' w' I') {ds:List Dp} (ho:Old κ ds):Old κ' ds:=fun d hd=>Nat.le_trans (ho d hd) (e.cv d.1)
theorem gM.dep (e:gM κ g w I κ' g' w' I') {ds:List Dp} (ho:Old κ ds) (hc:Cur κ' ds) :
  ∀ b o,dF κ g I ds b o->dF κ' g' I' ds b o/\cellAt w' b o=cellAt w b o:=by
 intro b o h
 rcases h with h | ⟨d,hd,⟨hk,hf⟩ | ⟨hl,hf⟩⟩
 ·exact ⟨.inl (e.jP b o h).1,(e.jP b o h).2⟩
 ·exact ⟨.inr ⟨d,hd,.inl ⟨hk,(e.dd b o hf).1⟩⟩,(e.dd b o hf).2⟩
 ·have h1:=e.cur ho hc d hd
  obtain ⟨h2,h3⟩:=e.foot d.1 ((hc d hd).trans h1.symm) hl b o hf
  exact ⟨h2.elim (fun h=>.inr ⟨d,hd,.inr h⟩) .inl,h3⟩
theorem gM.leaf (e:gM κ g w I κ' g' w' I') {lt:LT} {v:Value} {d:T} (h:aJ w I lt v d):aJ w' I' lt v d :=
 aJ.mono (fun b o h=>(e.jP b o h).1) (fun b o h=>(e.jP b o h).2) lt h
theorem gM.lf (e:gM κ g w I κ' g' w' I') {l:Leaf} {v:Value} (h:ER κ g w I l v):ER κ' g' w' I' l v:=by
 obtain ⟨hs,h⟩:=h
 refine ⟨hs,?_⟩
 cases hst:l.st with
 | sc=>simpa [hst] using h
 | nl=>simpa [hst] using h
 | sn ds =>
  simp only [hst] at h ⊢
  obtain ⟨h1,h2,h3⟩:=h
  exact ⟨h1,e.old h2,fun hc=>aJ.mono (fun b o hb=>(e.dep h2 hc b o hb).1) (fun b o hb=>(e.dep h2 hc b o hb).2) _ (h3 (e.cur h2 hc))⟩
 | al k n =>
  simp only [hst] at h ⊢
  obtain ⟨h1,h2,h3⟩:=h
  have:=e.bQ k
  refine ⟨h1,Nat.le_trans h2 this,fun hc=>?_⟩
  have h4:(κ k).bQ=n:=by omega
  rw [(e.head k (hc.trans h4.symm)).1]; exact h3 h4
 | sb k n cv r off =>
  simp only [hst] at h ⊢
  obtain ⟨h1,h2,h3,h4⟩:=h
  refine ⟨h1,Nat.le_trans h2 (e.bQ k),e.old h3,fun hc=>?_⟩
  obtain ⟨h5,h6⟩:=h4 (e.cur h3 hc)
  refine ⟨aJ.mono (fun b o hb=>(e.dep h3 hc b o hb).1) (fun b o hb=>(e.dep h3 hc b o hb).2) _ h5,fun hi=>?_⟩
  have h7:(κ k).bQ=n:=by have:=e.bQ k; omega
  obtain ⟨b,o,h8,h9,h10⟩:=h6 h7
  obtain ⟨h11,h12⟩:=e.head k (hi.trans h7.symm)
  exact ⟨b,o,by rw [h11,h12]; exact h8,(e.dep h3 hc b o h10).2.trans h9,(e.dep h3 hc b o h10).1⟩
 | dead=>trivial
theorem gM.XQ (e:gM κ g w I κ' g' w' I') : ∀ {ls:List Leaf} {vs:List Value},cu κ g w I ls vs->cu κ' g' w' I' ls vs
 | [],[],_=>trivial
 | _::_,_::_,h=>⟨e.lf h.1,e.XQ h.2⟩
 | [],_::_,h=>h.elim
 | _::_,[],h=>h.elim
theorem gM.Td (e:gM κ g w I κ' g' w' I') {x:fC} {v:Value} (h:r9 κ g w I x v):r9 κ' g' w' I' x v:=by
 cases x with
 | one l=>exact e.lf h
 | agg ls=>obtain ⟨cs,h1,h2⟩:=h; exact ⟨cs,h1,e.XQ h2⟩
 | ptr k n i off =>
  obtain ⟨h0,h1,h2⟩:=h
  have:=e.bQ k
  refine ⟨h0,Nat.le_trans h1 this,fun hc=>?_⟩
  have h4:(κ k).bQ=n:=by omega
  obtain ⟨h5,h6⟩:=e.head k (hc.trans h4.symm)
  rw [h5,h6]; exact h2 h4
 | rp ds aR row =>
  obtain ⟨h0,h1,h2⟩:=h
  refine ⟨h0,e.old h1,fun hc=>?_⟩
  obtain ⟨b,o,h3,h4⟩:=h2 (e.cur h1 hc)
  exact ⟨b,o,h3,dK.mono (fun b o hb=>(e.dep h1 hc b o hb).1) (fun b o hb=>(e.dep h1 hc b o hb).2) (fun b o hb=>(e.dep h1 hc b o hb).1) (fun b o hb=>(e.dep h1 hc b o hb).2) _ h4⟩
 | und=>exact h
 | junk=>trivial
 | OT _=>exact h.elim
 | fn _ _=>exact h.elim
theorem gM.Ue (e:gM κ g w I κ' g' w' I') : ∀ {ls:List fC} {vs:List Value},pY κ g w I ls vs->pY κ' g' w' I' ls vs
 | [],[],_=>trivial
 | _::_,_::_,h=>⟨e.Td h.1,e.Ue h.2⟩
 | [],_::_,h=>h.elim
 | _::_,[],h=>h.elim
theorem gM.ent (e:gM κ g w I κ' g' w' I') {x:fC} {v:Value} (h:jY κ g w I x v):jY κ' g' w' I' x v:=by
 cases x with
 | OT es=>obtain ⟨vs,h1,h2⟩:=h; exact ⟨vs,h1,e.Ue h2⟩
 | fn f es=>obtain ⟨vs,h1,h2⟩:=h; exact ⟨vs,h1,e.Ue h2⟩
 | one l=>exact e.Td (x:=.one l) h
 | agg l=>exact e.Td (x:=.agg l) h
 | ptr k n i off=>exact e.Td (x:=.ptr k n i off) h
 | rp ds aR row=>exact e.Td (x:=.rp ds aR row) h
 | und=>exact h
 | junk=>trivial
theorem gM.refl:gM κ g w I κ g w I :=
 ⟨fun _=>Nat.le_refl _,fun _=>Nat.le_refl _,fun _ _ hl _ _ hf=>⟨.inl ⟨hl,hf⟩,rfl⟩,fun _ _=>⟨rfl,rfl⟩,fun _ _ h=>⟨h,rfl⟩,fun _ _ h=>⟨h,rfl⟩⟩
theorem gM.trans {an2:Key->KE} {g'':Gh} {w'':World} {I'':aB} (e:gM κ g w I κ' g' w' I') (e':gM κ' g' w' I' an2 g'' w'' I'') :
  gM κ g w I an2 g'' w'' I'' where
 cv k:=Nat.le_trans (e.cv k) (e'.cv k)
 bQ k:=Nat.le_trans (e.bQ k) (e'.bQ k)
 foot k hc hl b o hf:=by
  have h1:=e.cv k; have h2:=e'.cv k
  obtain ⟨h3,h4⟩:=e.foot k (by omega) hl b o hf
  rcases h3 with ⟨h5,h6⟩ | h5
  ·obtain ⟨h7,h8⟩:=e'.foot k (by omega) h5 b o h6
   exact ⟨h7,h8.trans h4⟩
  ·exact ⟨.inr (e'.jP b o h5).1,(e'.jP b o h5).2.trans h4⟩
 head k hc:=by
  have h1:=e.bQ k; have h2:=e'.bQ k
  obtain ⟨h3,h4⟩:=e.head k (by omega)
  obtain ⟨h5,h6⟩:=e'.head k (by omega)
  exact ⟨h5.trans h3,h6.trans h4⟩
 jP b o h:=⟨(e'.jP b o (e.jP b o h).1).1,(e'.jP b o (e.jP b o h).1).2.trans (e.jP b o h).2⟩
 dd b o h:=⟨(e'.dd b o (e.dd b o h).1).1,(e'.dd b o (e.dd b o h).1).2.trans (e.dd b o h).2⟩
end evo
end Go.E

namespace Go.E
open Go
def Prog.wp (cf:FuncId->List Arg->R3 fV):Prog->S->Tr->(S->Tr->Prop)->Prop
 | .ret,σ,tr,Q=>Q σ tr
 | .fail,_,_,_=>False
 | .out,_,_,_=>True
 | .ig c p,σ,tr,Q=>c=true/\p.wp cf σ tr Q
 | .lim c p,σ,tr,Q=>c=true->p.wp cf σ tr Q
 | .br c p q,σ,tr,Q=>if c then p.wp cf σ tr Q else q.wp cf σ tr Q
 | .Dq t k,σ,tr,Q=>(k (σ.s t)).wp cf σ { tr with rs:=t::tr.rs } Q
 | .mG t e p,σ,tr,Q=>p.wp cf (σ.mG t e) { tr with ws:=t::tr.ws } Q
 | .fZ k c,σ,tr,Q=>(c (σ.k k)).wp cf σ { tr with rk:=k::tr.rk } Q
 | .bK k e p,σ,tr,Q=>p.wp cf (σ.bK k e) { tr with wk:=k::tr.wk } Q
 | .call f args k,σ,tr,Q=>match cf f args with
  | .ok r=>(k r).wp cf σ tr Q
  | .out=>True
  | .bad=>False
def zeroV:LT->Value->Prop
 | .sc (.int k),v=>v = .int k 0
 | .sc .bool,v=>v = .bool false
 | .sc .str,v=>v = .string .empty
 | .sc .any,v=>Single v
 | .sl _,v=>v = .slice none 0 0
def Fq:List LT->List Value->Prop
 | [],[]=>True
 | l::ls,v::vs=>zeroV l v/\Fq ls vs
 | _,_=>False
def afw (Γ:Ctx) (P:Program) (ti:TI):TK->TypeDesc->Prop
 | .sc (.int k),d=>d = .int k/\ti.aR=[.sc (.int k)]
 | .sc .bool,d=>d = .bool/\ti.aR=[.sc .bool]
 | .sc .str,d=>d = .string/\ti.aR=[.sc .str]
 | .sc .any,_=>False
 | .slice e,d=>d = .slice e /\ ∃ te,Γ.ty e=some te/\ti.aR=[.sl te.aR]/\te.aR≠[]
 | .struct fs,d=>∃ fields,d = .struct fields/\fs=fields.toList.map (fun f=>(f.offset,f.type)) /\
   ∀ f∈fields.toList,∃ i,P.info? f.type=some i/\i.size≠0
 | .array n e,d=>d = .array n e
 | .ptr e,d=>d = .pointer e/\ti.aR=[.sc .any]
 | .other,d=>(∀ fs,d ≠ .struct fs)/\(∀ n e,d ≠ .array n e)/\ti.aR=[.sc .any]
def V5 (P:Program):Nat->List Field->List LT->Prop
 | _,[],[]=>True
 | j,f::fs,lt::aR=>f.name ≠ "_" /\ f.offset=j/\(match lt with
   | .sc (.int k)=>P.underlying f.type=some (.int k)
   | .sc .bool=>P.underlying f.type=some .bool
   | .sc .str=>P.underlying f.type=some .string
   | _=>False)/\V5 P (j+1) fs aR
 | _,_,_=>False
def aaK (P:Program) (t:TypeId) (aR:List LT):Prop :=
 ∃ fields,P.underlying t=some (.struct fields)/\P.stoodInHeld t=false/\P.eqGuardType P.depth t=false/\V5 P 0 fields.toList aR
structure vQ (Γ:Ctx) (P:Program) (t:TypeId) (ti:TI):Prop where
 und : ∃ d,P.underlying t=some d/\afw Γ P ti ti.kind d
 flat:ti.flat=true->aaK P t ti.aR
 info : ∃ i,P.info? t=some i/\i.size=ti.aR.length/\ti.bytes=i.bytes/\ti.aR.length<=i.bytes/\i.bytes<=24 * ti.aR.length /\ ∃ z,i.zero=some z/\Fq ti.aR z.cells.toList
structure fE (Γ:Ctx) (P:Program):Prop where
 ty : ∀ t ti,Γ.ty t=some ti->vQ Γ P t ti
 fn : ∀ f fn,Γ.fn f=some fn->P.funcs[f]? = some fn
 enter : ∀ f fn,Γ.fn f=some fn->fn.body.isNone=false/\(fn.name == "runtime.NumGoroutine")=false
 mixed:P.follows .mixedOrders=true
theorem Fu {np nt:Nat} {o:Oper} {d:Nat} (hd:dM np nt o=true) (h:o.dst=some d):d<nt/\(np<=1000000->∀ r,¬ gN np ((d+2000000)::r)):=by
 unfold dM at hd
 rw [h] at hd
 have h2:d<nt:=by simpa [Nat.blt_eq] using hd
 exact ⟨h2,fun hb r hr=>by simp only [gN] at hr; omega⟩
def Goal (P:Program) (o:Oper) (a:Act) (w:World) (K:Act->World->Prop) (Q:Exit->Act->World->Prop):Prop :=
 o.wp P a w K Q\/(o.asks P a w/\LetsOut Q)
theorem zw {P:Program} {o:Oper} {a:Act} {w w':World} {K:Act->World->Prop} {Q:Exit->Act->World->Prop} {v:Value}
  (h:(execOp a.eval o).run P w = .ok (.value v) w') (hk:K (a.put o.dst v) w'):Goal P o a w K Q:=by
 refine .inl ?_
 unfold Oper.wp
 rw [h]
 exact hk
theorem adS {P:Program} {o:Oper} {a:Act} {w w':World} {K:Act->World->Prop} {Q:Exit->Act->World->Prop}
  (h:(execOp a.eval o).run P w = .ok .skip w') (hk:K (a.put o.dst undef) w'):Goal P o a w K Q:=by
 refine .inl ?_
 unfold Oper.wp
 rw [h]
 exact hk
section run
variable {Γ:Ctx} {P:Program} {w:World} {t:TypeId} {ti:TI}
theorem run_underlying {d:TypeDesc} (h:P.underlying t=some d):(underlying t).run P w = .ok d w:=by
 simp [underlying,h,go_sem]
end run
section slots
variable {n:Fr} {σ:S} {g:Gh} {I:aB} {a:Act} {w:World}
theorem afx (xs:Array Value) (i j:Nat) (v u:Value) (hi:i<xs.size):(xs.setIfInBounds i v).getD j u=if j=i then v else xs.getD j u:=by
 by_cases h:j=i
 ·subst h; simp [hi]
 ·simp [h,Array.getElem?_setIfInBounds_ne (Ne.symm h)]
theorem R.put (hR:R n σ g I a w) {d:Nat} (hd:d<n.nt) {e:fC} {v:Value} (he:jY σ.k g w I e v) :
  R n (σ.mG d e) g I (a.put (some d) v) w where
 size:=by simp [Act.put,hR.size]
 nd:=hR.nd
 slots t:=by
  have h1:(a.put (some d) v).tmps.getD t undef=if t=d then v else a.tmps.getD t undef:=afx _ _ _ _ _ (by rw [hR.size]; exact hd)
  rw [h1]
  by_cases h:t=d
  ·subst h
   simp only [S.mG,Nat.beq_refl,cond_true,if_true]
   exact he
  ·have h2:Nat.beq t d=false:=by cases hb:Nat.beq t d; rfl; exact absurd (Nat.eq_of_beq_eq_true hb) h
   simp only [S.mG,h2,cond_false,if_neg h]
   exact hR.slots t
 vI:=hR.vI
 sep:=hR.sep
 jP:=hR.jP
 zu:=hR.zu
 x:=hR.x
end slots
end Go.E

namespace Go.E
open Go
section
variable {Γ:Ctx} {P:Program} {cf:FuncId->List Arg->R3 fV}
variable {n:Fr} {σ:S} {g:Gh} {I:aB} {a:Act} {w:World}
def Post (P:Program) (n:Fr) (I:aB) (w:World) (Q:S->Tr->Prop) (K:Act->World->Prop):Prop :=
 ∀ σ' dI g' I' a' w',Q σ' dI->R n σ' g' I' a' w'->(∀ b o,I b o->I' b o)->Keeps (Im n I) w w'->K a' w'
theorem Pg {v:Value} {l:Leaf} (κ:Key->KE) (h:Dr v=some l):ER κ g w I l v:=by
 unfold Dr at h
 split at h
 ·cases h; exact ⟨⟨fun _ h=>(nomatch h),fun _ h=>(nomatch h)⟩,.bool,rfl,_,rfl,rfl⟩
 ·split at h
  ·rename_i hh; cases h; exact ⟨⟨fun _ h=>(nomatch h),fun _ h=>(nomatch h)⟩,.int _,rfl,_,rfl,rfl,hh⟩
  ·cases h
 ·split at h
  ·rename_i hh; cases h; exact ⟨⟨fun _ h=>(nomatch h),fun _ h=>(nomatch h)⟩,.str,rfl,_,rfl,rfl,hh⟩
  ·cases h
 ·cases h; exact ⟨⟨fun _ h=>(nomatch h),fun _ h=>(nomatch h)⟩,trivial,rfl,rfl⟩
 ·cases h
theorem JA (κ:Key->KE) : ∀ {vs:List Value} {ls:List Leaf},vs.mapM Dr=some ls->cu κ g w I ls vs
 | [],ls,h=>by simp at h; subst h; trivial
 | v::vs,ls,h=>by
  simp only [List.mapM_cons,Option.bind_eq_bind,Option.bind_eq_some_iff,Option.pure_def,Option.some.injEq] at h
  obtain ⟨l,h1,ls',h2,rfl⟩:=h
  exact ⟨Pg κ h1,JA κ h2⟩
theorem jQ {x:Operand} {k:fC->Prog} {tr:Tr} {Q:S->Tr->Prop} (hR:R n σ g I a w) (h:(rd x k).wp cf σ tr Q) :
  ∃ e dI,jY σ.k g w I e (a.eval x)/\(k e).wp cf σ dI Q:=by
 unfold rd at h
 split at h
 ·exact ⟨_,_,hR.slots _,h⟩
 ·exact ⟨.junk,tr,trivial,h⟩
 ·unfold pF at h
  split at h
  ·rename_i ls hl; exact ⟨.agg ls,tr,⟨_,rfl,JA _ hl⟩,h⟩
  ·exact h.elim
 ·unfold pF at h
  split at h
  ·rename_i l hl; exact ⟨.one l,tr,Pg _ hl,h⟩
  ·exact h.elim
 ·rename_i f; exact ⟨.fn f [],tr,⟨#[],rfl,trivial⟩,h⟩
 ·exact h.elim
theorem dX {α:Type} {o:Option α} {k:α->Prog} {tr:Tr} {Q:S->Tr->Prop} (h:(pF o k).wp cf σ tr Q) :
  ∃ x,o=some x/\(k x).wp cf σ tr Q:=by
 unfold pF at h
 split at h
 ·exact ⟨_,rfl,h⟩
 ·exact h.elim
theorem oP {e:fC} {k:ST->T->Prog} {tr:Tr} {Q:S->Tr->Prop} {v:Value} (he:jY σ.k g w I e v) (h:(vO e k).wp cf σ tr Q) :
  ∃ s d,e = .one ⟨.sc,.sc s,d⟩/\Ms s v d/\(k s d).wp cf σ tr Q:=by
 unfold vO at h
 split at h
 ·obtain ⟨-,s',hs,hv⟩:=he
  cases hs
  exact ⟨_,_,rfl,hv,h⟩
 ·exact h.elim
theorem Dw {e:fC} {k:Leaf->Prog} {tr:Tr} {Q:S->Tr->Prop} {v:Value} (he:jY σ.k g w I e v) (h:(VJ e k).wp cf σ tr Q) :
  ∃ l,e = .one l/\ER σ.k g w I l v/\(k l).wp cf σ tr Q:=by
 unfold VJ at h
 split at h
 ·exact ⟨_,rfl,he,h⟩
 ·exact h.elim
theorem kG {o:Oper} {e:fC} {v:Value} {tr:Tr} {Q:S->Tr->Prop} {K:Act->World->Prop} {Qm:Exit->Act->World->Prop}
  (hd:dM n.np n.nt o=true) (hR:R n σ g I a w) (hK:Post P n I w Q K)
  (hrun:(execOp a.eval o).run P w = .ok (.value v) w) (he:jY σ.k g w I e v) (h:(put o.dst e).wp cf σ tr Q):Goal P o a w K Qm:=by
 refine zw hrun ?_
 unfold put at h
 cases hds:o.dst with
 | none =>
  simp only [hds] at h ⊢
  exact hK _ _ g I _ _ h hR (fun _ _ h=>h) (Keeps.refl _ _)
 | some d =>
  simp only [hds] at h ⊢
  exact hK _ _ g I _ _ h (hR.put (Fu hd hds).1 he) (fun _ _ h=>h) (Keeps.refl _ _)
theorem ng {o:Oper} {s:ST} {d:T} {v:Value} {tr:Tr} {Q:S->Tr->Prop} {K:Act->World->Prop} {Qm:Exit->Act->World->Prop}
  (hd:dM n.np n.nt o=true) (hR:R n σ g I a w) (hK:Post P n I w Q K)
  (hrun:(execOp a.eval o).run P w = .ok (.value v) w) (he:Ms s v d) (h:(qb o.dst s d).wp cf σ tr Q):Goal P o a w K Qm :=
 kG hd hR hK hrun (e:=.one ⟨.sc,.sc s,d⟩) ⟨he.single,s,rfl,he⟩ h
end
end Go.E

namespace Go.E
open Go
theorem Ph (k:IntKind) (x:Int):k.min<=k.wrap x/\k.wrap x<=k.max:=by
 have e8:(2:Int) ^ 8=256:=by decide
 have e7:(2:Int) ^ 7=128:=by decide
 have e16:(2:Int) ^ 16=65536:=by decide
 have e15:(2:Int) ^ 15=32768:=by decide
 have e32:(2:Int) ^ 32=4294967296:=by decide
 have e31:(2:Int) ^ 31=2147483648:=by decide
 have e64:(2:Int) ^ 64=18446744073709551616:=by decide
 have e63:(2:Int) ^ 63=9223372036854775808:=by decide
 cases k <;> simp only [IntKind.wrap,IntKind.min,IntKind.max,IntKind.bits,IntKind.signed,Bool.true_and,Bool.false_and,if_true,Bool.false_eq_true,if_false,Nat.reduceSub,e8,e7,e16,e15,e32,e31,e64,e63,decide_eq_true_eq] <;> (try split) <;> omega
theorem xR {k:IntKind} {x:Int} : Ms (.int k) (.int k (k.wrap x)) (.i (k.wrap x)):=⟨_,rfl,rfl,(Ph k x).1,(Ph k x).2⟩
theorem nM {b:Bool} : Ms .bool (.bool b) (.b b):=⟨_,rfl,rfl⟩
theorem JB (k:IntKind):k.min<=0/\0<=k.max:=by
 cases k <;> simp [IntKind.min,IntKind.max,IntKind.bits,IntKind.signed]
theorem Pj {k:IntKind} {x y:Int} (h:k.min<=x/\x<=k.max):k.min<=x.tmod y/\x.tmod y<=k.max:=by
 have h0:=JB k
 have h1:(x.tmod y).natAbs<=x.natAbs:=by rw [Int.natAbs_tmod]; exact Nat.mod_le _ _
 rcases Int.le_total 0 x with hx | hx
 ·have h2:=Int.tmod_nonneg y hx
  omega
 ·have h3:=Int.tmod_nonneg y (show 0<=-x by omega)
  rw [Int.neg_tmod] at h3
  omega
theorem aaL {k:IntKind} {x:Int} {m:Nat} (h:k.min<=x/\x<=k.max):k.min<=x.fdiv (2 ^ m)/\x.fdiv (2 ^ m)<=k.max:=by
 have h0:=JB k
 have hp:(0:Int)<2 ^ m:=Int.pow_pos (by decide)
 rw [Int.fdiv_eq_ediv_of_nonneg _ (by omega)]
 rcases Int.le_total 0 x with hx | hx
 ·have h2:=Int.ediv_nonneg hx (show (0:Int)<=2 ^ m by omega)
  have h3:=Int.ediv_le_self (2 ^ m) hx
  omega
 ·have h2:x<=x / 2 ^ m:=by
   rw [Int.le_ediv_iff_mul_le hp]
   have h1:(0:Int)<=2 ^ m-1:=by omega
   have:=Int.mul_nonneg (show 0<=-x by omega) h1
   have e : -x * (2 ^ m-1)=x-x * 2 ^ m:=by rw [Int.mul_sub,Int.neg_mul]; omega
   omega
  have h3:x / 2 ^ m<=0:=by
   have:=Int.ediv_le_ediv hp hx
   simpa using this
  omega
section
variable {P:Program} {w:World} {ρ:Operand->Value} {o:Oper}
theorem run_move {x:Operand} (hop:o.op = .move x\/o.op = .assign x):(execOp ρ o).run P w = .ok (.value (ρ x)) w:=by
 rcases hop with hop | hop <;> simp [execOp,hop,go_sem]
theorem afy {c x y:Operand} {b:Bool} (hop:o.op = .pick c x y) (hb:ρ c = .bool b) :
  (execOp ρ o).run P w = .ok (.value (if b=true then ρ x else ρ y)) w:=by
 simp [execOp,hop,hb,asBool,go_sem]
theorem V6 {x:Operand} {b o':Nat} (hop:o.op = .nilCheck x) (hv:ρ x = .pointer (some ⟨b,o',none⟩)) :
  (execOp ρ o).run P w = .ok (.value (ρ x)) w:=by
 simp [execOp,hop,hv,go_sem]
theorem XR {x:Operand} {i:Nat} {vs:Array Value} {v:Value} (hop:o.op = .extract x i) (hv:ρ x = .tuple vs) (h:vs[i]? = some v) :
  (execOp ρ o).run P w = .ok (.value v) w:=by
 simp [execOp,hop,hv,Instr.extract,h,go_sem]
end
section
variable {Γ:Ctx} {P:Program} {cf:FuncId->List Arg->R3 fV}
variable {n:Fr} {σ:S} {g:Gh} {I:aB} {a:Act} {w:World}
theorem uE (κ:Key->KE) : ∀ {aR:List LT} {ls:List Leaf} {vs:List Value},cu κ g w I ls vs->cu κ g w I (qx aR ls) vs
 | [],ls,vs,h=>by unfold qx; exact h
 | lt::aR,[],vs,h=>by unfold qx; exact h
 | lt::aR,l::ls,[],h=>h.elim
 | lt::aR,l::ls,v::vs,h=>by
  unfold qx
  refine ⟨?_,uE κ h.2⟩
  split
  ·rename_i e1
   obtain ⟨h1,h2⟩:=h.1
   refine ⟨h1,?_⟩
   simp only [e1] at h2 ⊢
   exact ⟨trivial,h2.2⟩
  ·exact h.1
theorem V7 {κ:Key->KE} {ls:List Leaf} {v:Value} (h:cu κ g w I ls [v]):jY κ g w I (Lc ls) v:=by
 unfold Lc
 split
 ·exact h.1
 ·trivial
theorem Pk {κ:Key->KE} {ls:List Leaf} {cs:Array Value} (h:cu κ g w I ls cs.toList):jY κ g w I (E9 true ls) (.agg cs):=⟨cs,rfl,h⟩
theorem Li {κ:Key->KE} {ls:List Leaf} {v:Value} (h:cu κ g w I ls [v]):jY κ g w I (E9 false ls) v:=by
 unfold E9
 simp only [cond_false]
 split
 ·exact h.1
 ·trivial
theorem gD {t:TypeId} {k:TI->Prog} {tr:Tr} {Q:S->Tr->Prop} (hΓ:fE Γ P) (h:(vJ Γ t k).wp cf σ tr Q) :
  ∃ ti,Γ.ty t=some ti/\vQ Γ P t ti/\(k ti).wp cf σ tr Q:=by
 obtain ⟨ti,h1,h2⟩:=dX h
 exact ⟨ti,h1,hΓ.ty t ti h1,h2⟩
variable {o:Oper} {f:FuncId} {tr:Tr} {Q:S->Tr->Prop} {K:Act->World->Prop} {Qm:Exit->Act->World->Prop}
theorem V8 {aR:List LT} {κ:Key->KE} {e:fC} {v:Value} (h:jY κ g w I e v):jY κ g w I (Ld aR e) v:=by
 unfold Ld
 split
 ·exact V7 (uE _ ⟨h,trivial⟩)
 ·obtain ⟨cs,h3,h4⟩:=h
  exact ⟨cs,h3,uE _ h4⟩
 ·exact h
theorem acj {s:ST} {d:T} {v:Value} (h:Ms s v d):O7 s d=d:=by
 cases s <;> first | rfl | skip
 obtain ⟨b,-,rfl⟩:=h
 rfl
theorem aiE (hd:dM n.np n.nt o=true) (hR:R n σ g I a w) (hK:Post P n I w Q K) {c x y:Operand} (hop:o.op = .pick c x y)
  (h:(bH Γ f o).wp cf σ tr Q):Goal P o a w K Qm:=by
 simp only [bH,hop] at h
 obtain ⟨ec,t1,hc,h⟩:=jQ hR h
 obtain ⟨ex,t2,hx,h⟩:=jQ hR h
 obtain ⟨ey,t3,hy,h⟩:=jQ hR h
 obtain ⟨s,d,rfl,hv,h⟩:=oP hc h
 split at h
 ·obtain ⟨b,hb,rfl⟩:=hv
  have hrun:=afy (P:=P) (w:=w) (ρ:=a.eval) hop hb
  simp only [Prog.wp,T.bool] at h
  cases b
  ·simp only [Bool.false_eq_true,if_false] at h hrun
   obtain ⟨s,d,rfl,hv,h⟩:=oP hy h
   rw [acj hv] at h
   exact ng hd hR hK hrun hv h
  ·simp only [if_true] at h hrun
   obtain ⟨s,d,rfl,hv,h⟩:=oP hx h
   rw [acj hv] at h
   exact ng hd hR hK hrun hv h
 ·exact h.elim
theorem uF {ds:List Dp} {p:Prog} : ∀ {tr:Tr},(BL ds p).wp cf σ tr Q->Cur σ.k ds /\ ∃ dI,p.wp cf σ dI Q:=by
 induction ds with
 | nil=>intro tr h; exact ⟨fun _ h=>(nomatch h),tr,h⟩
 | cons d ds ih =>
  intro tr h
  obtain ⟨k,m⟩:=d
  obtain ⟨h1,h2⟩:=h
  obtain ⟨h3,h4⟩:=ih h2
  refine ⟨fun x hx=>?_,h4⟩
  rcases List.mem_cons.1 hx with rfl | hx
  ·exact Nat.eq_of_beq_eq_true h1
  ·exact h3 x hx
theorem XT (hd:dM n.np n.nt o=true) (hR:R n σ g I a w) (hK:Post P n I w Q K) {x:Operand} (hop:o.op = .nilCheck x)
  (h:(bH Γ f o).wp cf σ tr Q):Goal P o a w K Qm:=by
 simp only [bH,hop] at h
 obtain ⟨e,t1,he,h⟩:=jQ hR h
 have key : ∀ b o',a.eval x = .pointer (some ⟨b,o',none⟩)->(execOp a.eval o).run P w = .ok (.value (a.eval x)) w:=fun b o' hv=>V6 hop hv
 split at h
 ·obtain ⟨h1,h2⟩:=h
  obtain ⟨b,o',hv,-⟩:=he.2.2 (Nat.eq_of_beq_eq_true h1)
  exact kG hd hR hK (key b o' hv) he h2
 ·obtain ⟨h1,t2,h2⟩:=uF h
  obtain ⟨b,o',hv,-⟩:=he.2.2 h1
  exact kG hd hR hK (key b o' hv) he h2
 ·exact h.elim
theorem aaM (hd:dM n.np n.nt o=true) (hR:R n σ g I a w) (hK:Post P n I w Q K) {x:Operand} {i:Nat} (hop:o.op = .extract x i)
  (h:(bH Γ f o).wp cf σ tr Q):Goal P o a w K Qm:=by
 simp only [bH,hop] at h
 obtain ⟨e,t1,he,h⟩:=jQ hR h
 split at h
 ·rename_i es
  obtain ⟨vs,hv,hs⟩:=he
  obtain ⟨x',hx,h⟩:=dX h
  have key : ∀ (es:List fC) (vs:List Value) (i:Nat),pY σ.k g w I es vs->es[i]? = some x'->∃ v,vs[i]? = some v/\r9 σ.k g w I x' v:=by
   intro es
   induction es with
   | nil=>intro vs i _ h; simp at h
   | cons e es ih =>
    intro vs i h1 h2
    cases vs with
    | nil=>exact h1.elim
    | cons v vs =>
     cases i with
     | zero=>simp at h2; subst h2; exact ⟨v,rfl,h1.1⟩
     | succ i=>simpa using ih vs i h1.2 (by simpa using h2)
  obtain ⟨v,hv1,hv2⟩:=key es vs.toList i hs hx
  have aqr:vs[i]? = some v:=by simpa using hv1
  have hrun:=XR (P:=P) (w:=w) (ρ:=a.eval) hop hv aqr
  refine kG hd hR hK hrun (e:=x') ?_ h
  cases x' <;> first | exact hv2 | exact hv2.elim
 ·exact h.elim
end
end Go.E

namespace Go.E
open Go
section
variable {P:Program} {w:World} {ρ:Operand->Value} {o:Oper}
theorem adT {op:BinOp} {t:TypeId} {x y:Operand} {k k':IntKind} {i j:Int} : (eqGuard op t x y (.int k i) (.int k' j)).run P w = .ok () w:=by
 cases op <;> simp [eqGuard,go_sem]
theorem adU {op:BinOp} {t:TypeId} {x y:Operand} {i j:ByteArray} : (eqGuard op t x y (.string i) (.string j)).run P w = .ok () w:=by
 cases op <;> simp [eqGuard,go_sem]
theorem aaN {op:BinOp} {t:TypeId} {x y:Operand} {i j:Bool} : (eqGuard op t x y (.bool i) (.bool j)).run P w = .ok () w:=by
 cases op <;> simp [eqGuard,go_sem]
theorem uG {op:BinOp} {t t':TypeId} {x y:Operand} {v:Value} (hop:o.op = .binOp op t x y t')
  (hg:(eqGuard op t x y (ρ x) (ρ y)).run P w = .ok () w) (hv:(binOp op t (ρ x) (ρ y)).run P w = .ok v w) :
  (execOp ρ o).run P w = .ok (.value v) w:=by
 simp only [execOp,hop]
 rw [Sem.run_bind,Sem.run_bind,hg]
 simp [hv]
theorem Pm {op:UnOp} {t:TypeId} {x:Operand} {v:Value} (hop:o.op = .unOp op t x) (hv:(Op.unary op (ρ x)).run P w = .ok v w) :
  (execOp ρ o).run P w = .ok (.value v) w:=by
 simp only [execOp,hop]
 rw [Sem.run_bind,hv]
 simp
end
section
variable {Γ:Ctx} {P:Program} {cf:FuncId->List Arg->R3 fV}
variable {n:Fr} {σ:S} {g:Gh} {I:aB} {a:Act} {w:World}
variable {o:Oper} {f:FuncId} {tr:Tr} {Q:S->Tr->Prop} {K:Act->World->Prop} {Qm:Exit->Act->World->Prop}
theorem adV {op:BinOp} {k:IntKind} {x y:Int} {C:ST->T->Prog} (t:TypeId) (hx:k.min<=x/\x<=k.max)
  (h:(aaD op k x y C).wp cf σ tr Q) (h1:op ≠ .shl) (h2:op ≠ .shr) :
  ∃ s d v,(binOp op t (.int k x) (.int k y)).run P w = .ok v w/\Ms s v d/\(C s d).wp cf σ tr Q:=by
 cases op <;> simp only [aaD] at h <;> try (exact h.elim)
 case add=>exact ⟨_,_,_,by simp only [binOp,ne_eq,not_true_eq_false,if_false,Op.intArith]; rfl,xR,h⟩
 case sub=>exact ⟨_,_,_,by simp only [binOp,ne_eq,not_true_eq_false,if_false,Op.intArith]; rfl,xR,h⟩
 case mul=>exact ⟨_,_,_,by simp only [binOp,ne_eq,not_true_eq_false,if_false,Op.intArith]; rfl,xR,h⟩
 case quo =>
  obtain ⟨h0,h⟩:=h
  have hy:y≠0:=by simpa using h0
  exact ⟨_,_,_,by simp only [binOp,ne_eq,not_true_eq_false,if_false,Op.intDiv,hy]; rfl,xR,h⟩
 case rem =>
  obtain ⟨h0,h⟩:=h
  have hy:y≠0:=by simpa using h0
  exact ⟨.int k,.i (x.tmod y),.int k (x.tmod y),by simp only [binOp,ne_eq,not_true_eq_false,if_false,Op.intDiv,hy]; rfl,⟨_,rfl,rfl,(Pj hx).1,(Pj hx).2⟩,h⟩
 case and=>exact ⟨_,_,_,by simp only [binOp,ne_eq,not_true_eq_false,if_false,Op.intBits]; rfl,xR,h⟩
 case or=>exact ⟨_,_,_,by simp only [binOp,ne_eq,not_true_eq_false,if_false,Op.intBits]; rfl,xR,h⟩
 case xor=>exact ⟨_,_,_,by simp only [binOp,ne_eq,not_true_eq_false,if_false,Op.intBits]; rfl,xR,h⟩
 case andNot=>exact ⟨_,_,_,by simp only [binOp,ne_eq,not_true_eq_false,if_false,Op.intBits]; rfl,xR,h⟩
 case eql=>exact ⟨_,_,_,by simp only [binOp,ne_eq,not_true_eq_false,if_false,Op.intCmp]; rfl,nM,h⟩
 case neq=>exact ⟨_,_,_,by simp only [binOp,ne_eq,not_true_eq_false,if_false,Op.intCmp]; rfl,nM,h⟩
 case lss=>exact ⟨_,_,_,by simp only [binOp,ne_eq,not_true_eq_false,if_false,Op.intCmp]; rfl,nM,h⟩
 case leq=>exact ⟨_,_,_,by simp only [binOp,ne_eq,not_true_eq_false,if_false,Op.intCmp]; rfl,nM,h⟩
 case gtr=>exact ⟨_,_,_,by simp only [binOp,ne_eq,not_true_eq_false,if_false,Op.intCmp]; rfl,nM,h⟩
 case geq=>exact ⟨_,_,_,by simp only [binOp,ne_eq,not_true_eq_false,if_false,Op.intCmp]; rfl,nM,h⟩
theorem V9:IntKind.i64.max=9223372036854775807:=by decide
theorem adW {op:BinOp} {x y:ByteArray} {C:ST->T->Prog} (t:TypeId)
  (h:(aaE op x y C).wp cf σ tr Q) :
  ∃ s d v,(binOp op t (.string x) (.string y)).run P w = .ok v w/\Ms s v d/\(C s d).wp cf σ tr Q:=by
 cases op <;> simp only [aaE] at h <;> try (exact h.elim)
 case add =>
  obtain ⟨h0,h⟩:=h
  have h1:x.size+y.size<9223372036854775808:=by simpa using h0
  have h2 : ¬ (((x.size+y.size:Nat):Int) > IntKind.i64.max):=by rw [V9]; omega
  exact ⟨.str,_,.string (x++y),by simp only [binOp,Op.stringOp,h2,if_false]; rfl,⟨_,rfl,rfl,by rw [ByteArray.size_append]; exact h1⟩,h⟩
 case eql=>exact ⟨_,_,_,by simp only [binOp,Op.stringOp]; rfl,nM,h⟩
 case neq=>exact ⟨_,_,_,by simp only [binOp,Op.stringOp]; rfl,nM,h⟩
 case lss=>exact ⟨_,_,_,by simp only [binOp,Op.stringOp]; rfl,nM,h⟩
 case leq=>exact ⟨_,_,_,by simp only [binOp,Op.stringOp]; rfl,nM,h⟩
 case gtr=>exact ⟨_,_,_,by simp only [binOp,Op.stringOp]; rfl,nM,h⟩
 case geq=>exact ⟨_,_,_,by simp only [binOp,Op.stringOp]; rfl,nM,h⟩
end
end Go.E

namespace Go.E
open Go
section
variable {P:Program} {w:World} {ρ:Operand->Value} {o:Oper}
theorem XU {t:TypeId} {cs:Array Value} {off:Nat} {v:Value} {d:TypeDesc} (hu:P.underlying t=some d) (hd:(∀ fs,d ≠ .struct fs) /\ ∀ n e,d ≠ .array n e)
  (hv:cs[off]? = some v):(part t cs off).run P w = .ok v w:=by
 have h1:(isAgg t).run P w = .ok false w:=by
  simp only [isAgg,Sem.run_bind,run_underlying hu,Result.andThen_ok]
  cases d <;> first | rfl | exact absurd rfl (hd.1 _) | exact absurd rfl (hd.2 _ _)
 simp [part,h1,hv]
end
section
variable {Γ:Ctx} {P:Program} {cf:FuncId->List Arg->R3 fV}
variable {n:Fr} {σ:S} {g:Gh} {I:aB} {a:Act} {w:World}
variable {o:Oper} {f:FuncId} {tr:Tr} {Q:S->Tr->Prop} {K:Act->World->Prop} {Qm:Exit->Act->World->Prop}
theorem aiF {s:ST} {x y:T} {u v:Value} {b:Bool} {t:TypeId} {d:Nat} (hty:match LT.sc s with
   | .sc (.int k)=>P.underlying t=some (.int k)
   | .sc .bool=>P.underlying t=some .bool
   | .sc .str=>P.underlying t=some .string
   | _=>False) (hu:Ms s u x) (hv:Ms s v y) (h:afn s x y=some b) :
  (Op.equalIn (d+1) t u v).run P w = .ok b w /\ ∃ dd,P.underlying t=some dd/\(∀ fs,dd ≠ .struct fs) /\ ∀ n e,dd ≠ .array n e:=by
 cases s with
 | int k =>
  obtain ⟨i,rfl,rfl,-⟩:=hu
  obtain ⟨i',rfl,rfl,-⟩:=hv
  simp only [afn,T.int,Option.some.injEq] at h
  subst h
  exact ⟨run_equalIn_int w d _ _ _ _ _ hty,_,hty,fun _ h=>(nomatch h),fun _ _ h=>(nomatch h)⟩
 | bool =>
  obtain ⟨i,rfl,rfl⟩:=hu
  obtain ⟨i',rfl,rfl⟩:=hv
  simp only [afn,T.bool,Option.some.injEq] at h
  subst h
  exact ⟨run_equalIn_bool' w d _ _ _ hty,_,hty,fun _ h=>(nomatch h),fun _ _ h=>(nomatch h)⟩
 | str =>
  obtain ⟨i,rfl,rfl,-⟩:=hu
  obtain ⟨i',rfl,rfl,-⟩:=hv
  simp only [afn,T.str,Option.some.injEq] at h
  subst h
  exact ⟨run_equalIn_string w d _ _ _ hty,_,hty,fun _ h=>(nomatch h),fun _ _ h=>(nomatch h)⟩
 | any=>exact hty.elim
theorem Mt {κ:Key->KE} {d:Nat} {xs ys:Array Value} : ∀ (fs:List Field) (aR:List LT) (j:Nat) (ls rs:List Leaf) (r:Bool),V5 P j fs aR ->
  cu κ g w I ls (xs.toList.drop j)->cu κ g w I rs (ys.toList.drop j)->zi aR ls rs=some r ->
  (Op.eqFields (d+1) xs ys fs).run P w = .ok r w
 | [],[],j,ls,rs,r,hf,hl,hr,he=>by
  cases ls <;> cases rs <;> simp [zi] at he
  subst he; simp [Op.eqFields]
 | [],_::_,j,ls,rs,r,hf,hl,hr,he=>hf.elim
 | f::fs,[],j,ls,rs,r,hf,hl,hr,he=>hf.elim
 | f::fs,lt::aR,j,ls,rs,r,hf,hl,hr,he=>by
  unfold zi at he
  split at he
  ·contradiction
  ·rename_i c aiG a' x ls' b' y rs' e1
   cases e1
   split at he
   ·rename_i hab
    obtain ⟨rfl,rfl⟩:=hab
    split at he
    ·rename_i b r' h1 h2
     cases he
     obtain ⟨hname,hoff,hty,hf⟩:=hf
     cases hx:xs.toList.drop j with
     | nil=>rw [hx] at hl; exact hl.elim
     | cons u us =>
      cases hy:ys.toList.drop j with
      | nil=>rw [hy] at hr; exact hr.elim
      | cons v vs =>
       rw [hx] at hl; rw [hy] at hr
       have hx1:xs[j]? = some u:=by
        have:(xs.toList.drop j)[0]? = some u:=by rw [hx]; rfl
        simpa using this
       have hy1:ys[j]? = some v:=by
        have:(ys.toList.drop j)[0]? = some v:=by rw [hy]; rfl
        simpa using this
       have hx2:xs.toList.drop (j+1)=us:=by rw [<-List.drop_drop,hx]; rfl
       have hy2:ys.toList.drop (j+1)=vs:=by rw [<-List.drop_drop,hy]; rfl
       obtain ⟨-,s1',e1,hu⟩:=hl.1
       obtain ⟨-,s2',e2,hv⟩:=hr.1
       cases e1; cases e2
       obtain ⟨hb,dd,hu',hdd⟩:=aiF (P:=P) (w:=w) (d:=d) hty hu hv h1
       have ih:=Mt (d:=d) (xs:=xs) (ys:=ys) fs aR (j+1) ls' rs' r' hf (by rw [hx2]; exact hl.2) (by rw [hy2]; exact hr.2) h2
       simp only [Op.eqFields,ne_eq,hname,not_false_eq_true,if_true,Sem.run_bind,hoff,XU hu' hdd hx1,XU hu' hdd hy1,Result.andThen_ok,hb]
       cases b
       ·simp
       ·simpa using ih
    ·cases he
   ·cases he
  ·cases he
theorem Uf {κ:Key->KE} {t:TypeId} {ti:TI} {ls rs:List Leaf} {r:Bool} {xs ys:Array Value} (hf:aaK P t ti.aR) (hl:cu κ g w I ls xs.toList) (hr:cu κ g w I rs ys.toList)
  (he:zi ti.aR ls rs=some r):(Op.equal t (.agg xs) (.agg ys)).run P w = .ok r w /\
   ∀ op x y,(eqGuard op t x y (.agg xs) (.agg ys)).run P w = .ok () w:=by
 obtain ⟨fields,h1,h2,h3,h4⟩:=hf
 constructor
 ·have hfo:P.fieldsOf t=fields:=by simp [Program.fieldsOf,h1]
  show (Op.equalIn (9999+1) t (.agg xs) (.agg ys)).run P w = .ok r w
  rw [run_equalIn_struct (P:=P) w 9999 t xs ys (by rw [hfo]; exact h1) h2,hfo]
  exact Mt (d:=9998) fields.toList ti.aR 0 ls rs r h4 (by simpa using hl) (by simpa using hr) he
 ·intro op x y
  cases op <;> simp [eqGuard,h3,go_sem]
theorem afz (hΓ:fE Γ P) (hd:dM n.np n.nt o=true) (hR:R n σ g I a w) (hK:Post P n I w Q K) {op:BinOp} {t t':TypeId} {x y:Operand} (hop:o.op = .binOp op t x y t')
  (h:(bH Γ f o).wp cf σ tr Q):Goal P o a w K Qm:=by
 simp only [bH,hop] at h
 obtain ⟨ti,-,hty,h⟩:=gD hΓ h
 obtain ⟨ex,t1,hx,h⟩:=jQ hR h
 obtain ⟨ey,t2,hy,h⟩:=jQ hR h
 unfold anY at h
 split at h
 ·skip
  rename_i k u k' v _
  have hu:Ms (.int k) (a.eval x) u:=by obtain ⟨-,s,e,hu⟩:=hx; cases e; exact hu
  have hv:Ms (.int k') (a.eval y) v:=by obtain ⟨-,s,e,hu⟩:=hy; cases e; exact hu
  obtain ⟨i,hi,rfl,hi1⟩:=hu
  obtain ⟨j,hj,rfl,hj1⟩:=hv
  have hgd:(eqGuard op t x y (a.eval x) (a.eval y)).run P w = .ok () w:=by rw [hi,hj]; exact adT
  split at h
  ·obtain ⟨h0,h⟩:=h
   have h1 : ¬ j<0:=by have:=of_decide_eq_true h0; simp only [T.int] at this; omega
   refine ng hd hR hK (uG hop hgd (v:=.int k (k.wrap (i * 2 ^ (min j.toNat k.bits)))) ?_) xR h
   rw [hi,hj]; simp [binOp,Op.shift,h1]
  ·obtain ⟨h0,h⟩:=h
   have h1 : ¬ j<0:=by have:=of_decide_eq_true h0; simp only [T.int] at this; omega
   refine ng hd hR hK (s:=.int k) (uG hop hgd (v:=.int k (i.fdiv (2 ^ (min j.toNat k.bits)))) ?_) ⟨_,rfl,rfl,aaL hi1⟩ h
   rw [hi,hj]; simp [binOp,Op.shift,h1]
  ·rename_i hs1 hs2
   split at h
   ·rename_i hk
    subst hk
    obtain ⟨s,d,v,h1,h2,h3⟩:=adV (P:=P) (w:=w) t hi1 h (fun e=>hs1 e) (fun e=>hs2 e)
    exact ng hd hR hK (uG hop hgd (by rw [hi,hj]; exact h1)) h2 h3
   ·exact h.elim
 ·obtain ⟨-,s,e,hu⟩:=hx
  cases e
  obtain ⟨-,s,e,hv⟩:=hy
  cases e
  obtain ⟨i,hi,rfl,hi1⟩:=hu
  obtain ⟨j,hj,rfl,hj1⟩:=hv
  have hgd:(eqGuard op t x y (a.eval x) (a.eval y)).run P w = .ok () w:=by rw [hi,hj]; exact adU
  obtain ⟨s,d,v,h1,h2,h3⟩:=adW (P:=P) (w:=w) t h
  exact ng hd hR hK (uG hop hgd (by rw [hi,hj]; exact h1)) h2 h3
 ·obtain ⟨-,s,e,hu⟩:=hx
  cases e
  obtain ⟨-,s,e,hv⟩:=hy
  cases e
  obtain ⟨i,hi,rfl⟩:=hu
  obtain ⟨j,hj,rfl⟩:=hv
  have hgd:(eqGuard op t x y (a.eval x) (a.eval y)).run P w = .ok () w:=by rw [hi,hj]; exact aaN
  cases hb:VL ti.kind with
  | false=>simp only [hb,cond_false] at h; exact h.elim
  | true =>
   simp only [hb,cond_true] at h
   have hub:P.underlying t=some .bool:=by
    obtain ⟨d,h1,h2⟩:=hty.und
    unfold VL at hb
    split at hb
    ·rename_i hk; rw [hk] at h2; rw [h1,h2.1]
    ·cases hb
   have heq:(Op.equal t (.bool i) (.bool j)).run P w = .ok (i==j) w:=run_equalIn_bool' w 9999 t i j hub
   split at h
   ·exact ng hd hR hK (uG hop hgd (v:=.bool (i==j)) (by rw [hi,hj]; simp [binOp,heq])) nM h
   ·exact ng hd hR hK (uG hop hgd (v:=.bool (!(i==j))) (by rw [hi,hj]; simp [binOp,heq])) nM h
   ·exact h.elim
 ·rename_i ls rs
  obtain ⟨xs,hxs,hl⟩:=hx
  obtain ⟨ys,hys,hr⟩:=hy
  cases hb:ti.flat with
  | false=>simp only [hb,cond_false] at h; exact h.elim
  | true =>
   simp only [hb,cond_true] at h
   split at h
   ·obtain ⟨r,he,h⟩:=dX h
    obtain ⟨h1,h2⟩:=Uf (hty.flat hb) hl hr he
    exact ng hd hR hK (uG hop (by rw [hxs,hys]; exact h2 _ _ _) (v:=.bool r) (by rw [hxs,hys]; simp [binOp,h1])) nM h
   ·obtain ⟨r,he,h⟩:=dX h
    obtain ⟨h1,h2⟩:=Uf (hty.flat hb) hl hr he
    exact ng hd hR hK (uG hop (by rw [hxs,hys]; exact h2 _ _ _) (v:=.bool (!r)) (by rw [hxs,hys]; simp [binOp,h1])) nM h
   ·exact h.elim
 ·exact h.elim
theorem aiH (hd:dM n.np n.nt o=true) (hR:R n σ g I a w) (hK:Post P n I w Q K) {op:UnOp} {t:TypeId} {x:Operand} (hop:o.op = .unOp op t x)
  (h:(bH Γ f o).wp cf σ tr Q):Goal P o a w K Qm:=by
 simp only [bH,hop] at h
 obtain ⟨ex,t1,hx,h⟩:=jQ hR h
 obtain ⟨s,d,rfl,hv,h⟩:=oP hx h
 split at h
 ·obtain ⟨b,hb,rfl⟩:=hv
  exact ng hd hR hK (Pm hop (by rw [hb]; rfl)) nM h
 ·obtain ⟨i,hi,rfl,-⟩:=hv
  exact ng hd hR hK (Pm hop (by rw [hi]; rfl)) xR h
 ·obtain ⟨i,hi,rfl,-⟩:=hv
  exact ng hd hR hK (Pm hop (by rw [hi]; rfl)) xR h
 ·exact h.elim
end
end Go.E

namespace Go.E
open Go
mutual
theorem LT.beq_eq : ∀ {a b:LT},LT.beq a b=true->a=b
 | .sc a,.sc b,h=>by unfold LT.beq at h; rw [of_decide_eq_true h]
 | .sl a,.sl b,h=>by unfold LT.beq at h; rw [LT.bP h]
 | .sc _,.sl _,h=>by unfold LT.beq at h; cases h
 | .sl _,.sc _,h=>by unfold LT.beq at h; cases h
theorem LT.bP : ∀ {a b:List LT},LT.eH a b=true->a=b
 | [],[],h=>rfl
 | a::as,b::bs,h=>by
  unfold LT.eH at h
  simp only [Bool.and_eq_true] at h
  rw [LT.beq_eq h.1,LT.bP h.2]
 | [],_::_,h=>by unfold LT.eH at h; cases h
 | _::_,[],h=>by unfold LT.eH at h; cases h
end
section
variable {w w':World} {I I' S A:aB}
def aW (w:World) (S:aB):List LT->List Value->List T->Prop
 | [],[],[]=>True
 | e::es,v::vs,d::ds=>aJ w S e v d/\aW w S es vs ds
 | _,_,_=>False
def bO (w:World) (b o:Nat):List Value->Prop
 | []=>True
 | v::vs=>cellAt w b o=some v/\bO w b (o+1) vs
theorem dK.vals : ∀ {es:List LT} {b o:Nat} {row:List T},dK w A S es b o row->∃ vs,aW w S es vs row/\bO w b o vs
 | [],b,o,row,h=>by unfold dK at h; subst h; exact ⟨[],trivial,trivial⟩
 | e::es,b,o,row,h=>by
  unfold dK at h
  obtain ⟨d,rest,v,rfl,-,h3,h4,h5⟩:=h
  obtain ⟨vs,h6,h7⟩:=dK.vals h5
  exact ⟨v::vs,⟨h4,h6⟩,h3,h7⟩
theorem aW.len : ∀ {es:List LT} {vs:List Value} {ds:List T},aW w S es vs ds->vs.length=es.length/\ds.length=es.length
 | [],[],[],_=>⟨rfl,rfl⟩
 | _::es,_::vs,_::ds,h=>by have:=aW.len h.2; simp; omega
 | [],_::_,_,h=>h.elim
 | [],[],_::_,h=>h.elim
 | _::_,[],_,h=>h.elim
 | _::_,_::_,[],h=>h.elim
theorem aW.drop : ∀ {es:List LT} {vs:List Value} {ds:List T} (k:Nat),aW w S es vs ds->aW w S (es.drop k) (vs.drop k) (ds.drop k)
 | es,vs,ds,0,h=>h
 | [],[],[],k+1,h=>trivial
 | _::es,_::vs,_::ds,k+1,h=>aW.drop k h.2
 | [],_::_,_,_+1,h=>h.elim
 | [],[],_::_,_+1,h=>h.elim
 | _::_,[],_,_+1,h=>h.elim
 | _::_,_::_,[],_+1,h=>h.elim
theorem bO.drop : ∀ {vs:List Value} {b o:Nat} (k:Nat),bO w b o vs->bO w b (o+k) (vs.drop k)
 | vs,b,o,0,h=>h
 | [],b,o,k+1,h=>trivial
 | v::vs,b,o,k+1,h=>by
  have:=bO.drop k h.2
  rwa [show o+1+k=o+(k+1) from by omega] at this
theorem bO.take : ∀ {vs:List Value} {b o:Nat} (k:Nat),bO w b o vs->bO w b o (vs.take k)
 | vs,b,o,0,h=>trivial
 | [],b,o,k+1,h=>trivial
 | v::vs,b,o,k+1,h=>⟨h.1,bO.take k h.2⟩
theorem mH {b o:Nat} {c:Array Value} {el:TypeId} {fz:Nat×Nat} (h:Block w b c el fz):cellAt w b o=c[o]?:=by
 unfold Block at h
 simp [cellAt,World.cell?,h]
theorem Keeps.block {b:Nat} {c:Array Value} {el:TypeId} {fz:Nat×Nat} (h:Keeps A w w') (hb:Block w b c el fz) :
  ∃ c',Block w' b c' el fz/\c'.size=c.size /\ ∀ o,A b o->c'[o]? = c[o]?:=by
 obtain ⟨y,hy,hk⟩:=h.obj b _ hb
 obtain ⟨c',rfl,h1,h2⟩:=hk
 exact ⟨c',hy,h1,h2⟩
theorem dK.acn : ∀ {es:List LT} {b o:Nat} {vs:List Value} {row:List T},aW w I es vs row->bO w b o vs->dK w (fun _ _=>True) I es b o row
 | [],b,o,[],[],_,_=>by unfold dK; rfl
 | e::es,b,o,v::vs,d::ds,h,hc=>by
  unfold dK
  exact ⟨d,ds,v,rfl,trivial,hc.1,h.1,dK.acn h.2 hc.2⟩
 | [],_,_,_::_,_,h,_=>h.elim
 | [],_,_,[],_::_,h,_=>h.elim
 | _::_,_,_,[],_,h,_=>h.elim
 | _::_,_,_,_::_,[],h,_=>h.elim
theorem bO.of_block {b:Nat} {c:Array Value} {el:TypeId} {fz:Nat×Nat} (hb:Block w b c el fz) : ∀ (vs:List Value) (k:Nat),(∀ j (hj:j<vs.length),c[k+j]? = some vs[j])->bO w b k vs
 | [],_,_=>trivial
 | v::vs,k,h=>by
  refine ⟨?_,bO.of_block hb vs (k+1) fun j hj=>?_⟩
  ·rw [mH hb]; exact (h 0 (by simp))
  ·have:=h (j+1) (by simpa using hj)
   rwa [show k+(j+1)=k+1+j from by omega] at this
theorem bO.get : ∀ {vs:List Value} {b o:Nat},bO w b o vs->∀ j (hj:j<vs.length),cellAt w b (o+j)=some vs[j]
 | [],b,o,_,j,hj=>by simp at hj
 | v::vs,b,o,h,0,hj=>h.1
 | v::vs,b,o,h,j+1,hj=>by
  have:=bO.get h.2 j (by simpa using hj)
  rwa [show o+1+j=o+(j+1) from by omega] at this
theorem aW.take : ∀ {es:List LT} {vs:List Value} {ds:List T} (k:Nat),aW w S es vs ds->aW w S (es.take k) (vs.take k) (ds.take k)
 | es,vs,ds,0,h=>by simp [aW]
 | [],[],[],k+1,h=>trivial
 | _::es,_::vs,_::ds,k+1,h=>⟨h.1,aW.take k h.2⟩
 | [],_::_,_,_+1,h=>h.elim
 | [],[],_::_,_+1,h=>h.elim
 | _::_,[],_,_+1,h=>h.elim
 | _::_,_::_,[],_+1,h=>h.elim
theorem aW.app : ∀ {es es':List LT} {vs vs':List Value} {ds ds':List T},aW w S es vs ds->aW w S es' vs' ds'->aW w S (es++es') (vs++vs') (ds++ds')
 | [],es',[],vs',[],ds',_,h=>h
 | _::_,_,_::_,_,_::_,_,h,h'=>⟨h.1,aW.app h.2 h'⟩
 | [],_,_::_,_,_,_,h,_=>h.elim
 | [],_,[],_,_::_,_,h,_=>h.elim
 | _::_,_,[],_,_,_,h,_=>h.elim
 | _::_,_,_::_,_,[],_,h,_=>h.elim
theorem aW.mono {I I':aB} (h : ∀ b o,I b o->I' b o/\cellAt w' b o=cellAt w b o) : ∀ {es:List LT} {vs:List Value} {ds:List T},aW w I es vs ds->aW w' I' es vs ds
 | [],[],[],_=>trivial
 | e::es,v::vs,d::ds,hh=>⟨aJ.mono (fun b o hb=>(h b o hb).1) (fun b o hb=>(h b o hb).2) e hh.1,aW.mono h hh.2⟩
 | [],_::_,_,h=>h.elim
 | [],[],_::_,h=>h.elim
 | _::_,[],_,h=>h.elim
 | _::_,_::_,[],h=>h.elim
theorem dK.CB {S A:aB} : ∀ {es:List LT} {vs:List Value} {ds:List T} {b o:Nat},aW w S es vs ds->bO w b o vs->(∀ j,j<vs.length->A b (o+j))->dK w A S es b o ds
 | [],[],[],b,o,_,_,_=>by unfold dK; rfl
 | e::es,v::vs,d::ds,b,o,h,hc,ha=>by
  unfold dK
  exact ⟨d,ds,v,rfl,by simpa using ha 0 (by simp),hc.1,h.1,dK.CB h.2 hc.2 fun j hj=>by
   have:=ha (j+1) (by simpa using hj)
   rwa [show o+(j+1)=o+1+j from by omega] at this⟩
 | [],_::_,_,_,_,h,_,_=>h.elim
 | [],[],_::_,_,_,h,_,_=>h.elim
 | _::_,[],_,_,_,h,_,_=>h.elim
 | _::_,_::_,[],_,_,h,_,_=>h.elim
end
section
variable {p q:List Value->List T->List Nat->Prop} {sz:Nat}
theorem aN.imp : ∀ {rows:List (List T)} {cs:List Value} {bs:List Nat},(∀ vs ds b',(∀ x∈b',x∈bs)->p vs ds b'->q vs ds b')->aN p sz rows cs bs->aN q sz rows cs bs
 | [],cs,bs,_,h=>h
 | r::rs,cs,bs,hp,h=>by
  obtain ⟨b1,b2,rfl,h1,h2⟩:=h
  exact ⟨b1,b2,rfl,hp _ _ _ (fun x hx=>by simp [hx]) h1,aN.imp (fun vs ds b' hb=>hp vs ds b' fun x hx=>by simp [hb x hx]) h2⟩
theorem aN.get : ∀ {rows:List (List T)} {cs:List Value} {bs:List Nat},aN p sz rows cs bs->∀ i (h:i<rows.length),∃ b',(∀ x∈b',x∈bs)/\p ((cs.drop (i * sz)).take sz) rows[i] b'
 | r::rs,cs,bs,h,0,_=>by
  obtain ⟨b1,b2,rfl,h1,h2⟩:=h
  exact ⟨b1,fun x hx=>by simp [hx],by simpa using h1⟩
 | r::rs,cs,bs,h,i+1,hi=>by
  obtain ⟨b1,b2,rfl,h1,h2⟩:=h
  obtain ⟨b',h3,h4⟩:=aN.get h2 i (by simpa using hi)
  refine ⟨b',fun x hx=>by simp [h3 x hx],?_⟩
  rw [List.drop_drop] at h4
  simpa [Nat.add_mul,Nat.add_comm] using h4
theorem aN.cells : ∀ {rows:List (List T)} {cs cs':List Value} {bs:List Nat},aN p sz rows cs bs->cs'.take (rows.length * sz)=cs.take (rows.length * sz)->aN p sz rows cs' bs
 | [],cs,cs',bs,h,_=>h
 | r::rs,cs,cs',bs,h,he=>by
  obtain ⟨b1,b2,rfl,h1,h2⟩:=h
  have e1:(r::rs).length * sz=sz+rs.length * sz:=by simp only [List.length_cons,Nat.add_mul]; omega
  rw [e1] at he
  refine ⟨b1,b2,rfl,?_,aN.cells h2 ?_⟩
  ·have:=congrArg (List.take sz) he
   rw [List.take_take,List.take_take,Nat.min_eq_left (by omega)] at this
   rw [this]; exact h1
  ·have:=congrArg (List.drop sz) he
   rw [List.drop_take,List.drop_take] at this
   simpa using this
theorem aN.app : ∀ {rows rows':List (List T)} {cs cs':List Value} {b1 b2:List Nat},aN p sz rows cs b1->cs.length=rows.length * sz->aN p sz rows' cs' b2->aN p sz (rows++rows') (cs++cs') (b1++b2)
 | [],rows',cs,cs',b1,b2,h,hn,h'=>by
  have:cs=[]:=List.length_eq_zero_iff.1 (by simpa using hn)
  subst this
  have h:b1=[]:=h
  subst h; exact h'
 | r::rs,rows',cs,cs',b1,b2,h,hn,h'=>by
  obtain ⟨b3,b4,rfl,h1,h2⟩:=h
  simp only [List.length_cons,Nat.add_mul,Nat.one_mul] at hn
  refine ⟨b3,b4++b2,by simp,?_,?_⟩
  ·rw [List.take_append_of_le_length (by omega)]; exact h1
  ·rw [List.drop_append_of_le_length (by omega)]
   exact aN.app h2 (by rw [List.length_drop]; omega) h'
theorem aN.split : ∀ (k:Nat) {rows:List (List T)} {cs:List Value} {bs:List Nat},aN p sz rows cs bs->∃ b1 b2,bs=b1++b2/\aN p sz (rows.take k) cs b1/\aN p sz (rows.drop k) (cs.drop (k * sz)) b2
 | 0,rows,cs,bs,h=>⟨[],bs,rfl,rfl,by simpa using h⟩
 | k+1,[],cs,bs,h=>by
  have h:bs=[]:=h
  subst h
  exact ⟨[],[],rfl,rfl,rfl⟩
 | k+1,r::rs,cs,bs,h=>by
  obtain ⟨b1,b2,rfl,h1,h2⟩:=h
  obtain ⟨b3,b4,rfl,h3,h4⟩:=aN.split k h2
  refine ⟨b1++b3,b4,by simp,⟨b1,b3,rfl,h1,h3⟩,?_⟩
  rw [List.drop_drop] at h4
  simpa [Nat.add_mul,Nat.add_comm] using h4
theorem aN.join : ∀ (k:Nat) {rows:List (List T)} {cs:List Value} {b1 b2:List Nat},k<=rows.length->aN p sz (rows.take k) cs b1->aN p sz (rows.drop k) (cs.drop (k * sz)) b2->aN p sz rows cs (b1++b2)
 | 0,rows,cs,b1,b2,_,h,h'=>by
  have h:b1=[]:=h
  subst h; simpa using h'
 | k+1,[],cs,b1,b2,hk,_,_=>by simp at hk
 | k+1,r::rs,cs,b1,b2,hk,h,h'=>by
  obtain ⟨b3,b4,rfl,h1,h2⟩:=h
  refine ⟨b3,b4++b2,by simp,h1,aN.join k (by simpa using hk) h2 ?_⟩
  rw [List.drop_drop]
  simpa [Nat.add_mul,Nat.add_comm] using h'
theorem aN.set {vs:List Value} {ds:List T} {bn:List Nat} (hp:p vs ds bn) (hv:vs.length=sz) : ∀ {rows:List (List T)} {cs:List Value} {bs:List Nat} (i:Nat),aN p sz rows cs bs->rows.length * sz<=cs.length->i<rows.length ->
  ∃ b1 bo b2,bs=b1++bo++b2/\aN p sz (rows.set i ds) (cs.take (i * sz)++vs++cs.drop (i * sz+sz)) (b1++bn++b2)
 | r::rs,cs,bs,0,h,hn,_=>by
  obtain ⟨bo,b2,rfl,h1,h2⟩:=h
  refine ⟨[],bo,b2,by simp,bn,b2,by simp,?_,?_⟩
  ·simp only [Nat.zero_mul,List.take_zero,List.nil_append,Nat.zero_add]
   rw [List.take_append_of_le_length (by omega),<-hv,List.take_length]; exact hp
  ·simp only [Nat.zero_mul,List.take_zero,List.nil_append,Nat.zero_add]
   rw [List.drop_append_of_le_length (by omega),<-hv,List.drop_length,List.nil_append,hv]; exact h2
 | r::rs,cs,bs,i+1,h,hn,hi=>by
  obtain ⟨b3,b4,rfl,h1,h2⟩:=h
  simp only [List.length_cons,Nat.add_mul,Nat.one_mul] at hn
  obtain ⟨b1,bo,b2,rfl,h3⟩:=aN.set hp hv i h2 (by rw [List.length_drop]; omega) (by simpa using hi)
  have e1:(i+1) * sz=sz+i * sz:=by rw [Nat.add_mul]; omega
  have hm:i * sz+sz<=rs.length * sz:=by
   have:=Nat.mul_le_mul_right sz (show i+1<=rs.length by simp at hi; omega)
   rwa [Nat.add_mul,Nat.one_mul] at this
  refine ⟨b3++b1,bo,b2,by simp,b3,b1++bn++b2,by simp,?_,?_⟩
  ·rw [List.append_assoc,List.take_append_of_le_length (by rw [List.length_take]; omega),List.take_take,Nat.min_eq_left (by omega)]
   exact h1
  ·rw [List.append_assoc,List.drop_append_of_le_length (by rw [List.length_take]; omega),<-List.append_assoc,List.drop_take]
   rw [show (i+1) * sz-sz=i * sz from by omega]
   rw [List.drop_drop] at h3
   rw [show (i+1) * sz+sz=sz+(i * sz+sz) from by omega]
   exact h3
theorem aN.all {r:List Value->List T->Prop} (hp : ∀ vs ds b',p vs ds b'->r vs ds) : ∀ {rows:List (List T)} {cs:List Value} {bs:List Nat},aN p sz rows cs bs->∀ i (h:i<rows.length),r ((cs.drop (i * sz)).take sz) rows[i] :=
 fun h i hi=>by obtain ⟨b',-,h1⟩:=h.get i hi; exact hp _ _ _ h1
end
section
variable {w w':World} {I I' S A:aB}
theorem iU {b:Nat} {c:Array Value} {el:TypeId} {fz:Nat×Nat} (h:Block w b c el fz):rZ w b=c.size:=by
 unfold Block at h
 simp [rZ,h]
theorem Wd {bs:List Nat} {b o:Nat} (h:FB w bs b o) : ∃ v,cellAt w b o=some v:=by
 obtain ⟨-,h⟩:=h
 unfold rZ at h
 split at h
 ·rename_i c el fz hb
  exact ⟨c[o],by simp [cellAt,World.cell?,hb,h]⟩
 ·omega
theorem wX (hk:Keeps A w w') {b:Nat} (hb : ∃ c el fz,Block w b c el fz):rZ w' b=rZ w b:=by
 obtain ⟨c,el,fz,hb⟩:=hb
 obtain ⟨c',h1,h2,-⟩:=hk.block hb
 rw [iU h1,iU hb,h2]
theorem tZ {bs bs':List Nat} (h : ∀ b∈bs,b∈bs') : ∀ b o,FB w bs b o->FB w bs' b o:=fun b o hb=>⟨h b hb.1,hb.2⟩
theorem ni {bs bs':List Nat} {b o:Nat} : FB w (bs++bs') b o ↔ FB w bs b o\/FB w bs' b o:=by
 unfold FB; rw [List.mem_append]; constructor
 ·rintro ⟨h | h,h'⟩
  ·exact .inl ⟨h,h'⟩
  ·exact .inr ⟨h,h'⟩
 ·rintro (⟨h,h'⟩ | ⟨h,h'⟩)
  ·exact ⟨.inl h,h'⟩
  ·exact ⟨.inr h,h'⟩
theorem aco {c:Nat} {bs:List Nat} {b o:Nat} : FB w (c::bs) b o ↔ (b=c/\o<rZ w c)\/FB w bs b o:=by
 unfold FB; rw [List.mem_cons]; constructor
 ·rintro ⟨rfl | h,h'⟩
  ·exact .inl ⟨rfl,h'⟩
  ·exact .inr ⟨h,h'⟩
 ·rintro (⟨rfl,h'⟩ | ⟨h,h'⟩)
  ·exact ⟨.inl rfl,h'⟩
  ·exact ⟨.inr h,h'⟩
theorem Fv (hk:Keeps A w w') {bs:List Nat} (hb : ∀ b∈bs,∃ c el fz,Block w b c el fz) (b o:Nat):FB w' bs b o ↔ FB w bs b o:=by
 unfold FB
 constructor
 ·rintro ⟨h1,h2⟩; exact ⟨h1,by rwa [wX hk (hb b h1)] at h2⟩
 ·rintro ⟨h1,h2⟩; exact ⟨h1,by rwa [wX hk (hb b h1)]⟩
theorem kY : ∀ {b1 b2:List Nat},fP w (b1++b2) ↔ fP w b1/\fP w b2 /\ ∀ b∈b1,b∈b2->rZ w b=0
 | [],b2=>by simp [fP]
 | b::b1,b2=>by
  simp only [List.cons_append,fP,kY (b1:=b1),List.mem_append,List.mem_cons]
  constructor
  ·rintro ⟨h1,h2,h3,h4⟩
   exact ⟨⟨fun h=>h1 (.inl h),h2⟩,h3,fun x hx hx2=>hx.elim (fun e=>by subst e; exact h1 (.inr hx2)) fun hx=>h4 x hx hx2⟩
  ·rintro ⟨⟨h1,h2⟩,h3,h4⟩
   exact ⟨fun h=>h.elim h1 (h4 b (.inl rfl)),h2,h3,fun x hx=>h4 x (.inr hx)⟩
theorem wY {b1 b2:List Nat} : aB.apart (FB w b1) (FB w b2) ↔ ∀ b∈b1,b∈b2->rZ w b=0:=by
 constructor
 ·intro h b h1 h2
  rcases Nat.eq_zero_or_pos (rZ w b) with h3 | h3
  ·exact h3
  ·exact (h b 0 ⟨h1,h3⟩ ⟨h2,h3⟩).elim
 ·intro h b o h1 h2
  have:=h b h1.1 h2.1
  have:=h1.2
  omega
def JC (l' l:List Nat):Prop:=∀ b,l'.count b<=l.count b
theorem JC.refl (l:List Nat):JC l l:=fun _=>Nat.le_refl _
theorem JC.trans {l l' l'':List Nat} (h:JC l l') (h':JC l' l''):JC l l'':=fun b=>Nat.le_trans (h b) (h' b)
theorem JC.mem {l l':List Nat} (h:JC l' l) {b:Nat} (hb:b∈l'):b∈l:=List.count_pos_iff.1 (Nat.lt_of_lt_of_le (List.count_pos_iff.2 hb) (h b))
theorem Ih : ∀ {bs:List Nat},fP w bs ↔ ∀ b,rZ w b≠0->bs.count b<=1
 | []=>by simp [fP]
 | c::bs=>by
  simp only [fP,Ih (bs:=bs),List.count_cons]
  constructor
  ·rintro ⟨h1,h2⟩ b hb
   have:=h2 b hb
   by_cases hc:c=b
   ·subst hc
    have:bs.count c=0:=List.count_eq_zero.2 fun hm=>hb (h1 hm)
    simp [this]
   ·simp [hc]; exact this
  ·intro h
   refine ⟨fun hm=>?_,fun b hb=>Nat.le_trans (Nat.le_add_right _ _) (h b hb)⟩
   rcases Nat.eq_zero_or_pos (rZ w c) with h1 | h1
   ·exact h1
   ·have h2:=h c (by omega)
    have h3:=List.count_pos_iff.2 hm
    rw [if_pos (by simp)] at h2
    omega
theorem Dx {l l':List Nat} (h:JC l' l) (hn:fP w l):fP w l':=by
 rw [Ih] at hn ⊢
 exact fun b hb=>Nat.le_trans (h b) (hn b hb)
theorem qY (hk:Keeps A w w') : ∀ {bs:List Nat},(∀ b∈bs,∃ c el fz,Block w b c el fz)->fP w bs->fP w' bs
 | [],_,_=>trivial
 | b::bs,hb,h=>⟨fun hm=>by rw [wX hk (hb b (by simp))]; exact h.1 hm,qY hk (fun x hx=>hb x (by simp [hx])) h.2⟩
theorem au.len : ∀ (es:List LT) {ms:List M} {vs:List Value} {ds:List T} {bs:List Nat},au w I es ms vs ds bs->vs.length=es.length/\ds.length=es.length
 | [],_,_,_,_,h=>by unfold au at h; obtain ⟨rfl,rfl,rfl⟩:=h; exact ⟨rfl,rfl⟩
 | e::es,ms,_,_,_,h=>by
  unfold au at h
  obtain ⟨v,vs',d,ds',b1,b2,rfl,rfl,rfl,h1,h2⟩:=h
  have:=au.len es h2
  simp; omega
theorem au.split : ∀ (k:Nat) {es:List LT} {ms:List M} {vs:List Value} {ds:List T} {bs:List Nat},au w I es ms vs ds bs ->
  ∃ b1 b2,bs=b1++b2/\au w I (es.take k) ms (vs.take k) (ds.take k) b1/\au w I (es.drop k) (ms.drop k) (vs.drop k) (ds.drop k) b2
 | 0,es,ms,vs,ds,bs,h=>⟨[],bs,rfl,by simp only [List.take_zero]; unfold au; exact ⟨rfl,rfl,rfl⟩,h⟩
 | k+1,[],ms,vs,ds,bs,h=>by
  unfold au at h
  obtain ⟨rfl,rfl,rfl⟩:=h
  refine ⟨[],[],rfl,?_,?_⟩ <;> simp only [List.take_nil,List.drop_nil] <;> unfold au <;> exact ⟨rfl,rfl,rfl⟩
 | k+1,e::es,ms,_,_,_,h=>by
  unfold au at h
  obtain ⟨v,vs',d,ds',b1,b2,rfl,rfl,rfl,h1,h2⟩:=h
  obtain ⟨b3,b4,rfl,h3,h4⟩:=au.split k h2
  refine ⟨b1++b3,b4,by simp,?_,by simpa using h4⟩
  simp only [List.take_succ_cons]
  unfold au
  exact ⟨v,_,d,_,b1,b3,rfl,rfl,rfl,h1,h3⟩
theorem au.join : ∀ {es es':List LT} {ms:List M} {vs vs':List Value} {ds ds':List T} {b1 b2:List Nat},au w I es ms vs ds b1->au w I es' (ms.drop es.length) vs' ds' b2 ->
  au w I (es++es') ms (vs++vs') (ds++ds') (b1++b2)
 | [],es',ms,vs,vs',ds,ds',b1,b2,h,h'=>by
  unfold au at h
  obtain ⟨rfl,rfl,rfl⟩:=h
  exact h'
 | e::es,es',ms,_,vs',_,ds',_,b2,h,h'=>by
  unfold au at h
  obtain ⟨v,vs1,d,ds1,b3,b4,rfl,rfl,rfl,h1,h2⟩:=h
  simp only [List.cons_append]
  unfold au
  exact ⟨v,_,d,_,b3,b4++b2,rfl,rfl,by simp,h1,au.join h2 (by rw [show ms.tail.drop es.length=ms.drop (e::es).length from by cases ms <;> simp]; exact h')⟩
mutual
theorem bU.leaf (hs : ∀ b o,I b o->S b o) : ∀ (lt:LT) {m:M} {v:Value} {d:T} {bs:List Nat},(∀ b o,FB w bs b o->S b o)->bU w I lt m v d bs->aJ w S lt v d
 | .sc s,m,v,d,bs,hG,h=>by unfold bU at h; unfold aJ; exact h.1
 | .sl es,.F,v,d,bs,hG,h=>by unfold bU at h; exact aJ.mono hs (fun _ _ _=>rfl) _ h.1
 | .sl es,.O ms,v,d,bs,hG,h=>by
  unfold bU at h
  obtain ⟨rows,h1,h2,h3,h4⟩:=h
  unfold aJ
  rcases h4 with ⟨⟨aa,rfl⟩,rfl,-⟩ | ⟨b,cap,c,el,fz,bs',rfl,rfl,h5,h6,h7,h8,h9⟩
  ·exact ⟨aa,0,[],h1,rfl,Nat.le_refl _,Nat.zero_le _,.inl rfl⟩
  ·refine ⟨some ⟨b,0,none⟩,cap,rows,h1,rfl,h5,h3,.inr ⟨b,0,rfl,fun i hi=>?_⟩⟩
   rw [Nat.zero_add]
   obtain ⟨b',h10,h11⟩:=h9.get i hi
   have h12:=au.leaves hs es (fun b o hb=>hG b o (tZ (fun x hx=>by simp [h10 x hx]) b o hb)) h11
   have hl:=h12.len.1
   have hm:(i+1) * es.length<=cap * es.length:=Nat.mul_le_mul_right _ (by omega)
   rw [Nat.add_mul,Nat.one_mul,<-h7] at hm
   refine dK.CB h12 (bO.of_block h6 _ _ fun j hj=>?_) fun j hj=>hG _ _ ⟨by simp,?_⟩
   ·simp only [List.getElem_take,List.getElem_drop,Array.getElem_toList]
    rw [Array.getElem?_eq_getElem (by omega)]
   ·rw [iU h6]; omega
theorem au.leaves (hs : ∀ b o,I b o->S b o) : ∀ (es:List LT) {ms:List M} {vs:List Value} {ds:List T} {bs:List Nat},(∀ b o,FB w bs b o->S b o)->au w I es ms vs ds bs->aW w S es vs ds
 | [],ms,vs,ds,bs,hG,h=>by unfold au at h; obtain ⟨rfl,rfl,rfl⟩:=h; trivial
 | e::es,ms,vs,ds,bs,hG,h=>by
  unfold au at h
  obtain ⟨v,vs',d,ds',b1,b2,rfl,rfl,rfl,h1,h2⟩:=h
  exact ⟨bU.leaf hs e (fun b o hb=>hG b o (ni.2 (.inl hb))) h1,au.leaves hs es (fun b o hb=>hG b o (ni.2 (.inr hb))) h2⟩
end
mutual
theorem bU.blocks : ∀ (lt:LT) {m:M} {v:Value} {d:T} {bs:List Nat},bU w I lt m v d bs->∀ b∈bs,∃ c el fz,Block w b c el fz
 | .sc s,m,v,d,bs,h=>by unfold bU at h; rw [h.2]; simp
 | .sl es,.F,v,d,bs,h=>by unfold bU at h; rw [h.2]; simp
 | .sl es,.O ms,v,d,bs,h=>by
  unfold bU at h
  obtain ⟨rows,h1,h2,h3,h4⟩:=h
  rcases h4 with ⟨-,rfl,rfl⟩ | ⟨b,cap,c,el,fz,bs',rfl,rfl,h5,h6,h7,h8,h9⟩
  ·simp
  ·intro x hx
   rcases List.mem_cons.1 hx with rfl | hx
   ·exact ⟨c,el,fz,h6⟩
   ·exact oQ (fun vs ds bs h=>au.blocks es h) rows h9 x hx
theorem au.blocks : ∀ (es:List LT) {ms:List M} {vs:List Value} {ds:List T} {bs:List Nat},au w I es ms vs ds bs->∀ b∈bs,∃ c el fz,Block w b c el fz
 | [],ms,vs,ds,bs,h=>by unfold au at h; rw [h.2.2]; simp
 | e::es,ms,vs,ds,bs,h=>by
  unfold au at h
  obtain ⟨v,vs',d,ds',b1,b2,rfl,rfl,rfl,h1,h2⟩:=h
  intro x hx
  rcases List.mem_append.1 hx with hx | hx
  ·exact bU.blocks e h1 x hx
  ·exact au.blocks es h2 x hx
theorem oQ {p:List Value->List T->List Nat->Prop} {sz:Nat} (hp : ∀ vs ds bs,p vs ds bs->∀ b∈bs,∃ c el fz,Block w b c el fz) : ∀ (rows:List (List T)) {cs:List Value} {bs:List Nat},aN p sz rows cs bs->∀ b∈bs,∃ c el fz,Block w b c el fz
 | [],cs,bs,h=>by have h:bs=[]:=h; subst h; simp
 | r::rs,cs,bs,h=>by
  obtain ⟨b1,b2,rfl,h1,h2⟩:=h
  intro x hx
  rcases List.mem_append.1 hx with hx | hx
  ·exact hp _ _ _ h1 x hx
  ·exact oQ hp rs h2 x hx
end
mutual
theorem bU.keep (hk:Keeps A w w') (hI : ∀ b o,I b o->I' b o/\cellAt w' b o=cellAt w b o) : ∀ (lt:LT) {m:M} {v:Value} {d:T} {bs:List Nat},(∀ b o,FB w bs b o->A b o)->bU w I lt m v d bs->bU w' I' lt m v d bs
 | .sc s,m,v,d,bs,hA,h=>by unfold bU at *; exact h
 | .sl es,.F,v,d,bs,hA,h=>by unfold bU at h ⊢; exact ⟨aJ.mono (fun b o h=>(hI b o h).1) (fun b o h=>(hI b o h).2) _ h.1,h.2⟩
 | .sl es,.O ms,v,d,bs,hA,h=>by
  unfold bU at h ⊢
  obtain ⟨rows,h1,h2,h3,h4⟩:=h
  refine ⟨rows,h1,h2,h3,?_⟩
  rcases h4 with h4 | ⟨b,cap,c,el,fz,bs',rfl,rfl,h5,h6,h7,h8,h9⟩
  ·exact .inl h4
  ·right
   obtain ⟨c',hb,hsz,hcc⟩:=hk.block h6
   have e:c'=c:=by
    apply Array.ext hsz
    intro i hi1 hi2
    have:=hcc i (hA _ _ ⟨by simp,by rw [iU h6]; exact hi2⟩)
    rw [Array.getElem?_eq_getElem hi1,Array.getElem?_eq_getElem hi2] at this
    exact Option.some.inj this
   subst e
   refine ⟨b,cap,c',el,fz,bs',rfl,rfl,h5,hb,h7,h8,aN.imp (fun vs ds b' hb' h=>?_) h9⟩
   exact au.keep hk hI es (fun b o hb=>hA b o (tZ (fun x hx=>by simp [hb' x hx]) b o hb)) h
theorem au.keep (hk:Keeps A w w') (hI : ∀ b o,I b o->I' b o/\cellAt w' b o=cellAt w b o) : ∀ (es:List LT) {ms:List M} {vs:List Value} {ds:List T} {bs:List Nat},(∀ b o,FB w bs b o->A b o)->au w I es ms vs ds bs->au w' I' es ms vs ds bs
 | [],ms,vs,ds,bs,hA,h=>by unfold au at *; exact h
 | e::es,ms,vs,ds,bs,hA,h=>by
  unfold au at h ⊢
  obtain ⟨v,vs',d,ds',b1,b2,rfl,rfl,rfl,h1,h2⟩:=h
  exact ⟨v,vs',d,ds',b1,b2,rfl,rfl,rfl,bU.keep hk hI e (fun b o hb=>hA b o (ni.2 (.inl hb))) h1,au.keep hk hI es (fun b o hb=>hA b o (ni.2 (.inr hb))) h2⟩
end
theorem bU.same {lt:LT} {m:M} {v:Value} {d:T} {bs:List Nat} (hI : ∀ b o,I b o->I' b o) (h:bU w I lt m v d bs):bU w I' lt m v d bs :=
 bU.keep (Keeps.refl (fun _ _=>True) w) (fun b o hb=>⟨hI b o hb,rfl⟩) lt (fun _ _ _=>trivial) h
theorem au.same {es:List LT} {ms:List M} {vs:List Value} {ds:List T} {bs:List Nat} (hI : ∀ b o,I b o->I' b o) (h:au w I es ms vs ds bs):au w I' es ms vs ds bs :=
 au.keep (Keeps.refl (fun _ _=>True) w) (fun b o hb=>⟨hI b o hb,rfl⟩) es (fun _ _ _=>trivial) h
theorem bU.single {lt:LT} {m:M} {v:Value} {d:T} {bs:List Nat} (h:bU w I lt m v d bs):Single v :=
 (bU.leaf (S:=fun _ _=>True) (fun _ _ _=>trivial) lt (fun _ _ _=>trivial) h).single
theorem yY {ms:List M} (j:Nat):ms.tail.getD j .F=ms.getD (j+1) .F:=by cases ms <;> simp [List.getD]
theorem au.each : ∀ {es:List LT} {ms:List M} {vs:List Value} {ds:List T} {bs:List Nat},au w I es ms vs ds bs->∃ Bs:List (List Nat),Bs.length=es.length/\bs=Bs.flatten /\
  ∀ j (h:j<es.length),bU w I es[j] (ms.getD j .F) (vs.getD j .nilIface) (ds.getD j dflt) (Bs.getD j [])
 | [],ms,_,_,_,h=>by
  unfold au at h
  obtain ⟨rfl,rfl,rfl⟩:=h
  exact ⟨[],rfl,rfl,fun j h=>by simp at h⟩
 | e::es,ms,_,_,_,h=>by
  unfold au at h
  obtain ⟨v,vs',d,ds',b1,b2,rfl,rfl,rfl,h1,h2⟩:=h
  obtain ⟨Bs,h3,rfl,h4⟩:=au.each h2
  refine ⟨b1::Bs,by simp [h3],by simp,fun j hj=>?_⟩
  cases j with
  | zero=>cases ms <;> simpa using h1
  | succ j =>
   have:=h4 j (by simpa using hj)
   rw [yY] at this
   simpa using this
theorem XV {ms:List M} (h:noO ms):ms.headD .F = .F:=by
 cases ms with
 | nil=>rfl
 | cons m ms=>cases m with
  | F=>rfl
  | O x=>exact absurd rfl (h (.O x) (by simp) x)
theorem XW {ms:List M} (h:noO ms):noO ms.tail:=fun m hm=>h m (List.mem_of_mem_tail hm)
theorem au.flat : ∀ (es:List LT) {ms:List M} {vs:List Value} {ds:List T} {bs:List Nat},noO ms->au w I es ms vs ds bs->bs=[]/\aW w I es vs ds
 | [],ms,vs,ds,bs,hm,h=>by unfold au at h; obtain ⟨rfl,rfl,rfl⟩:=h; exact ⟨rfl,trivial⟩
 | e::es,ms,vs,ds,bs,hm,h=>by
  unfold au at h
  obtain ⟨v,vs',d,ds',b1,b2,rfl,rfl,rfl,h1,h2⟩:=h
  obtain ⟨rfl,h3⟩:=au.flat es (XW hm) h2
  rw [XV hm] at h1
  cases e with
  | sc s=>unfold bU at h1; obtain ⟨h4,rfl⟩:=h1; exact ⟨rfl,by unfold aJ; exact h4,h3⟩
  | sl es'=>unfold bU at h1; obtain ⟨h4,rfl⟩:=h1; exact ⟨rfl,h4,h3⟩
theorem au.of_flat : ∀ {es:List LT} {ms:List M} {vs:List Value} {ds:List T},noO ms->aW w I es vs ds->au w I es ms vs ds []
 | [],ms,[],[],hm,h=>by unfold au; exact ⟨rfl,rfl,rfl⟩
 | e::es,ms,v::vs,d::ds,hm,h=>by
  unfold au
  refine ⟨v,vs,d,ds,[],[],rfl,rfl,rfl,?_,au.of_flat (XW hm) h.2⟩
  rw [XV hm]
  have h1:=h.1
  cases e with
  | sc s=>unfold bU; unfold aJ at h1; exact ⟨h1,rfl⟩
  | sl es'=>unfold bU; exact ⟨h1,rfl⟩
 | [],_,_::_,_,_,h=>h.elim
 | [],_,[],_::_,_,h=>h.elim
 | _::_,_,[],_,_,h=>h.elim
 | _::_,_,_::_,[],_,h=>h.elim
theorem CG {es:List LT} {ms:List M} {sz:Nat} (hm:noO ms) : ∀ {rows:List (List T)} {cs:List Value} {bs:List Nat},aN (fun vs ds bs=>au w I es ms vs ds bs) sz rows cs bs->bs=[]
 | [],cs,bs,h=>h
 | r::rs,cs,bs,h=>by
  obtain ⟨b1,b2,rfl,h1,h2⟩:=h
  rw [(au.flat es hm h1).1,CG hm h2]; rfl
theorem aV.cases {es:List LT} {ms:List M} {rows:List (List T)} {h:Value} {F:aB} (hr:aV w I es ms rows h F):es≠[]/\rows.length<=bG /\
  (((∃ a,h = .slice a 0 0)/\rows=[] /\ ∀ b o,¬ F b o) \/
  ∃ b cap c el fz bs,h = .slice (some ⟨b,0,none⟩) rows.length cap/\rows.length<=cap/\Block w b c el fz/\c.size=cap * es.length/\(∀ o,o<=c.size->¬ (fz.1<=o/\o<fz.2)) /\
   aN (fun vs ds bs=>au w I es ms vs ds bs) es.length rows c.toList bs/\fP w (b::bs) /\ ∀ b' o,F b' o ↔ (b'=b/\o<c.size)\/FB w bs b' o):=by
 obtain ⟨bs,hn,hc,hF⟩:=hr
 unfold bU at hc
 obtain ⟨rows',h1,h2,h3,h4⟩:=hc
 cases h1
 refine ⟨h2,h3,?_⟩
 rcases h4 with ⟨h4,rfl,rfl⟩ | ⟨b,cap,c,el,fz,bs',rfl,rfl,h5,h6,h7,h8,h9⟩
 ·exact .inl ⟨h4,rfl,fun b o hb=>by have:=((hF b o).1 hb).1; cases this⟩
 ·exact .inr ⟨b,cap,c,el,fz,bs',rfl,h5,h6,h7,h8,h9,hn,fun b' o=>by rw [hF b' o,aco,iU h6]⟩
theorem aV.nil {es:List LT} {ms:List M} {F:aB} {aa:Option Addr} (hes:es≠[]) (hF : ∀ b o,¬ F b o):aV w I es ms [] (.slice aa 0 0) F :=
 ⟨[],trivial,by unfold bU; exact ⟨[],rfl,hes,Nat.zero_le _,.inl ⟨⟨_,rfl⟩,rfl,rfl⟩⟩,fun b o=>⟨fun h=>(hF b o h).elim,fun h=>by have:=h.1; cases this⟩⟩
theorem aV.mk' {es:List LT} {ms:List M} {rows:List (List T)} {F:aB} {b cap:Nat} {c:Array Value} {el:TypeId} {fz:Nat×Nat} {bs:List Nat} (hes:es≠[]) (h1:rows.length<=bG) (h2:rows.length<=cap) (h3:Block w b c el fz)
  (h4:c.size=cap * es.length) (h5 : ∀ o,o<=c.size->¬ (fz.1<=o/\o<fz.2)) (h6:aN (fun vs ds bs=>au w I es ms vs ds bs) es.length rows c.toList bs) (h7:fP w (b::bs))
  (h8 : ∀ b' o,F b' o ↔ (b'=b/\o<c.size)\/FB w bs b' o):aV w I es ms rows (.slice (some ⟨b,0,none⟩) rows.length cap) F :=
 ⟨b::bs,h7,by unfold bU; exact ⟨rows,rfl,hes,h1,.inr ⟨b,cap,c,el,fz,bs,rfl,rfl,h2,h3,h4,h5,h6⟩⟩,fun b' o=>by rw [h8,aco,iU h3]⟩
theorem aV.leaf {es:List LT} {ms:List M} {rows:List (List T)} {h:Value} {F:aB} (hr:aV w I es ms rows h F) (hs : ∀ b o,I b o->S b o) (hf : ∀ b o,F b o->S b o) :
  aJ w S (.sl es) h (.l rows):=by
 obtain ⟨bs,hn,hc,hF⟩:=hr
 exact bU.leaf hs _ (fun b o hb=>hf b o ((hF b o).2 hb)) hc
theorem aV.keep {es:List LT} {ms:List M} {rows:List (List T)} {h:Value} {F:aB} (hr:aV w I es ms rows h F) (hk:Keeps A w w') (hA : ∀ b o,F b o->A b o)
  (hI : ∀ b o,I b o->I' b o/\cellAt w' b o=cellAt w b o):aV w' I' es ms rows h F:=by
 obtain ⟨bs,hn,hc,hF⟩:=hr
 exact ⟨bs,qY hk (bU.blocks _ hc) hn,bU.keep hk hI _ (fun b o hb=>hA b o ((hF b o).2 hb)) hc,fun b o=>(hF b o).trans (Fv hk (bU.blocks _ hc) b o).symm⟩
theorem aV.same {es:List LT} {ms:List M} {rows:List (List T)} {h:Value} {F:aB} (hs : ∀ b o,I b o->I' b o) (hr:aV w I es ms rows h F):aV w I' es ms rows h F :=
 hr.keep (Keeps.refl (fun _ _=>True) w) (fun _ _ _=>trivial) fun b o hb=>⟨hs b o hb,rfl⟩
theorem aV.cell {es:List LT} {ms:List M} {rows:List (List T)} {h:Value} {F:aB} (hr:aV w I es ms rows h F) {b o:Nat} (hf:F b o) : ∃ v,cellAt w b o=some v:=by
 obtain ⟨bs,hn,hc,hF⟩:=hr
 exact Wd ((hF b o).1 hf)
theorem aV.row {es:List LT} {ms:List M} {rows:List (List T)} {h:Value} {F:aB} (hr:aV w I es ms rows h F) {r:Nat} (h5:r<rows.length) :
  ∃ b cap vs bs,h = .slice (some ⟨b,0,none⟩) rows.length cap/\bO w b (r * es.length) vs/\au w I es ms vs rows[r] bs/\(∀ b' o,FB w bs b' o->F b' o)/\(∀ j,j<es.length->F b (r * es.length+j)):=by
 obtain ⟨-,-,hown⟩:=hr.cases
 rcases hown with ⟨-,rfl,-⟩ | ⟨b,cap,c,el,fz,bs,rfl,h6,h7,h8,h9,h10,h11,h12⟩
 ·simp at h5
 ·obtain ⟨b',h13,h14⟩:=h10.get r h5
  have hl:=au.len es h14
  have hm:(r+1) * es.length<=cap * es.length:=Nat.mul_le_mul_right _ (by omega)
  rw [Nat.add_mul,Nat.one_mul,<-h8] at hm
  refine ⟨b,cap,_,b',rfl,bO.of_block h7 _ _ fun j hj=>?_,h14,fun b'' o hb=>(h12 b'' o).2 (.inr (tZ h13 b'' o hb)),fun j hj=>(h12 _ _).2 (.inl ⟨rfl,by omega⟩)⟩
  simp only [List.getElem_take,List.getElem_drop,Array.getElem_toList]
  rw [Array.getElem?_eq_getElem (by omega)]
end
section
variable {w:World}
theorem CJ {Bs:List (List Nat)} {j b:Nat} (h:b∈Bs.getD j []):b∈Bs.flatten:=by
 rw [List.getD] at h
 cases hj:Bs[j]? with
 | none=>rw [hj] at h; cases h
 | some l=>rw [hj] at h; exact List.mem_flatten.2 ⟨l,List.mem_of_getElem? hj,h⟩
theorem Pn : ∀ {Bs:List (List Nat)},fP w Bs.flatten->∀ j,fP w (Bs.getD j [])
 | [],_,j=>by simp [fP]
 | l::Bs,h,j=>by
  simp only [List.flatten_cons] at h
  obtain ⟨h1,h2,-⟩:=kY.1 h
  cases j with
  | zero=>simpa using h1
  | succ j=>simpa using Pn h2 j
theorem Po : ∀ {Bs:List (List Nat)},fP w Bs.flatten->∀ i j,i≠j->aB.apart (FB w (Bs.getD i [])) (FB w (Bs.getD j []))
 | [],_,i,j,_=>fun b o h _=>by simp [FB] at h
 | l::Bs,h,i,j,hij=>by
  simp only [List.flatten_cons] at h
  obtain ⟨h1,h2,h3⟩:=kY.1 h
  have key : ∀ j,aB.apart (FB w l) (FB w (Bs.getD j [])):=fun j=>fun b o h4 h5=>wY.2 h3 b o h4 (tZ (fun x hx=>CJ hx) b o h5)
  cases i with
  | zero =>
   cases j with
   | zero=>exact absurd rfl hij
   | succ j=>simpa using key j
  | succ i =>
   cases j with
   | zero=>exact fun b o h4 h5=>key i b o (by simpa using h5) (by simpa using h4)
   | succ j=>simpa using Po h2 i j (by omega)
end
mutual
theorem M.beq_eq : ∀ {a b:M},M.beq a b=true->a=b
 | .F,.F,_=>rfl
 | .O a,.O b,h=>congrArg M.O (M.bP (a:=a) (b:=b) (by simpa [M.beq] using h))
 | .F,.O _,h=>by simp [M.beq] at h
 | .O _,.F,h=>by simp [M.beq] at h
theorem M.bP : ∀ {a b:List M},M.eH a b=true->a=b
 | [],[],_=>rfl
 | a::az,b::bs,h=>by
  simp only [M.eH,Bool.and_eq_true] at h
  rw [M.beq_eq h.1,M.bP h.2]
 | [],_::_,h=>by simp [M.eH] at h
 | _::_,[],h=>by simp [M.eH] at h
end
theorem zx {ms:List M} (h:OU ms=true):noO ms:=by
 intro m hm x e
 have:=List.all_eq_true.1 h m hm
 subst e
 simp at this
end Go.E

namespace Go.E
open Go
section
variable {w:World} {I S A:aB}
end
section
variable {Γ:Ctx} {P:Program} {cf:FuncId->List Arg->R3 fV}
variable {n:Fr} {σ:S} {g:Gh} {I:aB} {a:Act} {w:World}
variable {o:Oper} {f:FuncId} {tr:Tr} {Q:S->Tr->Prop} {K:Act->World->Prop} {Qm:Exit->Act->World->Prop}
theorem nN (κ:Key->KE) : ∀ b o,I b o->dF κ g I [] b o:=fun _ _ h=>.inl h
theorem JD (κ:Key->KE):Cur κ []:=fun _ h=>(nomatch h)
theorem uY (κ:Key->KE):Old κ []:=fun _ h=>(nomatch h)
theorem Pp (hR:R n σ g I a w) {l:Leaf} {v:Value} {k:List LT->List (List T)->List Dp->Prog} (hl:ER σ.k g w I l v) (h:(xK l k).wp cf σ tr Q) :
  ∃ es rows deps dI,(k es rows deps).wp cf σ dI Q/\aJ w (dF σ.k g I deps) (.sl es) v (.l rows)/\Cur σ.k deps/\Old σ.k deps /\ ∀ d∈deps,d.1∈wV l:=by
 obtain ⟨st,lt,d⟩:=l
 obtain ⟨hs,hl⟩:=hl
 unfold xK at h
 simp only at h hl
 cases lt with
 | sc s=>cases st <;> exact h.elim
 | sl es =>
  cases st with
  | sc=>exact h.elim
  | dead=>exact h.elim
  | nl =>
   obtain ⟨-,rfl,rfl⟩:=hl
   refine ⟨es,[],[],tr,h,?_,JD _,uY _,fun _ h=>(nomatch h)⟩
   unfold aJ
   exact ⟨none,0,[],rfl,rfl,Nat.le_refl _,Nat.zero_le _,.inl rfl⟩
  | sn ds =>
   obtain ⟨-,h1,h2⟩:=hl
   obtain ⟨h3,dI,h4⟩:=uF h
   have h5:=h2 h3
   obtain ⟨x,y,rows,rfl,h6⟩:=by unfold aJ at h5; exact h5
   exact ⟨es,_,ds,dI,h4,h2 h3,h3,h1,fun d hd=>List.mem_map.2 ⟨d,hd,rfl⟩⟩
  | sb key m cv r off =>
   obtain ⟨-,-,h1,h2⟩:=hl
   obtain ⟨h3,dI,h4⟩:=uF h
   have h5:=(h2 h3).1
   obtain ⟨x,y,rows,rfl,h6⟩:=by unfold aJ at h5; exact h5
   exact ⟨es,_,[(key,cv)],dI,h4,(h2 h3).1,h3,h1,fun d hd=>by rw [List.mem_singleton.1 hd]; exact List.mem_singleton.2 rfl⟩
  | al key m =>
   obtain ⟨-,h1,h2⟩:=hl
   obtain ⟨h3,h⟩:=h
   have h4:=h2 (Nat.eq_of_beq_eq_true h3)
   subst h4
   have hch:=hR.vI key
   split at h
   ·rename_i es' ms rows e
    rw [e] at hch
    refine ⟨es',rows,_,_,h,aV.leaf hch (fun _ _ h=>.inl h) (fun b o' hf=>.inr ⟨_,List.mem_singleton.2 rfl,.inr ⟨by simp only [e]; trivial,hf⟩⟩),?_,?_,fun d hd=>by rw [List.mem_singleton.1 hd]; exact List.mem_singleton.2 rfl⟩
    ·intro d hd; rw [List.mem_singleton.1 hd]
    ·intro d hd; rw [List.mem_singleton.1 hd]; exact Nat.le_refl _
   ·rename_i es' rows e
    rw [e] at hch
    exact ⟨es',rows,[],_,h,aJ.mono (nN _) (fun _ _ _=>rfl) _ hch,JD _,uY _,fun _ h=>(nomatch h)⟩
   ·exact h.elim
theorem qZ (hR:R n σ g I a w) {l:Leaf} {v:Value} {k:List LT->List (List T)->List Dp->Prog} (hl:ER σ.k g w I l v) (h:(xK l k).wp cf σ tr Q) :
  ∃ es rows deps dI,(k es rows deps).wp cf σ dI Q/\aJ w (dF σ.k g I deps) (.sl es) v (.l rows)/\Cur σ.k deps/\Old σ.k deps:=by
 obtain ⟨es,rows,deps,dI,h1,h2,h3,h4,-⟩:=Pp hR hl h
 exact ⟨es,rows,deps,dI,h1,h2,h3,h4⟩
end
end Go.E

namespace Go.E
open Go
section
variable {P:Program} {w:World} {I S A:aB}
theorem addr_add (b o k:Nat):Addr.add ⟨b,o,none⟩ k=⟨b,o+k,none⟩:=by
 unfold Addr.add
 split
 ·rename_i h; subst h; rfl
 ·rfl
theorem run_load {b o:Nat} {v:Value} (h:cellAt w b o=some v):(load ⟨b,o,none⟩).run P w = .ok v w:=by
 unfold cellAt at h
 simp [load,Sem.run,h]
theorem run_loadCellsFrom {b o:Nat} : ∀ (vs:List Value) (i:Nat) (acc:Array Value),bO w b (o+i) vs ->
  (loadCellsFrom ⟨b,o,none⟩ i vs.length acc).run P w = .ok (acc++vs.toArray) w
 | [],i,acc,h=>by simp [loadCellsFrom]
 | v::vs,i,acc,h=>by
  simp only [List.length_cons,loadCellsFrom,Sem.run_bind,addr_add,run_load h.1,Result.andThen_ok]
  rw [run_loadCellsFrom vs (i+1) (acc.push v) (by have:=h.2; rwa [show o+i+1=o+(i+1) from by omega] at this)]
  simp
theorem run_loadCells {b o:Nat} {vs:List Value} (h:bO w b o vs):(loadCells ⟨b,o,none⟩ vs.length).run P w = .ok vs.toArray w:=by
 unfold loadCells
 rw [run_loadCellsFrom vs 0 #[] (by simpa using h)]
 simp
end
section
variable {Γ:Ctx} {P:Program} {w:World}
theorem Gj {t:TypeId} {ti:TI} (h:vQ Γ P t ti):(isAgg t).run P w = .ok (zh ti.kind) w:=by
 obtain ⟨d,h1,h2⟩:=h.und
 simp only [isAgg,Sem.run_bind,run_underlying h1,Result.andThen_ok]
 cases hk:ti.kind with
 | sc s=>rw [hk] at h2; cases s <;> first | (obtain ⟨rfl,-⟩:=h2; rfl) | exact h2.elim
 | slice e=>rw [hk] at h2; obtain ⟨rfl,-⟩:=h2; rfl
 | struct fs=>rw [hk] at h2; obtain ⟨fields,rfl,-⟩:=h2; rfl
 | array m e=>rw [hk] at h2; cases h2; rfl
 | ptr e=>rw [hk] at h2; obtain ⟨rfl,-⟩:=h2; rfl
 | other =>
  rw [hk] at h2
  cases d <;> first | rfl | exact absurd rfl (h2.1 _) | exact absurd rfl (h2.2.1 _ _)
theorem run_sizeOf {t:TypeId} {ti:TI} (h:vQ Γ P t ti):(sizeOf t).run P w = .ok ti.aR.length w:=by
 obtain ⟨i,h1,h2,-⟩:=h.info
 simp [sizeOf,typeInfo,h1,h2,go_sem]
theorem AJ {t:TypeId} {ti:TI} (h:vQ Γ P t ti) {b o:Nat} {vs:List Value} (hv:bO w b o vs) (hn:vs.length=ti.aR.length) :
  (zh ti.kind=true->(loadVar t ⟨b,o,none⟩).run P w = .ok (.agg vs.toArray) w) /\
  (zh ti.kind=false->∀ v,vs=[v]->(loadVar t ⟨b,o,none⟩).run P w = .ok v w):=by
 constructor
 ·intro ha
  simp only [loadVar,Sem.run_bind,Gj h,ha,Result.andThen_ok,if_true,run_sizeOf h]
  rw [<-hn]
  simp [run_loadCells hv]
 ·rintro ha v rfl
  simp only [loadVar,Sem.run_bind,Gj h,ha,Result.andThen_ok,Bool.false_eq_true,if_false]
  exact run_load hv.1
theorem Ii {t:TypeId} {ti:TI} (h:vQ Γ P t ti) (ha:zh ti.kind=false):ti.aR.length=1:=by
 obtain ⟨d,h1,h2⟩:=h.und
 cases hk:ti.kind with
 | sc s=>rw [hk] at h2; cases s <;> first | (rw [h2.2]; rfl) | exact h2.elim
 | slice e=>rw [hk] at h2; obtain ⟨-,te,-,h3,-⟩:=h2; rw [h3]; rfl
 | struct fs=>rw [hk] at ha; cases ha
 | array m e=>rw [hk] at ha; cases ha
 | ptr e=>rw [hk] at h2; rw [h2.2]; rfl
 | other=>rw [hk] at h2; rw [h2.2.2]; rfl
theorem Mv {ρ:Operand->Value} {o:Oper} {t:TypeId} {x:Operand} {b o':Nat} {v:Value} (hop:o.op = .load t x) (hx:ρ x = .pointer (some ⟨b,o',none⟩))
  (h:(loadVar t ⟨b,o',none⟩).run P w = .ok v w):(execOp ρ o).run P w = .ok (.value v) w:=by
 have h1:(Instr.loadAt t (ρ x)).run P w = .ok v w:=by
  simp only [Instr.loadAt,hx,Instr.sureAddr,pure_bind]
  exact h
 simp only [execOp,hop]
 rw [Sem.run_bind,h1]
 rfl
end
section
variable {Γ:Ctx} {P:Program} {cf:FuncId->List Arg->R3 fV}
variable {n:Fr} {σ:S} {g:Gh} {I:aB} {a:Act} {w:World}
variable {o:Oper} {f:FuncId} {tr:Tr} {Q:S->Tr->Prop} {K:Act->World->Prop} {Qm:Exit->Act->World->Prop}
theorem cu.drop {κ:Key->KE} : ∀ {ls:List Leaf} {vs:List Value} (k:Nat),cu κ g w I ls vs->cu κ g w I (ls.drop k) (vs.drop k)
 | ls,vs,0,h=>h
 | [],[],k+1,h=>trivial
 | _::ls,_::vs,k+1,h=>cu.drop k h.2
 | [],_::_,_+1,h=>h.elim
 | _::_,[],_+1,h=>h.elim
theorem cu.take {κ:Key->KE} : ∀ {ls:List Leaf} {vs:List Value} (k:Nat),cu κ g w I ls vs->cu κ g w I (ls.take k) (vs.take k)
 | ls,vs,0,h=>trivial
 | [],[],k+1,h=>trivial
 | _::ls,_::vs,k+1,h=>⟨h.1,cu.take k h.2⟩
 | [],_::_,_+1,h=>h.elim
 | _::_,[],_+1,h=>h.elim
theorem cu.len {κ:Key->KE} : ∀ {ls:List Leaf} {vs:List Value},cu κ g w I ls vs->vs.length=ls.length
 | [],[],h=>rfl
 | _::ls,_::vs,h=>by have:=cu.len h.2; simp; omega
 | [],_::_,h=>h.elim
 | _::_,[],h=>h.elim
theorem Ug {κ:Key->KE} {deps:List Dp} {lt:LT} {v:Value} {d:T} (ho:Old κ deps) (hi : ∀ b o,I b o->dF κ g I deps b o)
  (h:aJ w (dF κ g I deps) lt v d):ER κ g w I (aaC deps lt d) v:=by
 unfold aaC
 cases lt with
 | sl es=>exact ⟨h.single,trivial,ho,fun _=>h⟩
 | sc s=>refine ⟨h.single,s,rfl,?_⟩; unfold aJ at h; exact h
theorem Ij {κ:Key->KE} {S:aB} {mk:LT->T->Leaf} (hmk : ∀ lt v d,aJ w S lt v d->ER κ g w I (mk lt d) v) :
  ∀ (size:Nat) {es:List LT} {vs:List Value} {ds:List T},aW w S es vs ds->size<=es.length ->
  cu κ g w I ((List.range size).map fun j=>mk (es.getD j default) (ds.getD j dflt)) (vs.take size)
 | 0,es,vs,ds,h,hn=>trivial
 | size+1,[],_,_,h,hn=>by simp at hn
 | size+1,e::es,[],ds,h,hn=>h.elim
 | size+1,e::es,v::vs,[],h,hn=>h.elim
 | size+1,e::es,v::vs,d::ds,h,hn=>by
  rw [List.range_succ_eq_map,List.map_cons,List.map_map]
  exact ⟨hmk _ _ _ h.1,Ij hmk size h.2 (by simpa using hn)⟩
theorem getD_drop {α:Type} (l:List α) (k j:Nat) (d:α):(l.drop k).getD j d=l.getD (k+j) d:=by
 simp [List.getD,List.getElem?_drop]
theorem XY {κ:Key->KE} {key:Key} {r off:Nat} {lt:LT} {m:M} {v:Value} {d:T} {bs:List Nat} (hl:Live (κ key).ch) (hb : ∀ b o,FB w bs b o->g.F key b o)
  (hloc : ∃ b o,addrIn (mW (κ key).ch) (g.h key) r off=some (b,o)/\cellAt w b o=some v/\g.F key b o) (h:bU w I lt m v d bs) :
  ER κ g w I (Jk key (κ key).bQ (κ key).cv r off lt m d) v:=by
 have hs:=h.single
 unfold Jk
 cases lt with
 | sc s =>
  unfold bU at h
  cases m <;> exact ⟨hs,s,rfl,h.1⟩
 | sl es =>
  cases m with
  | F =>
   unfold bU at h
   exact ⟨hs,trivial,uY _,fun _=>aJ.mono (nN _) (fun _ _ _=>rfl) _ h.1⟩
  | O x =>
   have XZ : ∀ b o,g.F key b o->dF κ g I [(key,(κ key).cv)] b o:=fun b o hf=>.inr ⟨_,List.mem_singleton.2 rfl,.inr ⟨hl,hf⟩⟩
   refine ⟨hs,trivial,Nat.le_refl _,fun d hd=>by rw [List.mem_singleton.1 hd]; exact Nat.le_refl _,fun _=>⟨bU.leaf (fun b o hi=>.inl hi) _ (fun b o hf=>XZ b o (hb b o hf)) h,fun _=>?_⟩⟩
   obtain ⟨b,o,h1,h2,h3⟩:=hloc
   exact ⟨b,o,h1,h2,XZ b o h3⟩
theorem Wh {κ:Key->KE} {key:Key} {r off size b o0:Nat} {es:List LT} {ms:List M} {row:List T} {vs:List Value} {bs:List Nat} (hl:Live (κ key).ch) (hb : ∀ b o,FB w bs b o->g.F key b o)
  (hloc : ∀ j,j<es.length->addrIn (mW (κ key).ch) (g.h key) r j=some (b,o0+j)/\g.F key b (o0+j)) (hc:bO w b o0 vs)
  (h:au w I es ms vs row bs) (hn:off+size<=es.length):cu κ g w I (La key (κ key).bQ (κ key).cv r off size es ms row) ((vs.drop off).take size):=by
 have aux : ∀ (size k:Nat) (es:List LT) (ms:List M) (vs:List Value) (ds:List T) (bs:List Nat),au w I es ms vs ds bs->(∀ b o,FB w bs b o->g.F key b o) ->
   (∀ j v,vs[j]? = some v->∃ b o,addrIn (mW (κ key).ch) (g.h key) r (k+j)=some (b,o)/\cellAt w b o=some v/\g.F key b o)->size<=es.length ->
   cu κ g w I ((List.range size).map fun j=>Jk key (κ key).bQ (κ key).cv r (k+j) (es.getD j default) (ms.getD j .F) (ds.getD j dflt)) (vs.take size):=by
  intro size
  induction size with
  | zero=>intros; trivial
  | succ size ih =>
   intro k es ms vs ds bs h hb hloc hn
   cases es with
   | nil=>simp at hn
   | cons e es =>
    unfold au at h
    obtain ⟨v,vs',d,ds',b1,b2,rfl,rfl,rfl,h1,h2⟩:=h
    rw [List.range_succ_eq_map,List.map_cons,List.map_map]
    refine ⟨?_,?_⟩
    ·have:=XY (m:=ms.headD .F) hl (fun b o hf=>hb b o (ni.2 (.inl hf))) (hloc 0 v (by simp)) h1
     cases ms <;> simpa using this
    ·have:=ih (k+1) es ms.tail vs' ds' b2 h2 (fun b o hf=>hb b o (ni.2 (.inr hf))) (fun j v hv=>by
      have:=hloc (j+1) v (by simpa using hv)
      rwa [show k+(j+1)=k+1+j from by omega] at this) (by simpa using hn)
     have e1 : ∀ j,ms.tail.getD j .F=ms.getD (j+1) .F:=fun j=>by cases ms <;> simp [List.getD]
     simpa [Function.comp_def,Nat.add_assoc,Nat.add_comm 1,e1] using this
 obtain ⟨b1,b2,rfl,-,h2⟩:=h.split off
 have hl2:=au.len es h
 have:=aux size off (es.drop off) (ms.drop off) (vs.drop off) (row.drop off) b2 h2 (fun b o hf=>hb b o (ni.2 (.inr hf))) (fun j v hv=>by
  rw [List.getElem?_drop] at hv
  obtain ⟨hj,rfl⟩:=List.getElem?_eq_some_iff.1 hv
  obtain ⟨h3,h4⟩:=hloc (off+j) (by omega)
  exact ⟨_,_,h3,hc.get _ hj,h4⟩) (by rw [List.length_drop]; omega)
 simpa only [getD_drop,La] using this
theorem aiI (hΓ:fE Γ P) (hd:dM n.np n.nt o=true) (hR:R n σ g I a w) (hK:Post P n I w Q K) {t:TypeId} {x:Operand} (hop:o.op = .load t x)
  (h:(bH Γ f o).wp cf σ tr Q):Goal P o a w K Qm:=by
 simp only [bH,hop] at h
 obtain ⟨ti,-,hty,h⟩:=gD hΓ h
 obtain ⟨e,t1,he,h⟩:=jQ hR h
 have fin : ∀ (b o':Nat) (vs:List Value) (ls:List Leaf) (t':Tr),a.eval x = .pointer (some ⟨b,o',none⟩)->bO w b o' vs->vs.length=ti.aR.length ->
   cu σ.k g w I ls vs->(put o.dst (E9 (zh ti.kind) ls)).wp cf σ t' Q->Goal P o a w K Qm:=by
  intro b o' vs ls t' hx hc hn hl hp
  cases ha:zh ti.kind with
  | true =>
   rw [ha] at hp
   exact kG hd hR hK (Mv hop hx ((AJ hty hc hn).1 ha)) (Pk (by simpa using hl)) hp
  | false =>
   rw [ha] at hp
   have hn1:=Ii hty ha
   rw [hn1] at hn
   match vs,hn with
   | [v],_=>exact kG hd hR hK (Mv hop hx ((AJ hty hc (by simpa using hn1.symm)).2 ha v rfl)) (Li hl) hp
 split at h
 ·rename_i key m r off
  obtain ⟨hs,h1,h2⟩:=he
  obtain ⟨h3,h⟩:=h
  obtain ⟨b,o',hx,kH⟩:=h2 (Nat.eq_of_beq_eq_true h3)
  have hch:=hR.vI key
  split at h
  ·rename_i ls e
   rw [e] at hch kH
   obtain ⟨h4,h⟩:=h
   obtain ⟨bb,oo,c,el,fz,hh,hblk,hsz,-,-,hls⟩:=hch
   rw [hh] at kH
   simp only [addrIn,Option.some.injEq,Prod.mk.injEq] at kH
   obtain ⟨rfl,rfl⟩:=kH
   have h5:off+ti.aR.length<=ls.length:=Nat.le_of_ble_eq_true h4
   have hcells : ∀ (vs:List Value) (k:Nat),(∀ j (hj:j<vs.length),c[k+j]? = some vs[j])->bO w bb k vs:=by
    intro vs
    induction vs with
    | nil=>intro k _; trivial
    | cons v vs ih =>
     intro k hk
     refine ⟨?_,ih (k+1) fun j hj=>?_⟩
     ·have:=hk 0 (by simp)
      unfold cellAt World.cell?
      rw [hblk]; simpa using this
     ·have:=hk (j+1) (by simpa using hj)
      rwa [show k+(j+1)=k+1+j from by omega] at this
   refine fin bb (oo+off) (((c.toList.drop oo).take ls.length).drop off |>.take ti.aR.length) _ _ hx (hcells _ _ fun j hj=>?_) ?_ (cu.take _ (cu.drop _ hls)) h
   ·have hj':j<ti.aR.length/\off+j<ls.length/\oo+(off+j)<c.size:=by
     simp only [List.length_take,List.length_drop,Array.length_toList] at hj
     omega
    simp only [List.getElem_take,List.getElem_drop,Array.getElem_toList]
    rw [show oo+off+j=oo+(off+j) from by omega]
    exact Array.getElem?_eq_getElem hj'.2.2
   ·simp only [List.length_take,List.length_drop,Array.length_toList]
    omega
  ·rename_i es ms rows e
   rw [e] at hch kH
   obtain ⟨h4,h5,h⟩:=h
   have h4:off+ti.aR.length<=es.length:=Nat.le_of_ble_eq_true h4
   have h5:r<rows.length:=of_decide_eq_true h5
   obtain ⟨bb,cap,vs,bs,hh,h6,h7,h8,h9⟩:=aV.row hch h5
   rw [hh] at kH
   simp only [addrIn,mW,Option.some.injEq,Prod.mk.injEq,Nat.zero_add] at kH
   obtain ⟨rfl,rfl⟩:=kH
   have e1:rows.getD r []=rows[r]:=by simp [h5]
   rw [e1] at h
   have hid:=Nat.eq_of_beq_eq_true h3
   rw [<-hid] at h
   refine fin bb _ _ _ _ hx ((h6.drop off).take _) ?_ (Wh (by rw [e]; trivial) h8 (fun j hj=>⟨by rw [e,hh]; simp only [addrIn,mW,Nat.zero_add],h9 j hj⟩) h6 h7 h4) h
   rw [List.length_take,List.length_drop,(au.len es h7).1]
   omega
  ·rename_i es rows e
   rw [e] at hch kH
   obtain ⟨h4,h5,h⟩:=h
   have h4:off+ti.aR.length<=es.length:=Nat.le_of_ble_eq_true h4
   have h5:r<rows.length:=of_decide_eq_true h5
   simp only [Hf] at hch
   unfold aJ at hch
   obtain ⟨aa,cap,rows',e',hh,-,-,hrows⟩:=hch
   cases e'
   rcases hrows with rfl | ⟨bb,oo,rfl,hrows⟩
   ·simp at h5
   ·rw [hh] at kH
    simp only [addrIn,mW,Option.some.injEq,Prod.mk.injEq] at kH
    obtain ⟨rfl,rfl⟩:=kH
    obtain ⟨vs,h6,h7⟩:=(hrows r h5).vals
    have e1:rows.getD r []=rows[r]:=by simp [h5]
    rw [e1] at h
    refine fin bb _ _ _ _ hx ((h7.drop off).take _) ?_ (Ij (fun lt v d hl=>Ug (uY _) (nN _) (aJ.mono (nN _) (fun _ _ _=>rfl) _ hl)) _ (h6.drop off) (by rw [List.length_drop]; omega)) h
    rw [List.length_take,List.length_drop,h6.len.1]
    omega
  ·rename_i es ms rows r' jj e
   rw [e] at hch kH
   obtain ⟨h4,h5,h⟩:=h
   have h4:=Nat.eq_of_beq_eq_true h4
   subst h4
   have h5:=Nat.eq_of_beq_eq_true h5
   obtain ⟨-,-,hrl,bb,cap,c,el,fz,B1,B2,hh,-,-,-,-,-,-,-,-,-,xY⟩:=hch
   have xY:=xY h5
   rw [hh] at kH
   simp only [addrIn,mW,Option.some.injEq,Prod.mk.injEq,Nat.zero_add] at kH
   obtain ⟨rfl,rfl⟩:=kH
   split at h
   ·rename_i ls eb
    obtain ⟨h6,h⟩:=h
    have h6:off+ti.aR.length<=ls.length:=Nat.le_of_ble_eq_true h6
    have hb:=hR.vI (jc key)
    rw [eb] at hb
    obtain ⟨b2,o2,c2,el2,fz2,hh2,hblk,hsz,-,-,hls⟩:=hb
    rw [xY] at hh2
    cases hh2
    refine fin bb _ ((((c2.toList.drop (r * es.length)).take ls.length).drop off).take ti.aR.length) _ _ hx (bO.of_block hblk _ _ fun j hj=>?_) ?_ (cu.take _ (cu.drop _ hls)) h
    ·simp only [List.length_take,List.length_drop,Array.length_toList] at hj
     simp only [List.getElem_take,List.getElem_drop,Array.getElem_toList]
     rw [show r * es.length+off+j=r * es.length+(off+j) from by omega]
     exact Array.getElem?_eq_getElem (by omega)
    ·simp only [List.length_take,List.length_drop,Array.length_toList]
     omega
   ·exact h.elim
  ·exact h.elim
 ·rename_i deps aR row
  obtain ⟨hs,h1,h2⟩:=he
  obtain ⟨h3,h⟩:=h
  obtain ⟨h4,t',h⟩:=uF h
  obtain ⟨b,o',hx,hrow⟩:=h2 h4
  obtain ⟨vs,h5,h6⟩:=hrow.vals
  have hle:ti.aR.length<=aR.length:=Nat.le_of_ble_eq_true h3
  refine fin b o' (vs.take ti.aR.length) _ _ hx (h6.take _) ?_ (Ij (fun lt v d hl=>Ug h1 (fun _ _ h=>.inl h) hl) _ h5 hle) h
  rw [List.length_take,h5.len.1]
  omega
 ·exact h.elim
end
end Go.E

namespace Go.E
open Go
section
variable {Γ:Ctx} {P:Program} {w:World} {ρ:Operand->Value} {o:Oper}
theorem Hg {t:TypeId} {x:Operand} {i b o':Nat} {fields:Array Field} {fd:Field} {j:TypeInfo} (hop:o.op = .fieldAddr t x i) (hx:ρ x = .pointer (some ⟨b,o',none⟩))
  (hu:P.underlying t=some (.struct fields)) (hf:fields[i]? = some fd) (hi:P.info? fd.type=some j) (h0:j.size≠0) :
  (execOp ρ o).run P w = .ok (.value (.pointer (some ⟨b,o'+fd.offset,none⟩))) w:=by
 have h1:(Instr.fieldAt t (ρ x) i).run P w = .ok (.pointer (some ⟨b,o'+fd.offset,none⟩)) w:=by
  have h2:(sizeOf fd.type).run P w = .ok j.size w:=by simp [sizeOf,typeInfo,hi,go_sem]
  simp only [Instr.fieldAt,hx,Instr.sureAddr,Sem.run_bind,run_underlying hu,Result.andThen_ok,hf,pure_bind,fieldPlace,h2,h0,if_false,addr_add]
  rfl
 simp only [execOp,hop]
 rw [Sem.run_bind,h1]
 rfl
theorem Uh {t:TypeId} {x:Operand} {i:Nat} {fields:Array Field} {fd:Field} {cs:Array Value} {v:Value} (hop:o.op = .field t x i) (hx:ρ x = .agg cs)
  (hu:P.underlying t=some (.struct fields)) (hf:fields[i]? = some fd) (hp:(part fd.type cs fd.offset).run P w = .ok v w) :
  (execOp ρ o).run P w = .ok (.value v) w:=by
 have h1:(Instr.field t (ρ x) i).run P w = .ok v w:=by
  simp only [Instr.field,hx,asAgg,Sem.run_bind,run_underlying hu,Result.andThen_ok,hf,pure_bind]
  exact hp
 simp only [execOp,hop]
 rw [Sem.run_bind,h1]
 rfl
theorem Te {t e:TypeId} {x ix:Operand} {b o' len cap:Nat} {k:IntKind} {i:Int} {sz:Nat} (hop:o.op = .indexAddr t x ix)
  (hx:ρ x = .slice (some ⟨b,o',none⟩) len cap) (hi:ρ ix = .int k i) (hu:P.underlying t=some (.slice e)) (hs:(sizeOf e).run P w = .ok sz w) (h:0<=i/\i<len) :
  (execOp ρ o).run P w = .ok (.value (.pointer (some ⟨b,o'+i.toNat * sz,none⟩))) w:=by
 have h1:(Instr.indexAt t (ρ x) (ρ ix)).run P w = .ok (.pointer (some ⟨b,o'+i.toNat * sz,none⟩)) w:=by
  simp only [Instr.indexAt,hx,hi,asIntOf,Sem.run_bind,run_underlying hu,Result.andThen_ok,pure_bind,h,and_self,if_true,hs,addr_add,Sem.run_pure]
 simp only [execOp,hop]
 rw [Sem.run_bind,h1]
 rfl
theorem adX {t:TypeId} {x ix:Operand} {k:IntKind} {i:Int} {s:ByteArray} (hop:o.op = .index t x ix)
  (hx:ρ x = .string s) (hi:ρ ix = .int k i) (hu:P.underlying t=some .string) (h:0<=i/\i<s.size) :
  (execOp ρ o).run P w = .ok (.value (.int .u8 (s.data.toList.getD i.toNat 0).toNat)) w:=by
 have hlt:i.toNat<s.size:=by omega
 have hs:s[i.toNat]? = some (s.data.toList.getD i.toNat 0):=by
  rw [getElem?_pos s i.toNat hlt]
  have:i.toNat<s.data.toList.length:=by simpa using hlt
  rw [List.getD,List.getElem?_eq_getElem this]
  rfl
 have h1:(Instr.index t (ρ x) (ρ ix)).run P w = .ok (.int .u8 (s.data.toList.getD i.toNat 0).toNat) w:=by
  simp only [Instr.index,hx,hi,asIntOf,Sem.run_bind,run_underlying hu,Result.andThen_ok,pure_bind,h.1,if_true,hs,Sem.run_pure]
 simp only [execOp,hop]
 rw [Sem.run_bind,h1]
 rfl
theorem Wi {fn:FuncId} {cs:Array Operand} (hop:o.op = .makeFunc (.func fn) #[] cs) :
  (execOp ρ o).run P w = .ok (.value (.func (.func fn) #[] (cs.map ρ))) w:=by
 simp only [execOp,hop]
 rw [Sem.run_bind]
 simp [Instr.makeFunc]
theorem Fw {b:Builtin} {c:Call} {v:Value} (hop:o.op = .call c) (hc:c.callee = .builtin b)
  (h:(builtin b c.argTypes o.type (c.args.map fun | .const _=>true | _=>false) (c.args.map ρ)).run P w = .ok (.value v) w) :
  (execOp ρ o).run P w = .ok (.value v) w:=by
 simp only [execOp,hop]
 rw [Sem.run_bind]
 simp only [resolve,hc]
 exact h
end
section
variable {Γ:Ctx} {P:Program} {cf:FuncId->List Arg->R3 fV}
variable {n:Fr} {σ:S} {g:Gh} {I:aB} {a:Act} {w:World}
variable {o:Oper} {f:FuncId} {tr:Tr} {Q:S->Tr->Prop} {K:Act->World->Prop} {Qm:Exit->Act->World->Prop}
def wZ (κ:Key->KE) (g:Gh) (w:World) (I:aB):List fC->List Value->Prop
 | [],[]=>True
 | l::ls,v::vs=>jY κ g w I l v/\wZ κ g w I ls vs
 | _,_=>False
theorem zy (hR:R n σ g I a w) : ∀ {xs:List Operand} {k:List fC->Prog} {tr:Tr},(Mr xs k).wp cf σ tr Q ->
  ∃ es dI,wZ σ.k g w I es (xs.map a.eval)/\(k es).wp cf σ dI Q
 | [],k,tr,h=>⟨[],tr,trivial,h⟩
 | x::xs,k,tr,h=>by
  obtain ⟨e,t1,he,h⟩:=jQ hR h
  obtain ⟨es,t2,hes,h⟩:=zy hR (xs:=xs) h
  exact ⟨e::es,t2,⟨he,hes⟩,h⟩
theorem Mw {t:TypeId} {ti:TI} {fs:List (Nat×TypeId)} (h:vQ Γ P t ti) (hk:ti.kind = .struct fs) :
  ∃ fields,P.underlying t=some (.struct fields) /\ ∀ (i off:Nat) (ft:TypeId),fs[i]? = some (off,ft)->∃ fd j,fields[i]? = some fd/\fd.offset=off/\fd.type=ft/\P.info? ft=some j/\j.size≠0:=by
 obtain ⟨d,h1,h2⟩:=h.und
 rw [hk] at h2
 obtain ⟨fields,rfl,rfl,h3⟩:=h2
 refine ⟨fields,h1,fun i off ft hi=>?_⟩
 simp only [List.getElem?_map,Option.map_eq_some_iff,Prod.mk.injEq] at hi
 obtain ⟨fd,hfd,rfl,rfl⟩:=hi
 obtain ⟨j,hj,hj0⟩:=h3 fd (List.mem_of_getElem? hfd)
 exact ⟨fd,j,by simpa using hfd,rfl,rfl,hj,hj0⟩
theorem mI {t e:TypeId} {ti:TI} (h:vQ Γ P t ti) (hk:ti.kind = .slice e) :
  P.underlying t=some (.slice e) /\ ∃ te,Γ.ty e=some te/\ti.aR=[.sl te.aR]/\te.aR≠[]:=by
 obtain ⟨d,h1,h2⟩:=h.und
 rw [hk] at h2
 obtain ⟨rfl,h3⟩:=h2
 exact ⟨h1,h3⟩
theorem JE {t:TypeId} {ti:TI} (h:vQ Γ P t ti) (hk:ti.kind = .sc .str):P.underlying t=some .string:=by
 obtain ⟨d,h1,h2⟩:=h.und
 rw [hk] at h2
 rw [h1,h2.1]
theorem Lj {k:TK} (h:Fe k=true):k = .sc .str:=by
 unfold Fe at h
 split at h
 ·rfl
 ·cases h
theorem uH {k:TK} (h:uT k=true) : ∃ e,k = .slice e:=by
 unfold uT at h
 split at h
 ·exact ⟨_,rfl⟩
 ·cases h
theorem Wj (hΓ:fE Γ P) (hd:dM n.np n.nt o=true) (hR:R n σ g I a w) (hK:Post P n I w Q K) {t:TypeId} {x:Operand} {i:Nat} (hop:o.op = .fieldAddr t x i)
  (h:(bH Γ f o).wp cf σ tr Q):Goal P o a w K Qm:=by
 simp only [bH,hop] at h
 obtain ⟨ti,-,hty,h⟩:=gD hΓ h
 obtain ⟨e,t1,he,h⟩:=jQ hR h
 split at h
 ·rename_i fs hk
  obtain ⟨⟨off,ft⟩,hfs,h⟩:=dX h
  obtain ⟨fields,hu,hfd⟩:=Mw hty hk
  obtain ⟨fd,j,h1,rfl,rfl,h2,h3⟩:=hfd i off ft hfs
  split at h
  ·rename_i k m r oo _
   obtain ⟨hs,h4,h5⟩:=he
   obtain ⟨h6,h⟩:=h
   obtain ⟨b,o',hx,ha⟩:=h5 (Nat.eq_of_beq_eq_true h6)
   refine kG hd hR hK (Hg hop hx hu h1 h2 h3) (e:=.ptr k m r (oo+fd.offset)) ⟨⟨fun _ h=>(nomatch h),fun _ h=>(nomatch h)⟩,h4,fun _=>⟨b,o'+fd.offset,rfl,?_⟩⟩ h
   unfold addrIn at ha ⊢
   split at ha
   ·cases ha; simp [Nat.add_assoc]
   ·cases ha; simp [Nat.add_assoc]
   ·cases ha
  ·rename_i deps aR row _
   obtain ⟨hs,h4,h5⟩:=he
   obtain ⟨h8,h⟩:=h
   obtain ⟨h6,t2,h⟩:=uF h
   obtain ⟨b,o',hx,ha⟩:=h5 h6
   refine kG hd hR hK (Hg hop hx hu h1 h2 h3) (e:=.rp deps (aR.drop fd.offset) (row.drop fd.offset)) ⟨⟨fun _ h=>(nomatch h),fun _ h=>(nomatch h)⟩,h4,fun _=>⟨b,o'+fd.offset,rfl,?_⟩⟩ h
   have drop : ∀ (k:Nat) {es:List LT} {o:Nat} {row:List T},k<=es.length->dK w (dF σ.k g I deps) (dF σ.k g I deps) es b o row->dK w (dF σ.k g I deps) (dF σ.k g I deps) (es.drop k) b (o+k) (row.drop k):=by
    intro k
    induction k with
    | zero=>intro es o row _ h; exact h
    | succ k ih =>
     intro es o row hk h
     cases es with
     | nil=>simp at hk
     | cons e es =>
      unfold dK at h
      obtain ⟨d,rest,v,rfl,-,-,-,h⟩:=h
      have:=ih (by simpa using hk) h
      rwa [show o+1+k=o+(k+1) from by omega] at this
   exact drop _ (Nat.le_of_ble_eq_true h8) ha
  ·exact h.elim
 ·exact h.elim
theorem afA (hΓ:fE Γ P) (hd:dM n.np n.nt o=true) (hR:R n σ g I a w) (hK:Post P n I w Q K) {t:TypeId} {x:Operand} {i:Nat} (hop:o.op = .field t x i)
  (h:(bH Γ f o).wp cf σ tr Q):Goal P o a w K Qm:=by
 simp only [bH,hop] at h
 obtain ⟨ti,-,hty,h⟩:=gD hΓ h
 obtain ⟨e,t1,he,h⟩:=jQ hR h
 split at h
 ·rename_i fs ls hk
  obtain ⟨⟨off,ft⟩,hfs,h⟩:=dX h
  obtain ⟨tf,-,htf,h⟩:=gD hΓ h
  obtain ⟨fields,hu,hfd⟩:=Mw hty hk
  obtain ⟨fd,j,h1,rfl,rfl,h2,h3⟩:=hfd i off ft hfs
  obtain ⟨cs,hx,hls⟩:=he
  obtain ⟨h4,h⟩:=h
  have h4:fd.offset+tf.aR.length<=ls.length:=Nat.le_of_ble_eq_true h4
  have hlen:=hls.len
  cases ha:zh tf.kind with
  | true =>
   rw [ha] at h
   refine kG hd hR hK (Uh hop hx hu h1 (v:=.agg (cs.extract fd.offset (fd.offset+tf.aR.length))) ?_) (Pk ?_) h
   ·simp [part,Gj htf,ha,run_sizeOf htf]
   ·have:=(hls.drop fd.offset).take tf.aR.length
    simpa [Array.toList_extract,List.extract_eq_take_drop,Nat.add_sub_cancel_left] using this
  | false =>
   rw [ha] at h
   have h1':=Ii htf ha
   have hlt:fd.offset<cs.size:=by simp at hlen; omega
   refine kG hd hR hK (Uh hop hx hu h1 (v:=cs[fd.offset]) ?_) (Li ?_) h
   ·simp [part,Gj htf,ha,hlt]
   ·have:=(hls.drop fd.offset).take tf.aR.length
    rw [h1'] at this ⊢
    have e:(List.drop fd.offset cs.toList).take 1=[cs[fd.offset]]:=by
     rw [List.drop_eq_getElem_cons (by simpa using hlt)]
     rfl
    rwa [e] at this
 ·exact h.elim
theorem Wl (hΓ:fE Γ P) (hd:dM n.np n.nt o=true) (hR:R n σ g I a w) (hK:Post P n I w Q K) {t:TypeId} {x i:Operand} (hop:o.op = .indexAddr t x i)
  (h:(bH Γ f o).wp cf σ tr Q):Goal P o a w K Qm:=by
 simp only [bH,hop] at h
 obtain ⟨ti,-,hty,h⟩:=gD hΓ h
 obtain ⟨e,t1,he,h⟩:=jQ hR h
 obtain ⟨ei,t2,hei,h⟩:=jQ hR h
 obtain ⟨s,d,rfl,hv,h⟩:=oP hei h
 split at h
 ·rename_i _ el tes l hk Wm _ _
  obtain ⟨ix,hix,rfl,-⟩:=hv
  obtain ⟨hu,te,hte,hl,-⟩:=mI hty hk
  have hsz:=run_sizeOf (w:=w) (hΓ.ty _ _ hte)
  rw [Wm] at hl
  simp only [List.cons.injEq,LT.sl.injEq,and_true] at hl
  subst hl
  have fin : ∀ (es:List LT) (rows:List (List T)) (S:aB),aJ w S (.sl es) (a.eval x) (.l rows)->es.length=te.aR.length->0<=ix/\ix<rows.length ->
    ∃ b oo len cap,a.eval x = .slice (some ⟨b,oo,none⟩) len cap/\(execOp a.eval o).run P w = .ok (.value (.pointer (some ⟨b,oo+ix.toNat * es.length,none⟩))) w /\
     ∀ (hi:ix.toNat<rows.length),dK w S S es b (oo+ix.toNat * es.length) rows[ix.toNat]:=by
   intro es rows S pG hlen hb
   unfold aJ at pG
   obtain ⟨aa,cap,rows',e1,hv,-,-,hrows⟩:=pG
   cases e1
   rcases hrows with rfl | ⟨b,oo,rfl,hrows⟩
   ·simp at hb; omega
   ·refine ⟨b,oo,_,_,hv,?_,fun hi=>hrows _ hi⟩
    rw [hlen]
    exact Te hop hv hix hu hsz hb
  split at h
  ·rename_i key m hst
   obtain ⟨hs,hl⟩:=he
   simp only [hst] at hl
   obtain ⟨-,h1,h2⟩:=hl
   obtain ⟨h3,h⟩:=h
   have hid:=Nat.eq_of_beq_eq_true h3
   have hval:=h2 hid
   have hch:=hR.vI key
   split at h
   ·rename_i es ms rows e
    rw [e] at hch
    obtain ⟨h4,h5,h⟩:=h
    obtain ⟨b,oo,len,cap,hv,hrun,-⟩:=fin es rows (fun _ _=>True) (by rw [hval]; exact aJ.mono (fun _ _ _=>trivial) (fun _ _ _=>rfl) _ (aV.leaf (S:=fun _ _=>True) hch (fun _ _ _=>trivial) (fun _ _ _=>trivial)))
     (Nat.eq_of_beq_eq_true h4) (of_decide_eq_true h5)
    refine kG hd hR hK hrun (e:=.ptr key m ix.toNat 0) ⟨⟨fun _ h=>(nomatch h),fun _ h=>(nomatch h)⟩,h1,fun _=>⟨b,_,rfl,?_⟩⟩ h
    rw [<-hval,hv,e]
    simp [addrIn,mW]
   ·rename_i es rows e
    rw [e] at hch
    obtain ⟨h4,h5,h⟩:=h
    obtain ⟨b,oo,len,cap,hv,hrun,-⟩:=fin es rows I (by rw [hval]; exact hch) (Nat.eq_of_beq_eq_true h4) (of_decide_eq_true h5)
    refine kG hd hR hK hrun (e:=.ptr key m ix.toNat 0) ⟨⟨fun _ h=>(nomatch h),fun _ h=>(nomatch h)⟩,h1,fun _=>⟨b,_,rfl,?_⟩⟩ h
    rw [<-hval,hv,e]
    simp [addrIn,mW]
   ·exact h.elim
  ·obtain ⟨es,rows,deps,t',h,h1,h2,h3⟩:=qZ hR he h
   obtain ⟨h4,h5,h⟩:=h
   have hb:=of_decide_eq_true h5
   simp only [T.int] at hb
   obtain ⟨b,oo,len,cap,hv,hrun,hrow⟩:=fin es rows _ h1 (Nat.eq_of_beq_eq_true h4) hb
   have hlt:ix.toNat<rows.length:=by omega
   refine kG hd hR hK hrun (e:=.rp deps es (rows.getD ix.toNat [])) ⟨⟨fun _ h=>(nomatch h),fun _ h=>(nomatch h)⟩,h3,fun _=>⟨b,_,rfl,?_⟩⟩ h
   have e1:rows.getD ix.toNat []=rows[ix.toNat]:=by simp [hlt]
   rw [e1]
   exact hrow hlt
 ·exact h.elim
theorem afC (hΓ:fE Γ P) (hd:dM n.np n.nt o=true) (hR:R n σ g I a w) (hK:Post P n I w Q K) {t:TypeId} {x i:Operand} (hop:o.op = .index t x i)
  (h:(bH Γ f o).wp cf σ tr Q):Goal P o a w K Qm:=by
 simp only [bH,hop] at h
 obtain ⟨ti,-,hty,h⟩:=gD hΓ h
 obtain ⟨e,t1,he,h⟩:=jQ hR h
 obtain ⟨ei,t2,hei,h⟩:=jQ hR h
 obtain ⟨s,d,rfl,hv,h⟩:=oP he h
 obtain ⟨s',d',rfl,hv',h⟩:=oP hei h
 split at h
 ·have hk:ti.kind = .sc .str:=by assumption
  obtain ⟨str,hs,rfl,-⟩:=hv
  obtain ⟨ix,hix,rfl,-⟩:=hv'
  obtain ⟨h1,h⟩:=h
  have h1:=of_decide_eq_true h1
  simp only [T.int,T.str] at h1
  refine ng hd hR hK (s:=.int .u8) (adX hop hs hix (JE hty hk) h1) ⟨_,rfl,rfl,?_⟩ h
  have:=UInt8.toNat_lt (str.data.toList.getD ix.toNat 0)
  simp only [IntKind.min,IntKind.max,IntKind.bits,IntKind.signed]
  constructor
  ·simp
  ·simp only [Bool.false_eq_true,if_false]
   omega
 ·exact h.elim
theorem X0 (hd:dM n.np n.nt o=true) (hR:R n σ g I a w) (hK:Post P n I w Q K) {fn:FuncId} {fs cs:Array Operand} (hop:o.op = .makeFunc (.func fn) fs cs)
  (h:(bH Γ f o).wp cf σ tr Q):Goal P o a w K Qm:=by
 simp only [bH,hop] at h
 cases he:fs.isEmpty with
 | false=>simp only [he,cond_false] at h; exact h.elim
 | true =>
  simp only [he,cond_true] at h
  have hfs:fs = #[]:=by simpa using he
  subst hfs
  obtain ⟨es,t',hes,h⟩:=zy hR h
  obtain ⟨h1,h⟩:=h
  refine kG hd hR hK (Wi hop) (e:=.fn fn es) ⟨_,rfl,?_⟩ h
  have aux : ∀ (es:List fC) (vs:List Value),wZ σ.k g w I es vs->es.all VW=true->pY σ.k g w I es vs:=by
   intro es
   induction es with
   | nil=>intro vs h _; cases vs with | nil=>trivial | cons=>exact h.elim
   | cons e es ih =>
    intro vs h hf
    cases vs with
    | nil=>exact h.elim
    | cons v vs =>
     simp only [List.all_cons,Bool.and_eq_true] at hf
     refine ⟨?_,ih vs h.2 hf.2⟩
     have h1:=h.1
     cases e <;> first | exact h1 | (simp [VW] at hf)
  simpa using aux es _ hes h1
end
end Go.E

namespace Go.E
open Go
section
variable {Γ:Ctx} {P:Program} {w:World} {ρ:Operand->Value} {o:Oper}
theorem X3 {t:TypeId} {ts:Array TypeId} {ty:TypeId} {s:ByteArray} (ht:ts[0]? = some t) (hu:P.underlying t=some .string) :
  (Builtin.len_ ts ty #[.string s]).run P w = .ok (.int .i64 s.size) w:=by
 simp [Builtin.len_,ht,run_underlying hu,goInt]
theorem run_len_slice {t e:TypeId} {ts:Array TypeId} {ty:TypeId} {a:Option Addr} {len cap:Nat} (ht:ts[0]? = some t) (hu:P.underlying t=some (.slice e)) :
  (Builtin.len_ ts ty #[.slice a len cap]).run P w = .ok (.int .i64 len) w:=by
 simp [Builtin.len_,ht,run_underlying hu,goInt]
theorem EA {c:Call} {v:Value} (hop:o.op = .call c) (hc:c.callee = .builtin .len)
  (h:(Builtin.len_ c.argTypes o.type (c.args.map ρ)).run P w = .ok v w) :
  (execOp ρ o).run P w = .ok (.value v) w:=by
 refine Fw hop hc ?_
 simp only [builtin]
 rw [Sem.run_bind,h]
 rfl
theorem ru {v:Value} {k:IntKind} {i:Int} {y:Nat} {code:BoundsCode} (hv:v = .int k i) (h:0<=i/\i<=y) :
  (Instr.sliceBound v y code).run P w = .ok i.toNat w:=by
 subst hv
 simp [Instr.sliceBound,asIntOf,h]
def EB (o:Option Value) (d x:Int):Prop:=(o=none/\x=d) \/ ∃ k,o=some (.int k x)
theorem Pq {sl:Bool} {len cap:Nat} {lo hi:Option Value} {l h:Int} (hlo:EB lo 0 l) (hhi:EB hi len h) (h1:0<=h/\h<=len) (h2:0<=l/\l<=h) (hc:len<=cap) :
  (Instr.sliceBounds sl len cap lo hi none).run P w = .ok (l.toNat,h.toNat,cap) w:=by
 have h3:0<=h/\h<=(cap:Int):=⟨h1.1,by omega⟩
 have h4:0<=l/\l<=(h.toNat:Int):=⟨h2.1,by omega⟩
 rcases hlo with ⟨rfl,rfl⟩ | ⟨k,rfl⟩ <;> rcases hhi with ⟨rfl,rfl⟩ | ⟨k',rfl⟩
 ·simp [Instr.sliceBounds]
 ·simp [Instr.sliceBounds,ru rfl h3]
 ·simp only [Instr.sliceBounds,pure_bind,Sem.run_bind]
  simp only [Sem.run_pure,Result.andThen_ok]
  have h5:0<=l/\l<=(len:Int):=by omega
  simp [ru rfl h5]
 ·simp only [Instr.sliceBounds,pure_bind,Sem.run_bind]
  simp [ru rfl h3,ru rfl h4]
theorem Tf {t:TypeId} {x:Operand} {lo hi:Option Operand} {s:ByteArray} {l h:Int} (hop:o.op = .slice t x lo hi none) (hx:ρ x = .string s)
  (hu:P.underlying t=some .string) (hlo:EB (lo.map ρ) 0 l) (hhi:EB (hi.map ρ) s.size h) (h1:0<=h/\h<=s.size) (h2:0<=l/\l<=h) :
  (execOp ρ o).run P w = .ok (.value (.string (s.extract l.toNat h.toNat))) w:=by
 have h3:(Instr.sliceAt t (ρ x) (lo.map ρ) (hi.map ρ) none).run P w = .ok (.string (s.extract l.toNat h.toNat)) w:=by
  simp only [Instr.sliceAt,Sem.run_bind,run_underlying hu,Result.andThen_ok,Instr.slice,hx]
  simp [Pq (P:=P) (w:=w) (sl:=false) hlo hhi h1 h2 (Nat.le_refl _)]
 simp only [execOp,hop]
 rw [Sem.run_bind,show (none:Option Operand).map ρ=none from rfl,h3]
 rfl
theorem Dy {t e:TypeId} {x:Operand} {lo hi:Option Operand} {aa:Option Addr} {len cap sz:Nat} {l h:Int} (hop:o.op = .slice t x lo hi none) (hx:ρ x = .slice aa len cap)
  (hu:P.underlying t=some (.slice e)) (hs:(sizeOf e).run P w = .ok sz w) (hlo:EB (lo.map ρ) 0 l) (hhi:EB (hi.map ρ) len h) (h1:0<=h/\h<=len) (h2:0<=l/\l<=h) (hc:len<=cap) :
  (execOp ρ o).run P w = .ok (.value (.slice (if cap=l.toNat then aa else aa.map (·.add (l.toNat * sz))) (h.toNat-l.toNat) (cap-l.toNat))) w:=by
 have h3:(Instr.sliceAt t (ρ x) (lo.map ρ) (hi.map ρ) none).run P w = .ok (.slice (if cap=l.toNat then aa else aa.map (·.add (l.toNat * sz))) (h.toNat-l.toNat) (cap-l.toNat)) w:=by
  simp only [Instr.sliceAt,Sem.run_bind,run_underlying hu,Result.andThen_ok,Instr.slice,hx]
  simp [Pq (P:=P) (w:=w) (sl:=true) hlo hhi h1 h2 hc,hs]
 simp only [execOp,hop]
 rw [Sem.run_bind,show (none:Option Operand).map ρ=none from rfl,h3]
 rfl
end
section
variable {Γ:Ctx} {P:Program} {cf:FuncId->List Arg->R3 fV}
variable {n:Fr} {σ:S} {g:Gh} {I:aB} {a:Act} {w:World}
variable {o:Oper} {f:FuncId} {tr:Tr} {Q:S->Tr->Prop} {K:Act->World->Prop} {Qm:Exit->Act->World->Prop}
theorem adY {κ:Key->KE} {e:fC} {vs:List Value} (h:wZ κ g w I [e] vs) : ∃ v,vs=[v]/\jY κ g w I e v:=by
 match vs,h with
 | [v],h=>exact ⟨v,rfl,h.1⟩
theorem Dz {S:aB} {es:List LT} {v:Value} {rows:List (List T)} (h:aJ w S (.sl es) v (.l rows)) :
  ∃ aa cap,v = .slice aa rows.length cap/\rows.length<=cap/\rows.length<=bG /\
   (rows=[] \/ ∃ b o,aa=some ⟨b,o,none⟩ /\ ∀ i (h:i<rows.length),dK w S S es b (o+i * es.length) rows[i]):=by
 unfold aJ at h
 obtain ⟨aa,cap,rows',e1,hv,h1,h2,h3⟩:=h
 cases e1
 exact ⟨aa,cap,hv,h1,h2,h3⟩
theorem Gl {S:aB} {es:List LT} {aa:Option Addr} {cap:Nat} {rows:List (List T)} (h1:rows.length<=cap) (h2:rows.length<=bG)
  (h3:rows=[] \/ ∃ b o,aa=some ⟨b,o,none⟩ /\ ∀ i (h:i<rows.length),dK w S S es b (o+i * es.length) rows[i]):aJ w S (.sl es) (.slice aa rows.length cap) (.l rows):=by
 unfold aJ
 exact ⟨aa,cap,rows,rfl,rfl,h1,h2,h3⟩
theorem JF {e:fC} {v:Value} {d0:Nat} (hdst:o.dst=some d0) (hd:dM n.np n.nt o=true) (hR:R n σ g I a w) (hK:Post P n I w Q K)
  (hrun:(execOp a.eval o).run P w = .ok (.value v) w) (he:jY σ.k g w I e v) (h:(Prog.mG d0 e .ret).wp cf σ tr Q):Goal P o a w K Qm :=
 kG hd hR hK hrun he (by unfold put; rw [hdst]; exact h)
theorem alx (hΓ:fE Γ P) (hd:dM n.np n.nt o=true) (hR:R n σ g I a w) (hK:Post P n I w Q K) {c:Call} (hop:o.op = .call c) (hc:c.callee = .builtin .len)
  (h:(bH Γ f o).wp cf σ tr Q):Goal P o a w K Qm:=by
 simp only [bH,hop,hc] at h
 obtain ⟨t,ht,h⟩:=dX h
 obtain ⟨ti,-,hty,h⟩:=gD hΓ h
 obtain ⟨es,t1,hes,h⟩:=zy hR h
 split at h
 ·rename_i l _ _
  obtain ⟨v,hv,hl⟩:=adY hes
  have hargs:c.args.map a.eval = #[v]:=by
   apply Array.toList_inj.1; simpa using hv
  split at h
  ·rename_i hst hlt
   obtain ⟨hk,h⟩:=h
   obtain ⟨hs,hl⟩:=hl
   simp only [hst] at hl
   obtain ⟨s,e1,hl⟩:=hl
   rw [hlt] at e1
   cases e1
   obtain ⟨s,rfl,hd',hsz⟩:=hl
   rw [hd'] at h
   refine ng hd hR hK (s:=.int .i64) (EA hop hc (by rw [hargs]; exact X3 ht (JE hty (Lj hk)))) ⟨_,rfl,rfl,?_⟩ h
   have e1:IntKind.i64.min = -9223372036854775808:=by decide
   rw [e1,V9]
   simp only [T.str]
   omega
  ·obtain ⟨hk,h⟩:=h
   obtain ⟨es,rows,deps,t',h,pG,-,-⟩:=qZ hR hl h
   obtain ⟨aa,cap,rfl,h1,h2,-⟩:=Dz pG
   obtain ⟨e,hk⟩:=uH hk
   obtain ⟨hu,-⟩:=mI hty hk
   have h:=h (decide_eq_true h2)
   refine ng hd hR hK (s:=.int .i64) (EA hop hc (by rw [hargs]; exact run_len_slice ht hu)) ⟨_,rfl,rfl,?_⟩ h
   have e1:IntKind.i64.min = -9223372036854775808:=by decide
   unfold bG at h2
   rw [e1,V9]
   omega
 ·exact h.elim
theorem X4 (hR:R n σ g I a w) {e:fC} {v:Value} {k:Int->Prog} (he:jY σ.k g w I e v)
  (h:(vO e fun s t=>match s with | .int _=>k t.int | _=>.fail).wp cf σ tr Q) : ∃ kd x,v = .int kd x/\(k x).wp cf σ tr Q:=by
 obtain ⟨s,d,rfl,hv,h⟩:=oP he h
 split at h
 ·obtain ⟨x,hx,rfl,-⟩:=hv
  exact ⟨_,x,hx,h⟩
 ·exact h.elim
theorem vR (hR:R n σ g I a w) (lo hi:Option Operand) {Ik Nt:Option fC} {nn:Nat} {k:Int->Int->Prog}
  (hlo : ∀ x,lo=some x->∃ e,Ik=some e/\jY σ.k g w I e (a.eval x)) (DC:lo=none->Ik=none)
  (hhi : ∀ x,hi=some x->∃ e,Nt=some e/\jY σ.k g w I e (a.eval x)) (Ll:hi=none->Nt=none)
  (h:(sliceBound Nt nn fun h=>sliceBound Ik 0 fun a=>k h a).wp cf σ tr Q) :
  ∃ l hh,EB (lo.map a.eval) 0 l/\EB (hi.map a.eval) nn hh/\(k hh l).wp cf σ tr Q:=by
 have one : ∀ (x:Option Operand) (e:Option fC) (d:Int) (k:Int->Prog),(∀ y,x=some y->∃ e',e=some e'/\jY σ.k g w I e' (a.eval y))->(x=none->e=none) ->
   (sliceBound e d k).wp cf σ tr Q->∃ v,EB (x.map a.eval) d v/\(k v).wp cf σ tr Q:=by
  intro x e d k h1 h2 h
  cases x with
  | none=>rw [h2 rfl] at h; exact ⟨d,.inl ⟨rfl,rfl⟩,h⟩
  | some y =>
   obtain ⟨e',rfl,he⟩:=h1 y rfl
   obtain ⟨kd,v,hv,h⟩:=X4 hR he h
   exact ⟨v,.inr ⟨kd,by simp [hv]⟩,h⟩
 obtain ⟨hh,h1,h⟩:=one hi Nt nn _ hhi Ll h
 obtain ⟨l,h2,h⟩:=one lo Ik 0 _ hlo DC h
 exact ⟨l,hh,h2,h1,h⟩
theorem Ui {S:aB} {es:List LT} {aa:Option Addr} {cap:Nat} {rows:List (List T)} {l h:Nat} (hl:aJ w S (.sl es) (.slice aa rows.length cap) (.l rows)) (h1:h<=rows.length) (h2:l<=h) :
  aJ w S (.sl es) (.slice (if cap=l then aa else aa.map (·.add (l * es.length))) (h-l) (cap-l)) (.l ((rows.take h).drop l)):=by
 obtain ⟨aa',cap',e1,h3,h4,h5⟩:=Dz hl
 cases e1
 have hlen:((rows.take h).drop l).length=h-l:=by simp; omega
 rw [<-hlen]
 refine Gl (by omega) (by omega) ?_
 by_cases hz:h=l
 ·left; apply List.length_eq_zero_iff.1; omega
 ·rcases h5 with rfl | ⟨b,o,rfl,h5⟩
  ·simp at h1; omega
  ·right
   have hne:cap≠l:=by omega
   refine ⟨b,o+l * es.length,by simp [hne,addr_add],fun i hi=>?_⟩
   have hi':i+l<rows.length:=by omega
   have:=h5 (l+i) (by omega)
   have e1:(List.drop l (List.take h rows))[i]=rows[l+i]:=by
    simp [List.getElem_drop,List.getElem_take]
   rw [e1,Nat.add_assoc,<-Nat.add_mul]
   exact this
theorem BO (hΓ:fE Γ P) (hd:dM n.np n.nt o=true) (hR:R n σ g I a w) (hK:Post P n I w Q K) {t:TypeId} {ti:TI} {x:Operand} {lo hi:Option Operand} {d0:Nat} (hop:o.op = .slice t x lo hi none)
  (hdst:o.dst=some d0) (hty:vQ Γ P t ti) {e:fC} (he:jY σ.k g w I e (a.eval x)) {Ik Nt:Option fC}
  (hlo : ∀ x,lo=some x->∃ e,Ik=some e/\jY σ.k g w I e (a.eval x)) (DC:lo=none->Ik=none)
  (hhi : ∀ x,hi=some x->∃ e,Nt=some e/\jY σ.k g w I e (a.eval x)) (Ll:hi=none->Nt=none)
  (h:(ou ti 0 d0 e Ik Nt).wp cf σ tr Q):Goal P o a w K Qm:=by
 unfold ou at h
 obtain ⟨l,rfl,hl,h⟩:=Dw he h
 simp only at h
 split at h
 ·rename_i hst hlt
  obtain ⟨hk,h⟩:=h
  obtain ⟨hs,hl⟩:=hl
  simp only [hst] at hl
  obtain ⟨s,e1,hl⟩:=hl
  rw [hlt] at e1
  cases e1
  obtain ⟨s,hx,hd',hsz⟩:=hl
  rw [hd'] at h
  obtain ⟨lv,hv,h1,h2,h3,h4,h⟩:=vR hR lo hi hlo DC hhi Ll h
  have h3:=of_decide_eq_true h3
  have h4:=of_decide_eq_true h4
  have hrun:=Tf (w:=w) hop hx (JE hty (Lj hk)) h1 h2 h3 h4
  rw [<-hdst] at h
  refine ng hd hR hK (s:=.str) hrun ⟨_,rfl,rfl,?_⟩ h
  simp only [ByteArray.size_extract]
  omega
 ·obtain ⟨es,rows,deps,t',h,pG,h1,h2⟩:=qZ hR hl h
  obtain ⟨hk,h⟩:=h
  split at hk
  ·rename_i tes Wm
   simp only [Bool.and_eq_true] at hk
   obtain ⟨hk,hlen⟩:=hk
   have hlen:=Nat.eq_of_beq_eq_true hlen
   obtain ⟨el,hk⟩:=uH hk
   obtain ⟨hu,te,hte,hl',-⟩:=mI hty hk
   rw [Wm] at hl'
   simp only [List.cons.injEq,LT.sl.injEq,and_true] at hl'
   subst hl'
   obtain ⟨aa,cap,hv,hcap,-,-⟩:=Dz pG
   obtain ⟨lv,hv',hb1,hb2,hb3,hb4,h⟩:=vR hR lo hi hlo DC hhi Ll h
   have hb3:=of_decide_eq_true hb3
   have hb4:=of_decide_eq_true hb4
   have hrun:=Dy hop hv hu (run_sizeOf (w:=w) (hΓ.ty _ _ hte)) hb1 hb2 hb3 hb4 hcap
   rw [<-hlen] at hrun
   rw [hv] at pG
   have hfin:=Ui (l:=lv.toNat) (h:=hv'.toNat) pG (by omega) (by omega)
   exact JF (e:=.one ⟨.sn deps,.sl es,.l ((rows.take hv'.toNat).drop lv.toNat)⟩) hdst hd hR hK hrun ⟨hfin.single,trivial,h2,fun _=>hfin⟩ h
  ·cases hk
theorem AO {ρ:Operand->Value} {s t:TypeId} {x:Operand} {v:Value} {w':World} (hop:o.op = .convert s t x) (h:(convert s t (ρ x)).run P w = .ok v w') :
  (execOp ρ o).run P w = .ok (.value v) w':=by
 simp only [execOp,hop]
 rw [Sem.run_bind,h]
 rfl
theorem JG {S:aB} : ∀ (rows:List (List T)) (b o:Nat),(∀ i (h:i<rows.length),dK w S S [.sc (.int .u8)] b (o+i * 1) rows[i]) ->
  ∃ ns:List Int,bO w b o (ns.map (Value.int .u8))/\ns.length=rows.length/\qV rows=⟨(ns.map fun n=>UInt8.ofNat n.toNat).toArray⟩
 | [],b,o,_=>⟨[],trivial,rfl,rfl⟩
 | r::rs,b,o,h=>by
  have h0:=h 0 (by simp)
  unfold dK at h0
  obtain ⟨d,rest,v,e1,-,hc,hl,-⟩:=h0
  unfold aJ at hl
  obtain ⟨x,rfl,rfl,-⟩:=hl
  obtain ⟨ns,h1,h2,h3⟩:=JG rs b (o+1) fun i hi=>by
   have:=h (i+1) (by simpa using hi)
   rw [show o+1+i * 1=o+(i+1) * 1 from by omega]
   simpa using this
  refine ⟨x::ns,⟨by simpa using hc,h1⟩,by simp [h2],?_⟩
  simp only [List.getElem_cons_zero] at e1
  unfold qV at h3 ⊢
  have h3:=List.toArray_inj (ByteArray.mk.inj h3)
  rw [List.map_cons,List.map_cons,h3,e1]
  rfl
theorem foldl_push (ns:List Int) : ∀ (acc:ByteArray),ns.foldl (fun r n=>r.push (UInt8.ofNat n.toNat)) acc=⟨(acc.data.toList++ns.map fun n=>UInt8.ofNat n.toNat).toArray⟩:=by
 induction ns with
 | nil=>intro acc; simp
 | cons n ns ih =>
  intro acc
  simp only [List.foldl_cons,ih]
  obtain ⟨data⟩:=acc
  simp [ByteArray.push]
theorem Wn {S:aB} {v:Value} {rows:List (List T)} (h:aJ w S (.sl [.sc (.int .u8)]) v (.l rows)) :
  (Conv.bytesToString v).run P w = .ok (.string (qV rows)) w/\(qV rows).size=rows.length:=by
 obtain ⟨aa,cap,rfl,h1,h2,h3⟩:=Dz h
 have hsz:(qV rows).size=rows.length:=by simp [qV,ByteArray.size]
 refine ⟨?_,hsz⟩
 rcases h3 with rfl | ⟨b,o,rfl,h3⟩
 ·cases aa with
  | none=>simp [Conv.bytesToString,qV]; rfl
  | some aa =>
   have:=run_bytesToString (P:=P) w aa 0 cap [] (by simp [loadCells,loadCellsFrom])
   exact this.trans rfl
 ·obtain ⟨ns,h4,h5,h6⟩:=JG rows b o (by simpa using h3)
  have:=run_bytesToString (P:=P) w ⟨b,o,none⟩ rows.length cap ns (by
   have:=run_loadCells (P:=P) h4
   simpa [h5] using this)
  rw [this,h6,foldl_push]
  simp
theorem Pt {k:TK} (h:Oq k=true):k = .sc (.int .u8):=by
 unfold Oq at h
 split at h
 ·rfl
 ·cases h
theorem Nu (hΓ:fE Γ P) (hd:dM n.np n.nt o=true) (hR:R n σ g I a w) (hK:Post P n I w Q K) {s t:TypeId} {ts tt:TI} {x:Operand} {d0:Nat} (hop:o.op = .convert s t x)
  (hdst:o.dst=some d0) (hts:vQ Γ P s ts) (htt:vQ Γ P t tt) {e:fC} (he:jY σ.k g w I e (a.eval x)) (hno : ¬ (ts.kind = .sc .str /\ ∃ el,tt.kind = .slice el))
  (h:(Fg Γ d0 ts tt e).wp cf σ tr Q):Goal P o a w K Qm:=by
 obtain ⟨ds,hus,hks⟩:=hts.und
 obtain ⟨dt,hut,hkt⟩:=htt.und
 unfold Fg at h
 split at h
 ·rename_i k k' e1 e2
  rw [e1] at hks; rw [e2] at hkt
  obtain ⟨rfl,-⟩:=hks
  obtain ⟨rfl,-⟩:=hkt
  obtain ⟨st,d,rfl,hv,h⟩:=oP he h
  split at h
  ·rw [<-hdst] at h
   obtain ⟨i,hv,rfl,-⟩:=hv
   exact ng hd hR hK (s:=.int k') (v:=.int k' (k'.wrap i)) (AO hop (by rw [hv]; simp [convert,run_underlying hus,run_underlying hut,Conv.intToInt])) xR h
  ·exact h.elim
 ·rename_i e1 e2
  rw [e1] at hks; rw [e2] at hkt
  obtain ⟨rfl,-⟩:=hks
  obtain ⟨rfl,-⟩:=hkt
  obtain ⟨st,d,rfl,hv,h⟩:=oP he h
  split at h
  ·rw [<-hdst] at h
   have hv':=hv
   obtain ⟨i,hv,rfl,-⟩:=hv
   exact ng hd hR hK (s:=.str) (v:=.string i) (AO hop (by rw [hv]; simp [convert,run_underlying hus,run_underlying hut])) (by rw [<-hv]; exact hv') h
  ·exact h.elim
 ·rename_i e1 e2; exact absurd ⟨e1,_,e2⟩ hno
 ·rename_i el e1 e2
  rw [e1] at hks; rw [e2] at hkt
  obtain ⟨rfl,-⟩:=hks
  obtain ⟨rfl,-⟩:=hkt
  obtain ⟨te,-,hte,h⟩:=gD hΓ h
  obtain ⟨hb,h⟩:=h
  obtain ⟨de,hue,hke⟩:=hte.und
  rw [Pt hb] at hke
  obtain ⟨rfl,-⟩:=hke
  obtain ⟨l,rfl,hl,h⟩:=Dw he h
  obtain ⟨es,rows,deps,t',h,pG,-,-⟩:=qZ hR hl h
  split at h
  ·rw [<-hdst] at h
   obtain ⟨h1,h2⟩:=Wn (P:=P) pG
   obtain ⟨aa,cap,hv,hc1,hc2,-⟩:=Dz pG
   refine ng hd hR hK (s:=.str) (AO hop (v:=.string (qV rows)) ?_) ⟨_,rfl,rfl,?_⟩ h
   ·rw [hv] at h1 ⊢
    rw [run_convert_bytes_string (P:=P) w s t el aa _ _ hus hue hut]
    exact h1
   ·unfold bG at hc2
    omega
  ·exact h.elim
 ·exact h.elim
end
end Go.E

namespace Go.E
open Go
theorem Keeps.weaken {A B:aB} {w w':World} (h:Keeps A w w') (hab : ∀ b o,B b o->A b o):Keeps B w w' :=
 ⟨h.size,fun b x hx=>by
  obtain ⟨y,hy,hk⟩:=h.obj b x hx
  refine ⟨y,hy,?_⟩
  cases x <;> simp only [qc] at hk ⊢ <;> try exact hk
  obtain ⟨c',h1,h2,h3⟩:=hk
  exact ⟨c',h1,h2,fun o ho=>h3 o (hab b o ho)⟩,h.os,h.output,h.tape⟩
def Gh.set (g:Gh) (k:Key) (h:Value) (F:aB):Gh:=⟨fun u=>if u=k then h else g.h u,fun u=>if u=k then F else g.F u,g.D⟩
@[simp] theorem Gh.oz (g:Gh) (k:Key) (h:Value) (F:aB):(g.set k h F).h k=h:=by simp [Gh.set]
@[simp] theorem Gh.jR (g:Gh) (k:Key) (h:Value) (F:aB):(g.set k h F).F k=F:=by simp [Gh.set]
theorem Gh.xS (g:Gh) {k u:Key} (h:Value) (F:aB) (hu:u≠k):(g.set k h F).h u=g.h u:=by simp [Gh.set,hu]
theorem Gh.uZ (g:Gh) {k u:Key} (h:Value) (F:aB) (hu:u≠k):(g.set k h F).F u=g.F u:=by simp [Gh.set,hu]
theorem aP (σ:S) (k:Key) (e:KE):(σ.bK k e).k k=e:=by simp [S.bK,gu]
theorem aO (σ:S) {k u:Key} (e:KE) (h:u≠k):(σ.bK k e).k u=σ.k u:=by
 have:dQ u k=false:=by
  cases hb:dQ u k
  ·rfl
  ·exact absurd ((eX _ _).1 hb) h
 simp [S.bK,this]
section
variable {P:Program} {w w':World} {I I' A:aB} {κ κ':Key->KE} {g g':Gh}
theorem uI {n:Fr} {σ:S} {a:Act} (hR:R n σ g I a w) {k:Key} (hl:Live (σ.k k).ch) {b o:Nat} (hf:g.F k b o) : ∃ v,cellAt w b o=some v:=by
 have h:=hR.vI k
 cases hc:(σ.k k).ch with
 | gone=>rw [hc] at hl; exact hl.elim
 | fz es rows=>rw [hc] at hl; exact hl.elim
 | box ls =>
  rw [hc] at h
  obtain ⟨b',o',c,el,fz,-,h1,h2,-,h3,-⟩:=h
  obtain ⟨rfl,h4,h5⟩:=(h3 b o).1 hf
  rw [mH h1]
  exact ⟨_,Array.getElem?_eq_getElem (by omega)⟩
 | row es ms rows =>
  rw [hc] at h
  exact aV.cell h hf
 | K9 m j ls =>
  rw [hc] at h
  obtain ⟨⟨b',o',c,el,fz,-,h1,h2,-,h3,-⟩,-⟩:=h
  obtain ⟨rfl,h4,h5⟩:=(h3 b o).1 hf
  rw [mH h1]
  exact ⟨_,Array.getElem?_eq_getElem (by omega)⟩
 | hol es ms rows r j =>
  rw [hc] at h
  obtain ⟨-,-,-,b',cap,c,el,fz,B1,B2,-,-,h1,-,-,-,-,-,h3,-⟩:=h
  rcases (h3 b o).1 hf with ⟨rfl,h4,-⟩ | h4
  ·rw [mH h1]
   exact ⟨_,Array.getElem?_eq_getElem h4⟩
  ·exact Wd h4
theorem nO {b o:Nat} (h : ∃ v,cellAt w b o=some v):b<w.heap.size:=by
 obtain ⟨v,h⟩:=h
 unfold cellAt World.cell? at h
 simp only at h
 split at h
 ·rename_i hb
  exact (Array.getElem?_eq_some_iff.1 hb).1
 ·cases h
theorem mZ.keep {ls:List Leaf} {h:Value} {F:aB} (e:gM κ g w I κ' g' w' I') (hr:mZ κ g w I ls h F) (hk:Keeps A w w') (hA : ∀ b o,F b o->A b o) :
  mZ κ' g' w' I' ls h F:=by
 obtain ⟨b,o,c,el,fz,h1,h2,h3,h4,h5,h6⟩:=hr
 obtain ⟨c',h7,h8,h9⟩:=hk.block h2
 refine ⟨b,o,c',el,fz,h1,h7,by omega,h4,h5,?_⟩
 have:(c'.toList.drop o).take ls.length=(c.toList.drop o).take ls.length:=by
  apply List.ext_getElem?
  intro i
  by_cases hi:i<ls.length
  ·rw [List.getElem?_take_of_lt hi,List.getElem?_take_of_lt hi,List.getElem?_drop,List.getElem?_drop,Array.getElem?_toList,Array.getElem?_toList]
   exact h9 _ (hA _ _ ((h5 b (o+i)).2 ⟨rfl,by omega,by omega⟩))
  ·rw [List.getElem?_eq_none (by simp; omega),List.getElem?_eq_none (by simp; omega)]
 rw [this]
 exact e.XQ h6
theorem Pe.keep {k:Key} {m j:Nat} {ls:List Leaf} {h:Value} {F:aB} (e:gM κ g w I κ' g' w' I') (hr:Pe κ g w I k m j ls h F) (hk:Keeps A w w') (hA : ∀ b o,F b o->A b o) :
  Pe κ' g' w' I' k m j ls h F:=by
 obtain ⟨⟨b,o,c,el,fz,h1,h2,h3,h4,h5,h6⟩,h7,h8⟩:=hr
 obtain ⟨c',h9,h10,h11⟩:=hk.block h2
 refine ⟨⟨b,o,c',el,fz,h1,h9,by omega,h4,h5,?_⟩,Nat.le_trans h7 (e.bQ _),fun hi=>?_⟩
 ·have:(c'.toList.drop (o+m)).take ls.length=(c.toList.drop (o+m)).take ls.length:=by
   apply List.ext_getElem?
   intro i
   by_cases hi:i<ls.length
   ·rw [List.getElem?_take_of_lt hi,List.getElem?_take_of_lt hi,List.getElem?_drop,List.getElem?_drop,Array.getElem?_toList,Array.getElem?_toList]
    exact h11 _ (hA _ _ ((h5 b (o+m+i)).2 ⟨rfl,by omega,by omega⟩))
   ·rw [List.getElem?_eq_none (by simp; omega),List.getElem?_eq_none (by simp; omega)]
  rw [this]
  exact e.XQ h6
 ·have h12:(κ (og k)).bQ=j:=by have:=e.bQ (og k); omega
  rw [(e.head _ (hi.trans h12.symm)).1]; exact h8 h12
theorem Pf.keep {k:Key} {es:List LT} {ms:List M} {rows:List (List T)} {r j:Nat} {h:Value} {F:aB} (e:gM κ g w I κ' g' w' I') (hr:Pf κ g w I k es ms rows r j h F) (hk:Keeps A w w') (hA : ∀ b o,F b o->A b o) :
  Pf κ' g' w' I' k es ms rows r j h F:=by
 obtain ⟨h0,h1,h2,b,cap,c,el,fz,B1,B2,h3,h4,h5,h6,h7,h8,h9,h10,h11,h12,h13⟩:=hr
 obtain ⟨c',hb,hsz,hcc⟩:=hk.block h5
 have hb1 : ∀ b∈B1++B2,∃ c el fz,Block w b c el fz:=fun x hx=>(List.mem_append.1 hx).elim (oQ (I:=I) (fun vs ds bs h=>au.blocks es h) _ h8 x) (oQ (I:=I) (fun vs ds bs h=>au.blocks es h) _ h9 x)
 have hcell : ∀ o,o<c.size->¬ (r * es.length<=o/\o<(r+1) * es.length)->c'[o]? = c[o]?:=fun o ho hn=>hcc o (hA _ _ ((h11 b o).2 (.inl ⟨rfl,ho,hn⟩)))
 have hF : ∀ x∈[B1,B2],∀ b o,FB w x b o->A b o:=fun x hx b o hf=>hA b o ((h11 b o).2 (.inr (tZ (fun y hy=>by
  rcases List.mem_cons.1 hx with rfl | hx
  ·simp [hy]
  ·rw [List.mem_singleton.1 hx] at hy; simp [hy]) b o hf)))
 have hm:(r+1) * es.length<=cap * es.length:=Nat.mul_le_mul_right _ (by omega)
 have hr1:(rows.take r).length=r:=by rw [List.length_take]; omega
 refine ⟨h0,h1,h2,b,cap,c',el,fz,B1,B2,h3,h4,hb,hsz.trans h6,by rw [hsz]; exact h7,?_,?_,qY hk (fun x hx=>by
  rcases List.mem_cons.1 hx with rfl | hx
  ·exact ⟨c,el,fz,h5⟩
  ·exact hb1 x hx) h10,fun b' o'=>?_,Nat.le_trans h12 (e.bQ _),fun hi=>?_⟩
 ·refine aN.cells (aN.imp (fun vs ds b' hb' h=>au.keep hk e.jP es (fun b o hf=>hF B1 (by simp) b o (tZ hb' b o hf)) h) h8) ?_
  rw [hr1]
  apply List.ext_getElem?
  intro i
  by_cases hi:i<r * es.length
  ·rw [List.getElem?_take_of_lt hi,List.getElem?_take_of_lt hi,Array.getElem?_toList,Array.getElem?_toList]
   exact hcell i (by rw [Nat.add_mul,Nat.one_mul] at hm; omega) (by omega)
  ·rw [List.getElem?_eq_none (by simp; omega),List.getElem?_eq_none (by simp; omega)]
 ·refine aN.cells (aN.imp (fun vs ds b' hb' h=>au.keep hk e.jP es (fun b o hf=>hF B2 (by simp) b o (tZ hb' b o hf)) h) h9) ?_
  congr 1
  apply List.ext_getElem?
  intro i
  rw [List.getElem?_drop,List.getElem?_drop,Array.getElem?_toList,Array.getElem?_toList]
  by_cases hi:(r+1) * es.length+i<c.size
  ·exact hcell _ hi (by omega)
  ·rw [Array.getElem?_eq_none (by omega),Array.getElem?_eq_none (by omega)]
 ·rw [h11,hsz,Fv hk hb1]
 ·have h14:(κ (jc k)).bQ=j:=by have:=e.bQ (jc k); omega
  rw [(e.head _ (hi.trans h14.symm)).1]; exact h13 h14
theorem Hf.keep {k:Key} {ch:Ch} (e:gM κ g w I κ' g' w' I') (hk:Keeps A w w') (hA:Live ch->∀ b o,g.F k b o->A b o) (h1:g'.h k=g.h k) (h2:g'.F k=g.F k)
  (h:Hf κ g w I k ch):Hf κ' g' w' I' k ch:=by
 cases ch with
 | gone=>trivial
 | fz es rows=>simp only [Hf] at h ⊢; rw [h1]; exact e.leaf h
 | box ls=>simp only [Hf] at h ⊢; rw [h1,h2]; exact h.keep e hk (hA trivial)
 | row es ms rows=>simp only [Hf] at h ⊢; rw [h1,h2]; exact h.keep hk (hA trivial) e.jP
 | K9 m j ls=>simp only [Hf] at h ⊢; rw [h1,h2]; exact h.keep e hk (hA trivial)
 | hol es ms rows r j=>simp only [Hf] at h ⊢; rw [h1,h2]; exact h.keep e hk (hA trivial)
end
section
variable {n:Fr} {σ:S} {g:Gh} {I:aB} {a:Act} {w w':World}
theorem Keeps.sK {w w':World} (h:Keeps (fun _ _=>True) w w') {b o:Nat} (hv : ∃ v,cellAt w b o=some v):cellAt w' b o=cellAt w b o:=h.cell trivial hv
theorem aiJ (hR:R n σ g I a w) (k:Key) (e:KE) (h:Value) (F:aB) (h1:(σ.k k).bQ<e.bQ) (h2:(σ.k k).cv<e.cv) (hk:Keeps (fun _ _=>True) w w') :
  gM σ.k g w I (σ.bK k e).k (g.set k h F) w' I where
 cv u:=by by_cases hu:u=k; subst hu; rw [aP]; omega; rw [aO _ _ hu]; exact Nat.le_refl _
 bQ u:=by by_cases hu:u=k; subst hu; rw [aP]; omega; rw [aO _ _ hu]; exact Nat.le_refl _
 foot u hc hl b o hf:=by
  by_cases hu:u=k
  ·subst hu; rw [aP] at hc; omega
  ·rw [aO _ _ hu,Gh.uZ _ _ _ hu]
   exact ⟨.inl ⟨hl,hf⟩,hk.sK (uI hR hl hf)⟩
 head u hc:=by
  by_cases hu:u=k
  ·subst hu; rw [aP] at hc; omega
  ·rw [aO _ _ hu,Gh.xS _ _ _ hu]
   exact ⟨rfl,rfl⟩
 jP b o h:=⟨h,hk.sK (hR.zu b o h)⟩
 dd b o h:=⟨h,hk.sK (hR.x.awf b o (hR.x.da b o h))⟩
theorem R.touch (hR:R n σ g I a w) {σ':S} {g':Gh} {I':aB} (T:Key->Prop) (Z:aB) (hs:σ'.s=σ.s) (hD:g'.D=g.D)
  (hsame : ∀ k,¬ T k->σ'.k k=σ.k k/\g'.h k=g.h k/\g'.F k=g.F k)
  (hT : ∀ k,T k->(σ.k k).cv<(σ'.k k).cv/\(σ.k k).bQ<=(σ'.k k).bQ/\((σ'.k k).bQ=(σ.k k).bQ->g'.h k=g.h k/\mW (σ'.k k).ch=mW (σ.k k).ch))
  (hpar : ∀ k,T k->gN n.np k->Live (σ'.k k).ch->g'.h k=n.H k)
  (hF : ∀ k,T k->Live (σ'.k k).ch->∀ b o,g'.F k b o->Z b o\/w.heap.size<=b)
  (hsep : ∀ k k',T k->T k'->Live (σ'.k k).ch->Live (σ'.k k').ch->k≠k'->aB.apart (g'.F k) (g'.F k'))
  (hZ : ∀ u,¬ T u->Live (σ.k u).ch->aB.apart (g.F u) Z) (hZI:aB.apart Z I) (hZA:aB.apart Z n.A)
  (hk:Keeps (fun b o=>¬ Z b o) w w')
  (hi1 : ∀ b o,I b o->I' b o) (hi2 : ∀ b o,I' b o->I b o\/Z b o\/w.heap.size<=b) (hi3 : ∀ k,T k->Live (σ'.k k).ch->aB.apart (g'.F k) I') (hi4 : ∀ b o,I' b o->∃ v,cellAt w' b o=some v)
  (hch:gM σ.k g w I σ'.k g' w' I'->∀ k,T k->Hf σ'.k g' w' I' k (σ'.k k).ch):R n σ' g' I' a w'/\gM σ.k g w I σ'.k g' w' I':=by
 have ev:gM σ.k g w I σ'.k g' w' I':=by
  refine ⟨fun k=>?_,fun k=>?_,fun k hc hl b o hf=>?_,fun k hc=>?_,fun b o h=>⟨hi1 b o h,hk.cell (fun hz=>hZI b o hz h) (hR.zu b o h)⟩,fun b o h=>⟨hD ▸ h,hk.cell (fun hz=>hZA b o hz (hR.x.da b o h)) (hR.x.awf b o (hR.x.da b o h))⟩⟩
  ·by_cases ht:T k
   ·exact Nat.le_of_lt (hT k ht).1
   ·rw [(hsame k ht).1]; exact Nat.le_refl _
  ·by_cases ht:T k
   ·exact (hT k ht).2.1
   ·rw [(hsame k ht).1]; exact Nat.le_refl _
  ·by_cases ht:T k
   ·have:=(hT k ht).1; omega
   ·rw [(hsame k ht).1,(hsame k ht).2.2]
    exact ⟨.inl ⟨hl,hf⟩,hk.cell (fun hz=>hZ k ht hl b o hf hz) (uI hR hl hf)⟩
  ·by_cases ht:T k
   ·exact (hT k ht).2.2 hc
   ·rw [(hsame k ht).1]; exact ⟨(hsame k ht).2.1,rfl⟩
 have hap : ∀ u,¬ T u->Live (σ.k u).ch->∀ k,T k->Live (σ'.k k).ch->∀ b o,g.F u b o->g'.F k b o->False:=fun u hu hl k hk' hlk b o hfu hf=>by
  rcases hF k hk' hlk b o hf with hh | hh
  ·exact hZ u hu hl b o hfu hh
  ·have:=nO (uI hR hl hfu); omega
 refine ⟨⟨hR.size,hR.nd,fun t=>by rw [hs]; exact ev.ent (hR.slots t),fun u=>?_,fun u v hu hv huv=>?_,fun u hu=>?_,hi4,hR.x.step (hk.weaken fun b o ha hz=>hZA b o hz ha) hD (fun u hu=>?_) (fun b o hi=>?_)⟩,ev⟩
 ·by_cases ht:T u
  ·exact hch ev u ht
  ·obtain ⟨h1,h2,h3⟩:=hsame u ht
   rw [h1]
   exact Hf.keep ev hk (fun hl b o hf hz=>hZ u ht hl b o hf hz) h2 h3 (hR.vI u)
 ·by_cases ht:T u
  ·by_cases hv':T v
   ·exact hsep u v ht hv' hu hv huv
   ·rw [(hsame v hv').1] at hv
    rw [(hsame v hv').2.2]
    exact fun b o h1 h2=>hap v hv' hv u ht hu b o h2 h1
  ·rw [(hsame u ht).1] at hu
   rw [(hsame u ht).2.2]
   by_cases hv':T v
   ·exact hap u ht hu v hv' hv
   ·rw [(hsame v hv').1] at hv
    rw [(hsame v hv').2.2]
    exact hR.sep u v hu hv huv
 ·by_cases ht:T u
  ·exact hi3 u ht hu
  ·rw [(hsame u ht).1] at hu
   rw [(hsame u ht).2.2]
   intro b o hf hi
   rcases hi2 b o hi with hi | hi | hi
   ·exact hR.jP u hu b o hf hi
   ·exact hZ u ht hu b o hf hi
   ·have:=nO (uI hR hu hf); omega
 ·by_cases ht:T u
  ·refine ⟨fun hp=>.inr (hpar u ht hp hu),fun b o hf ha=>?_⟩
   rcases hF u ht hu b o hf with hz | hz
   ·exact hZA b o hz ha
   ·have:=nO (hR.x.awf b o ha); omega
  ·rw [(hsame u ht).1] at hu
   rw [(hsame u ht).2.1,(hsame u ht).2.2]
   exact ⟨fun _=>.inl ⟨hu,rfl⟩,hR.x.wW u hu⟩
 ·rcases hi2 b o hi with hi | hi | hi
  ·exact .inl hi
  ·exact .inr fun ha=>hZA b o hi ha
  ·exact .inr fun ha=>by have:=nO (hR.x.awf b o ha); omega
theorem R.afD (hR:R n σ g I a w) (k:Key) (e:KE) (h:Value) (F:aB) (h1:(σ.k k).bQ<e.bQ) (h2:(σ.k k).cv<e.cv) (hk:Keeps (fun _ _=>True) w w')
  (hkp : ¬ gN n.np k) (hF : ∀ b o,F b o->w.heap.size<=b) (hch:Hf (σ.bK k e).k (g.set k h F) w' I k e.ch):R n (σ.bK k e) (g.set k h F) I a w':=by
 refine (hR.touch (σ':=σ.bK k e) (g':=g.set k h F) (I':=I) (w':=w') (fun u=>u=k) (fun _ _=>False) rfl rfl (fun u hu=>⟨aO _ _ hu,Gh.xS _ _ _ hu,Gh.uZ _ _ _ hu⟩) (fun u hu=>?_) (fun u hu hp=>?_) (fun u hu _ b o hf=>?_) (fun u v hu hv _ _ hne=>?_)
  (fun _ _ _ _ _ _ h=>h) (fun _ _ h _=>h) (fun _ _ h _=>h) (hk.weaken fun _ _ _=>trivial) (fun _ _ h=>h) (fun _ _ h=>.inl h) (fun u hu _ b o hf hi=>?_) (fun b o hi=>?_) (fun _ u hu=>?_)).1
 ·subst hu; rw [aP]; exact ⟨h2,Nat.le_of_lt h1,fun h=>by omega⟩
 ·subst hu; exact absurd hp hkp
 ·subst hu; rw [Gh.jR] at hf; exact .inr (hF b o hf)
 ·exact absurd (hu.trans hv.symm) hne
 ·subst hu; rw [Gh.jR] at hf
  have:=nO (hR.zu b o hi); have:=hF b o hf; omega
 ·obtain ⟨v,hv⟩:=hR.zu b o hi
  exact ⟨v,(hk.sK ⟨v,hv⟩).trans hv⟩
 ·subst hu; rw [aP]; exact hch
theorem R.world (hR:R n σ g I a w) (hk:Keeps (fun _ _=>True) w w'):R n σ g I a w':=by
 have ev:gM σ.k g w I σ.k g w' I:=⟨fun _=>Nat.le_refl _,fun _=>Nat.le_refl _,fun u _ hl b o hf=>⟨.inl ⟨hl,hf⟩,hk.sK (uI hR hl hf)⟩,fun _ _=>⟨rfl,rfl⟩,
  fun b o h=>⟨h,hk.sK (hR.zu b o h)⟩,fun b o h=>⟨h,hk.sK (hR.x.awf b o (hR.x.da b o h))⟩⟩
 refine ⟨hR.size,hR.nd,fun t=>ev.ent (hR.slots t),fun u=>Hf.keep ev hk (fun _ _ _ _=>trivial) rfl rfl (hR.vI u),hR.sep,hR.jP,fun b o hi=>?_,hR.x.step (hk.weaken fun _ _ _=>trivial) rfl (fun k h=>⟨fun _=>.inl ⟨h,rfl⟩,hR.x.wW k h⟩) (fun _ _ h=>.inl h)⟩
 obtain ⟨v,hv⟩:=hR.zu b o hi
 exact ⟨v,(hk.sK ⟨v,hv⟩).trans hv⟩
theorem uJ (w:World) (m:Nat):Keeps (fun _ _=>True) w { w with drawn:=m }:=⟨Nat.le_refl _,fun b x h=>⟨x,h,.refl _ _ _⟩,rfl,rfl,rfl⟩
def World.pushed (w:World) (o:Obj):World:={ w with heap:=w.heap.push o }
theorem qz (w:World) (o:Obj):Keeps (fun _ _=>True) w (World.pushed w o) :=
 ⟨by simp [World.pushed],fun b x h=>⟨x,by
  have hlt:=(Array.getElem?_eq_some_iff.1 h).1
  simp only [World.pushed,Array.getElem?_push_lt hlt]
  rw [<-h,Array.getElem?_eq_getElem hlt],.refl _ _ _⟩,rfl,rfl,rfl⟩
theorem u6 (w:World) (c:Array Value) (el:TypeId) (fz:Nat×Nat):Block (World.pushed w (.cells c el fz)) w.heap.size c el fz:=by
 unfold Block World.pushed
 simp only [Array.getElem?_push_size]
theorem uf {P:Program} {el:TypeId} {c:Array Value} : (newRow el c).run P w = .ok ⟨w.heap.size,0,none⟩ (World.pushed w (.cells c el)):=by
 simp only [newRow,newObj]
 rfl
end
end Go.E

namespace Go.E
open Go
section
variable {n:Fr} {σ:S} {g:Gh} {I:aB} {a:Act} {w w':World}
theorem R.freeze (hR:R n σ g I a w) {key:Key} {es:List LT} {ms:List M} {rows:List (List T)} (hc:(σ.k key).ch = .row es ms rows) :
  R n (σ.bK key { σ.k key with ch:=.fz es rows }) g (fun b o=>I b o\/g.F key b o) a w /\
  gM σ.k g w I (σ.bK key { σ.k key with ch:=.fz es rows }).k g w (fun b o=>I b o\/g.F key b o):=by
 have ev:gM σ.k g w I (σ.bK key { σ.k key with ch:=.fz es rows }).k g w (fun b o=>I b o\/g.F key b o):=by
  refine ⟨fun u=>?_,fun u=>?_,fun u hcv hl b o hf=>?_,fun u hid=>?_,fun b o h=>⟨.inl h,rfl⟩,fun b o h=>⟨h,rfl⟩⟩
  ·by_cases hu:u=key
   ·subst hu; rw [aP]; exact Nat.le_refl _
   ·rw [aO _ _ hu]; exact Nat.le_refl _
  ·by_cases hu:u=key
   ·subst hu; rw [aP]; exact Nat.le_refl _
   ·rw [aO _ _ hu]; exact Nat.le_refl _
  ·by_cases hu:u=key
   ·subst hu; exact ⟨.inr (.inr hf),rfl⟩
   ·rw [aO _ _ hu]; exact ⟨.inl ⟨hl,hf⟩,rfl⟩
  ·by_cases hu:u=key
   ·subst hu; rw [aP,hc]; exact ⟨rfl,rfl⟩
   ·rw [aO _ _ hu]; exact ⟨rfl,rfl⟩
 refine ⟨⟨hR.size,hR.nd,fun t=>ev.ent (hR.slots t),fun u=>?_,fun u v hu hv huv=>?_,fun u hu=>?_,fun b o hi=>?_,hR.x.step (Keeps.refl _ _) rfl (fun u hu=>?_) (fun b o hb=>?_)⟩,ev⟩
 ·by_cases Uj:u=key
  ·subst Uj
   rw [aP]
   have:=hR.vI u
   rw [hc] at this
   exact aV.leaf this (fun _ _ h=>.inl h) (fun _ _ h=>.inr h)
  ·rw [aO _ _ Uj]
   exact Hf.keep ev (Keeps.refl (fun _ _=>True) w) (fun _ _ _ _=>trivial) rfl rfl (hR.vI u)
 ·have hu':u≠key:=by rintro rfl; rw [aP] at hu; exact hu
  have hv':v≠key:=by rintro rfl; rw [aP] at hv; exact hv
  rw [aO _ _ hu'] at hu
  rw [aO _ _ hv'] at hv
  exact hR.sep u v hu hv huv
 ·have hu':u≠key:=by rintro rfl; rw [aP] at hu; exact hu
  rw [aO _ _ hu'] at hu
  intro b o hf hi
  rcases hi with hi | hi
  ·exact hR.jP u hu b o hf hi
  ·exact hR.sep u key hu (by rw [hc]; trivial) hu' b o hf hi
 ·rcases hi with hi | hi
  ·exact hR.zu b o hi
  ·exact uI hR (by rw [hc]; trivial) hi
 ·have hu':u≠key:=by rintro rfl; rw [aP] at hu; exact hu
  rw [aO _ _ hu'] at hu
  exact ⟨fun _=>.inl ⟨hu,rfl⟩,hR.x.wW u hu⟩
 ·exact hb.imp id fun hf ha=>hR.x.wW key (by rw [hc]; trivial) b o hf ha
variable {cf:FuncId->List Arg->R3 fV} {Q:S->Tr->Prop}
structure DF (n:Fr) (σ:S) (g:Gh) (I:aB) (Z:aB):Prop where
 live : ∀ u,Live (σ.k u).ch->aB.apart (g.F u) Z
 jP:aB.apart Z I
 wW:aB.apart Z n.A
theorem DF.none:DF n σ g I (fun _ _=>False):=⟨fun _ _ _ _ _ h=>h,fun _ _ h _=>h,fun _ _ h _=>h⟩
theorem DF.sub {Z Z':aB} (h:DF n σ g I Z) (hs : ∀ b o,Z' b o->Z b o):DF n σ g I Z' :=
 ⟨fun u hu b o h1 h2=>h.live u hu b o h1 (hs b o h2),fun b o h1 h2=>h.jP b o (hs b o h1) h2,fun b o h1 h2=>h.wW b o (hs b o h1) h2⟩
theorem DF.frz {Z:aB} (h:DF n σ g I Z) {key:Key} {es:List LT} {ms:List M} {rows:List (List T)} (hc:(σ.k key).ch = .row es ms rows):DF n (σ.bK key { σ.k key with ch:=.fz es rows }) g (fun b o=>I b o\/g.F key b o) Z:=by
 refine ⟨fun u hu=>?_,fun b o h1 h2=>?_,h.wW⟩
 ·by_cases Uj:u=key
  ·subst Uj; rw [aP] at hu; exact hu.elim
  ·rw [aO _ _ Uj] at hu; exact h.live u hu
 ·rcases h2 with h2 | h2
  ·exact h.jP b o h1 h2
  ·exact h.live key (by rw [hc]; trivial) b o h2 h1
theorem R.gone (hR:R n σ g I a w) (k:Key):R n (σ.bK k ⟨.gone,(σ.k k).bQ+1,(σ.k k).cv+1⟩) g I a w /\
  gM σ.k g w I (σ.bK k ⟨.gone,(σ.k k).bQ+1,(σ.k k).cv+1⟩).k g w I:=by
 have nl : ¬ Live ((σ.bK k ⟨.gone,(σ.k k).bQ+1,(σ.k k).cv+1⟩).k k).ch:=by rw [aP]; exact id
 refine hR.touch (σ':=σ.bK k ⟨.gone,(σ.k k).bQ+1,(σ.k k).cv+1⟩) (g':=g) (I':=I) (w':=w) (fun u=>u=k) (fun _ _=>False) rfl rfl (fun u hu=>⟨aO _ _ hu,rfl,rfl⟩) (fun u hu=>?_) (fun u hu _ hl=>?_) (fun u hu hl=>?_) (fun u v hu _ hl=>?_)
  (fun _ _ _ _ _ _ h=>h) (fun _ _ h _=>h) (fun _ _ h _=>h) (Keeps.refl _ _) (fun _ _ h=>h) (fun _ _ h=>.inl h) (fun u hu hl=>?_) hR.zu (fun _ u hu=>?_)
 ·subst hu; rw [aP]; exact ⟨Nat.lt_succ_self _,Nat.le_succ _,fun h=>by have h:(σ.k u).bQ+1=(σ.k u).bQ:=h; omega⟩
 ·subst hu; exact (nl hl).elim
 ·subst hu; exact (nl hl).elim
 ·subst hu; exact (nl hl).elim
 ·subst hu; exact (nl hl).elim
 ·subst hu; rw [aP]; trivial
theorem DF.gone (hR:R n σ g I a w) {Z:aB} (h:DF n σ g I Z) {key:Key} (hl:Live (σ.k key).ch):DF n (σ.bK key ⟨.gone,(σ.k key).bQ+1,(σ.k key).cv+1⟩) g I (fun b o=>Z b o\/g.F key b o):=by
 refine ⟨fun u hu=>?_,fun b o h1 h2=>?_,fun b o h1 h2=>?_⟩
 ·by_cases Uj:u=key
  ·subst Uj; rw [aP] at hu; exact hu.elim
  ·rw [aO _ _ Uj] at hu
   exact fun b o h1 h2=>h2.elim (h.live u hu b o h1) (hR.sep u key hu hl Uj b o h1)
 ·exact h1.elim (fun h1=>h.jP b o h1 h2) fun h1=>hR.jP key hl b o h1 h2
 ·exact h1.elim (fun h1=>h.wW b o h1 h2) fun h1=>hR.x.wW key hl b o h1 h2
theorem Gm : ∀ {es:List LT} {ms:List M} {ls:List Leaf} {vs:List Value} {σ:S} {I Z:aB} {k:List T->Prog} {tr:Tr},R n σ g I a w->DF n σ g I Z->cu σ.k g w I ls vs ->
  (xL es ms ls k).wp cf σ tr Q->∃ σ' I' dI ds bs,R n σ' g I' a w/\gM σ.k g w I σ'.k g w I'/\au w I' es ms vs ds bs/\fP w bs/\DF n σ' g I' (fun b o=>Z b o\/FB w bs b o)/\aB.apart Z (FB w bs)/\σ'.s=σ.s /\
   (k ds).wp cf σ' dI Q
 | [],ms,[],[],σ,I,Z,k,tr,hR,hZ,hl,h=>⟨σ,I,tr,[],[],hR,gM.refl,by unfold au; exact ⟨rfl,rfl,rfl⟩,by unfold fP; trivial,hZ.sub (fun b o h=>h.elim id fun h=>(nomatch h.1)),(fun b o _ h=>(nomatch h.1)),rfl,h⟩
 | [],_,[],_::_,σ,I,Z,k,tr,hR,hZ,hl,h=>hl.elim
 | [],_,_::_,vs,σ,I,Z,k,tr,hR,hZ,hl,h=>h.elim
 | _::_,_,[],vs,σ,I,Z,k,tr,hR,hZ,hl,h=>h.elim
 | e::es,_,l::ls,[],σ,I,Z,k,tr,hR,hZ,hl,h=>hl.elim
 | e::es,ms,l::ls,v::vs,σ,I,Z,k,tr,hR,hZ,hl,h=>by
  obtain ⟨st,lt,d⟩:=l
  have step : ∀ (d:T) (b1:List Nat) (σ₁:S) (I₁:aB) (ajT:Tr),R n σ₁ g I₁ a w->gM σ.k g w I σ₁.k g w I₁->σ₁.s=σ.s->bU w I₁ e (ms.headD .F) v d b1->fP w b1->DF n σ₁ g I₁ (fun b o=>Z b o\/FB w b1 b o)->aB.apart Z (FB w b1) ->
    (xL es ms.tail ls fun ds=>k (d::ds)).wp cf σ₁ ajT Q ->
    ∃ σ' I' dI ds bs,R n σ' g I' a w/\gM σ.k g w I σ'.k g w I'/\au w I' (e::es) ms (v::vs) ds bs/\fP w bs/\DF n σ' g I' (fun b o=>Z b o\/FB w bs b o)/\aB.apart Z (FB w bs)/\σ'.s=σ.s/\(k ds).wp cf σ' dI Q:=by
   intro d b1 σ₁ I₁ ajT an6 ev hs hc hn hz hza h
   obtain ⟨σ',I',dI,ds,b2,h1,h2,h3,h4,h5,h6,h7,h8⟩:=Gm an6 hz (ev.XQ hl.2) h
   refine ⟨σ',I',dI,d::ds,b1++b2,h1,ev.trans h2,?_,kY.2 ⟨hn,h4,wY.1 fun b o h9 h10=>h6 b o (.inr h9) h10⟩,h5.sub fun b o h9=>?_,fun b o h9 h10=>?_,h7.trans hs,h8⟩
   ·unfold au
    exact ⟨v,vs,d,ds,b1,b2,rfl,rfl,rfl,bU.same (fun b o hb=>(h2.jP b o hb).1) hc,h3⟩
   ·rw [ni] at h9
    rcases h9 with h9 | h9 | h9
    ·exact .inl (.inl h9)
    ·exact .inl (.inr h9)
    ·exact .inr h9
   ·rcases ni.1 h10 with h10 | h10
    ·exact hza b o h9 h10
    ·exact h6 b o (.inl h9) h10
  have hzn : ∀ {σ₁:S} {I₁:aB},DF n σ₁ g I₁ Z->DF n σ₁ g I₁ (fun b o=>Z b o\/FB w [] b o):=fun hz=>hz.sub fun b o h=>h.elim id fun h=>(nomatch h.1)
  have afE:aB.apart Z (FB w []):=fun b o _ h=>(nomatch h.1)
  obtain ⟨hs,hl1⟩:=hl.1
  unfold xL at h
  simp only at h hl1
  split at h
  ·rename_i s s' _ _ _
   split at h
   ·rename_i hss
    subst hss
    obtain ⟨s',e1,hv⟩:=hl1
    cases e1
    exact step d [] σ I tr hR gM.refl rfl (by unfold bU; exact ⟨hv,rfl⟩) trivial (hzn hZ) afE h
   ·exact h.elim
  ·obtain ⟨-,rfl,-⟩:=hl1
   rename_i es'
   have hnil:aJ w I (.sl es') (.slice none 0 0) (.l []):=by unfold aJ; exact ⟨none,0,[],rfl,rfl,Nat.le_refl _,Nat.zero_le _,.inl rfl⟩
   obtain ⟨hne,h⟩:=h
   refine step (.l []) [] σ I tr hR gM.refl rfl ?_ trivial (hzn hZ) afE h
   cases hm:ms.headD .F with
   | F=>unfold bU; exact ⟨hnil,rfl⟩
   | O x =>
    rw [hm] at hne
    unfold bU
    exact ⟨[],rfl,by intro e; subst e; simp at hne,Nat.zero_le _,.inl ⟨⟨_,rfl⟩,rfl,rfl⟩⟩
  ·rename_i es'
   cases hm:ms.headD .F with
   | O x=>rw [hm] at h; exact h.elim
   | F =>
    rw [hm] at h
    simp only at h
    cases hb:LT.beq (.sl es') lt with
    | false=>rw [hb] at h; exact h.elim
    | true =>
     rw [hb] at h
     have hlt:=LT.beq_eq hb
     subst hlt
     obtain ⟨-,-,h1⟩:=hl1
     have h2:=h1 (JD _)
     refine step d [] σ I tr hR gM.refl rfl ?_ trivial (hzn hZ) afE h
     rw [hm]; unfold bU
     exact ⟨aJ.mono (fun b o hb=>hb.elim id (fun ⟨d,hd,_⟩=>(nomatch hd))) (fun _ _ _=>rfl) _ h2,rfl⟩
  ·rename_i es' key m
   obtain ⟨-,h1,h2⟩:=hl1
   obtain ⟨h3,h⟩:=h
   have hv:=h2 (Nat.eq_of_beq_eq_true h3)
   subst hv
   have hch:=hR.vI key
   split at h
   ·rename_i es'' rows e1
    rw [e1] at hch
    cases hm:ms.headD .F with
    | O x=>rw [hm] at h; exact h.elim
    | F =>
     rw [hm] at h
     simp only at h
     cases hb:LT.eH es' es'' with
     | false=>rw [hb] at h; exact h.elim
     | true =>
      rw [hb] at h
      have:=LT.bP hb
      subst this
      refine step (.l rows) [] σ I _ hR gM.refl rfl ?_ trivial (hzn hZ) afE h
      rw [hm]; unfold bU
      exact ⟨hch,rfl⟩
   ·rename_i es'' alr rows e1
    rw [e1] at hch
    cases hm:ms.headD .F with
    | F =>
     rw [hm] at h
     simp only at h
     cases hb:LT.eH es' es'' with
     | false=>rw [hb] at h; exact h.elim
     | true =>
      rw [hb] at h
      have:=LT.bP hb
      subst this
      obtain ⟨h4,h5⟩:=hR.freeze e1
      refine step (.l rows) [] _ _ _ h4 h5 rfl ?_ trivial (hzn (hZ.frz e1)) afE h
      rw [hm]; unfold bU
      exact ⟨aV.leaf hch (fun _ _ h=>.inl h) (fun _ _ h=>.inr h),rfl⟩
    | O ms' =>
     rw [hm] at h
     simp only at h
     cases hb:(LT.eH es' es''&&M.eH ms' alr) with
     | false=>rw [hb] at h; exact h.elim
     | true =>
      rw [hb] at h
      simp only [Bool.and_eq_true] at hb
      have:=LT.bP hb.1
      subst this
      have:=M.bP hb.2
      subst this
      obtain ⟨h4,h5⟩:=hR.gone key
      obtain ⟨bs,hn,hc,hF⟩:=hch
      have hlive:Live (σ.k key).ch:=by rw [e1]; trivial
      refine step (.l rows) bs _ _ _ h4 h5 rfl (by rw [hm]; exact hc) hn ((hZ.gone hR hlive).sub fun b o h=>h.imp id fun h=>(hF b o).2 h) (fun b o h9 h10=>hZ.live key hlive b o ((hF b o).2 h10) h9) h
   ·exact h.elim
  ·exact h.elim
end
end Go.E

namespace Go.E
open Go
section
variable {w:World} {I S A:aB}
def dR (w:World) (I:aB) (es:List LT):List (List T)->List Value->Prop
 | [],_=>True
 | r::rs,cs=>aW w I es (cs.take es.length) r/\dR w I es rs (cs.drop es.length)
theorem dR.row {b:Nat} {c:Array Value} {el:TypeId} {fz:Nat×Nat} {es:List LT} (hb:Block w b c el fz) : ∀ (rows:List (List T)) (k:Nat),dR w I es rows (c.toList.drop k)->k+rows.length * es.length<=c.size ->
  ∀ i (hi:i<rows.length),dK w (fun _ _=>True) I es b (k+i * es.length) rows[i]
 | [],_,_,_,i,hi=>by simp at hi
 | r::rs,k,h,hn,i,hi=>by
  have hn':k+es.length+rs.length * es.length<=c.size:=by simp only [List.length_cons,Nat.add_mul] at hn; omega
  cases i with
  | zero =>
   refine dK.acn (vs:=(c.toList.drop k).take es.length) (by simpa using h.1) (bO.of_block hb _ _ fun j hj=>?_)
   simp only [List.length_take,List.length_drop,Array.length_toList] at hj
   simp only [List.getElem_take,List.getElem_drop,Array.getElem_toList,Nat.zero_mul,Nat.add_zero]
   exact Array.getElem?_eq_getElem (by omega)
  | succ i =>
   have h2:=h.2
   rw [List.drop_drop] at h2
   have:=dR.row hb rs (k+es.length) h2 hn' i (by simpa using hi)
   rw [show k+(i+1) * es.length=k+es.length+i * es.length from by rw [Nat.add_mul]; omega]
   simpa using this
theorem dR.mono {w w':World} {I I':aB} (h : ∀ b o,I b o->I' b o/\cellAt w' b o=cellAt w b o) {es:List LT} : ∀ {rows:List (List T)} {cs:List Value},dR w I es rows cs->dR w' I' es rows cs
 | [],_,_=>trivial
 | _::_,_,hh=>⟨hh.1.mono h,dR.mono h hh.2⟩
theorem dR.toM {es:List LT} {ms:List M} (hm:noO ms) : ∀ {rows:List (List T)} {cs:List Value},dR w I es rows cs->aN (fun vs ds bs=>au w I es ms vs ds bs) es.length rows cs []
 | [],cs,_=>rfl
 | r::rs,cs,h=>⟨[],[],rfl,au.of_flat hm h.1,dR.toM hm h.2⟩
theorem aN.toV {es:List LT} {ms:List M} {S:aB} (hs : ∀ b o,I b o->S b o) : ∀ {rows:List (List T)} {cs:List Value} {bs:List Nat},(∀ b o,FB w bs b o->S b o)->aN (fun vs ds bs=>au w I es ms vs ds bs) es.length rows cs bs->dR w S es rows cs
 | [],cs,bs,_,_=>trivial
 | r::rs,cs,bs,hb,h=>by
  obtain ⟨b1,b2,rfl,h1,h2⟩:=h
  exact ⟨au.leaves hs es (fun b o h=>hb b o (ni.2 (.inl h))) h1,aN.toV hs (fun b o h=>hb b o (ni.2 (.inr h))) h2⟩
theorem dR.app {es:List LT} : ∀ {rows rows':List (List T)} {cs cs':List Value},dR w I es rows cs->cs.length=rows.length * es.length->dR w I es rows' cs'->dR w I es (rows++rows') (cs++cs')
 | [],rows',cs,cs',h,hn,h'=>by
  have:cs=[]:=List.length_eq_zero_iff.1 (by simpa using hn)
  subst this; exact h'
 | r::rs,rows',cs,cs',h,hn,h'=>by
  simp only [List.length_cons,Nat.add_mul,Nat.one_mul] at hn
  have hle:es.length<=cs.length:=by omega
  refine ⟨?_,?_⟩
  ·rw [List.take_append_of_le_length hle]; exact h.1
  ·rw [List.drop_append_of_le_length hle]
   exact dR.app h.2 (by rw [List.length_drop]; omega) h'
theorem dR.tail {es:List LT} : ∀ {rows:List (List T)} {cs cs':List Value},dR w I es rows cs->dR w I es rows (cs++cs')
 | [],cs,cs',h=>trivial
 | r::rs,cs,cs',h=>by
  have hlen:=h.1.len.1
  have hle:es.length<=cs.length:=by rw [List.length_take] at hlen; omega
  refine ⟨?_,?_⟩
  ·rw [List.take_append_of_le_length hle]; exact h.1
  ·rw [List.drop_append_of_le_length hle]; exact dR.tail h.2
end
section
variable {Γ:Ctx} {P:Program} {cf:FuncId->List Arg->R3 fV}
variable {n:Fr} {σ:S} {g:Gh} {I:aB} {a:Act} {w w':World}
variable {o:Oper} {f:FuncId} {tr:Tr} {Q:S->Tr->Prop} {K:Act->World->Prop} {Qm:Exit->Act->World->Prop}
theorem acr {d0:Nat} {c:Array Value} {el:TypeId} {ls:List Leaf} (hdst:o.dst=some d0) (hd:dM n.np n.nt o=true) (hR:R n σ g I a w) (hK:Post P n I w Q K)
  (hrun:(execOp a.eval o).run P w = .ok (.value (.pointer (some ⟨w.heap.size,0,none⟩))) (World.pushed w (.cells c el))) (hl:cu σ.k g w I ls c.toList)
  (h:(afm d0 ls).wp cf σ tr Q):Goal P o a w K Qm:=by
 refine zw hrun ?_
 rw [hdst]
 obtain ⟨hdn,hkp⟩:=Fu hd hdst
 let F:aB:=fun b o'=>b=w.heap.size/\o'<c.size
 have hk:=qz w (.cells c el)
 have ev:=aiJ hR [d0+2000000] ⟨.box ls,(σ.k [d0+2000000]).bQ+1,(σ.k [d0+2000000]).cv+1⟩ (.pointer (some ⟨w.heap.size,0,none⟩)) F (by simp) (by simp) hk
 have hlen:=hl.len
 have afF:mZ (σ.bK [d0+2000000] ⟨.box ls,(σ.k [d0+2000000]).bQ+1,(σ.k [d0+2000000]).cv+1⟩).k (g.set [d0+2000000] (.pointer (some ⟨w.heap.size,0,none⟩)) F) (World.pushed w (.cells c el)) I ls (.pointer (some ⟨w.heap.size,0,none⟩)) F:=by
  refine ⟨w.heap.size,0,c,el,(0,0),rfl,u6 w c el (0,0),by simp at hlen; omega,fun j hj=>by omega,fun b' o'=>?_,?_⟩
  ·simp only [F,Nat.zero_le,true_and,Nat.zero_add]
   simp at hlen
   rw [hlen]
  ·rw [List.drop_zero,<-hlen,List.take_length]
   exact ev.XQ hl
 have hR':=hR.afD [d0+2000000] ⟨.box ls,(σ.k [d0+2000000]).bQ+1,(σ.k [d0+2000000]).cv+1⟩ (.pointer (some ⟨w.heap.size,0,none⟩)) F (by simp) (by simp) hk (hkp n.big _) (fun b o' hf=>by rw [hf.1]; exact Nat.le_refl _)
  (by simp only [Hf,Gh.oz,Gh.jR]; exact afF)
 refine hK _ _ _ I _ _ h (hR'.put hdn (e:=.ptr [d0+2000000] ((σ.k [d0+2000000]).bQ+1) 0 0) ⟨⟨fun _ h=>(nomatch h),fun _ h=>(nomatch h)⟩,?_,fun _=>⟨w.heap.size,0,rfl,?_⟩⟩) (fun _ _ h=>h) (hk.weaken fun _ _ _=>trivial)
 ·rw [aP]; exact Nat.le_refl _
 ·rw [Gh.oz]; rfl
theorem Pv {d0:Nat} {c:Array Value} {el:TypeId} {fz:Nat×Nat} {es:List LT} {ms:List M} {rows:List (List T)} {b cap:Nat} {bs:List Nat} {p:Prog} {Q:S->Tr->Prop} (hdst:o.dst=some d0) (hd:dM n.np n.nt o=true) (hR:R n σ g I a w) (hK:Post P n I w Q K)
  (hk:Keeps (fun _ _=>True) w w') (hb:w.heap.size<=b) (hblk:Block w' b c el fz) (hfz : ∀ o',o'<=c.size->¬ (fz.1<=o'/\o'<fz.2))
  (hrun:(execOp a.eval o).run P w = .ok (.value (.slice (some ⟨b,0,none⟩) rows.length cap)) w') (hes:es≠[]) (h1:rows.length<=bG) (h2:rows.length<=cap)
  (h4:c.size=cap * es.length) (hn:fP w bs) (hz:DF n σ g I (FB w bs)) (hrows:aN (fun vs ds bs=>au w I es ms vs ds bs) es.length rows c.toList bs) (h:(Mq d0 es ms rows).wp cf σ tr Q):Goal P o a w K Qm:=by
 refine zw hrun ?_
 rw [hdst]
 obtain ⟨hdn,hkp⟩:=Fu hd hdst
 have hbs : ∀ x∈bs,∃ c el fz,Block w x c el fz:=oQ (I:=I) (fun vs ds bs h=>au.blocks es h) _ hrows
 have hlt : ∀ x∈bs,x<w.heap.size:=fun x hx=>by
  obtain ⟨c,el,fz,h⟩:=hbs x hx
  exact (Array.getElem?_eq_some_iff.1 h).1
 let F:aB:=fun b' o'=>(b'=b/\o'<c.size)\/FB w bs b' o'
 let e:KE:=⟨.row es ms rows,(σ.k [d0+2000000]).bQ+1,(σ.k [d0+2000000]).cv+1⟩
 have hiI : ∀ b o,I b o->I b o/\cellAt w' b o=cellAt w b o:=fun b o hi=>⟨hi,hk.sK (hR.zu b o hi)⟩
 have hrow:aV w' I es ms rows (.slice (some ⟨b,0,none⟩) rows.length cap) F:=by
  refine aV.mk' hes h1 h2 hblk h4 hfz (aN.imp (fun vs ds b' _ h=>au.keep hk hiI es (fun _ _ _=>trivial) h) hrows) ⟨fun hm=>?_,qY hk hbs hn⟩ (fun b' o'=>?_)
  ·have:=hlt b hm; omega
  ·rw [Fv hk hbs]
 obtain ⟨hR',-⟩:=hR.touch (σ':=σ.bK [d0+2000000] e) (g':=g.set [d0+2000000] (.slice (some ⟨b,0,none⟩) rows.length cap) F) (I':=I) (w':=w') (fun u=>u=[d0+2000000]) (FB w bs) rfl rfl
  (fun u hu=>⟨aO _ _ hu,Gh.xS _ _ _ hu,Gh.uZ _ _ _ hu⟩) (fun u hu=>by subst hu; rw [aP]; exact ⟨Nat.lt_succ_self _,Nat.le_succ _,fun h=>by have h:(σ.k [d0+2000000]).bQ+1=(σ.k [d0+2000000]).bQ:=h; omega⟩)
  (fun u hu hp=>by subst hu; exact absurd hp (hkp n.big _)) (fun u hu _ b' o' hf=>by subst hu; rw [Gh.jR] at hf; exact hf.elim (fun h=>.inr (by rw [h.1]; exact hb)) .inl)
  (fun u v hu hv _ _ hne=>absurd (hu.trans hv.symm) hne) (fun u _ hl=>hz.live u hl) hz.jP hz.wW (hk.weaken fun _ _ _=>trivial) (fun _ _ h=>h) (fun _ _ h=>.inl h)
  (fun u hu _ b' o' hf hi=>by
   subst hu; rw [Gh.jR] at hf
   rcases hf with hf | hf
   ·have:=nO (hR.zu b' o' hi); rw [hf.1] at this; omega
   ·exact hz.jP b' o' hf hi)
  (fun b' o' hi=>by obtain ⟨v,hv⟩:=hR.zu b' o' hi; exact ⟨v,(hk.sK ⟨v,hv⟩).trans hv⟩)
  (fun _ u hu=>by subst hu; rw [aP]; simp only [e,Hf,Gh.oz,Gh.jR]; exact hrow)
 refine hK _ _ _ I _ _ h (hR'.put hdn (e:=.one ⟨.al [d0+2000000] ((σ.k [d0+2000000]).bQ+1),.sl es,.l []⟩) ⟨⟨fun _ h=>(nomatch h),fun _ h=>(nomatch h)⟩,trivial,?_,fun _=>?_⟩) (fun _ _ h=>h) (hk.weaken fun _ _ _=>trivial)
 ·rw [aP]; exact Nat.le_refl _
 ·rw [Gh.oz]
theorem Fx {κ:Key->KE} : ∀ {aR:List LT} {vs:List Value},Fq aR vs->cu κ g w I (aR.map Jj) vs
 | [],[],_=>trivial
 | lt::aR,v::vs,h=>by
  refine ⟨?_,Fx h.2⟩
  have h1:=h.1
  cases lt with
  | sl es=>cases h1; exact ⟨⟨fun _ h=>(nomatch h),fun _ h=>(nomatch h)⟩,trivial,rfl,rfl⟩
  | sc s =>
   cases s with
   | int k=>cases h1; exact ⟨⟨fun _ h=>(nomatch h),fun _ h=>(nomatch h)⟩,.int k,rfl,0,rfl,rfl,JB k⟩
   | bool=>cases h1; exact ⟨⟨fun _ h=>(nomatch h),fun _ h=>(nomatch h)⟩,.bool,rfl,false,rfl,rfl⟩
   | str=>cases h1; exact ⟨⟨fun _ h=>(nomatch h),fun _ h=>(nomatch h)⟩,.str,rfl,.empty,rfl,rfl,by decide⟩
   | any=>exact ⟨h1,trivial⟩
 | [],_::_,h=>h.elim
 | _::_,[],h=>h.elim
theorem Mx : ∀ {aR:List LT} {vs:List Value},Fq aR vs->aR.all (fun l=>match l with | .sc .any=>false | _=>true)=true->aW w I aR vs (aR.map E8)
 | [],[],_,_=>trivial
 | lt::aR,v::vs,h,ha=>by
  simp only [List.all_cons,Bool.and_eq_true] at ha
  refine ⟨?_,Mx h.2 ha.2⟩
  have h1:=h.1
  unfold aJ
  cases lt with
  | sl es=>cases h1; exact ⟨none,0,[],rfl,rfl,Nat.le_refl _,Nat.zero_le _,.inl rfl⟩
  | sc s =>
   cases s with
   | int k=>cases h1; exact ⟨0,rfl,rfl,JB k⟩
   | bool=>cases h1; exact ⟨false,rfl,rfl⟩
   | str=>cases h1; exact ⟨.empty,rfl,rfl,by decide⟩
   | any=>simp at ha
 | [],_::_,h,_=>h.elim
 | _::_,[],h,_=>h.elim
theorem sM {t:TypeId} {ti:TI} (h:vQ Γ P t ti) : ∃ z,(zeroValue t).run P w = .ok z w/\Fq ti.aR z.cells.toList:=by
 obtain ⟨i,h1,-,-,-,-,z,hz,h2⟩:=h.info
 exact ⟨z,by simp [zeroValue,typeInfo,h1,hz,go_sem],h2⟩
theorem JH {κ:Key->KE} {e:fC} {v:Value} {ls:List Leaf} (he:jY κ g w I e v) (h:Cw e=some ls):cu κ g w I ls v.cells.toList:=by
 cases e with
 | one l =>
  cases h
  have h1:ER κ g w I l v:=he
  rw [h1.1.cells]
  exact ⟨h1,trivial⟩
 | agg ls' =>
  cases h
  obtain ⟨cs,rfl,h1⟩:=he
  exact h1
 | _=>cases h
end
end Go.E

