/- A part of the proof: texts ECore, EMin, ERel, EBase, EOps1, EOps2, EOps3, EOps4, EOwn, EOps5, EOps6, EOps7, EOps8, EMem, EOps9, EOps10: see the last part's opening words. -/
import Derived.Orders
import Derived.Tactics
import Derived.Laws.StructEq
import Derived.Laws.BytesString
set_option linter.unusedVariables false
set_option linter.unusedSimpArgs false
set_option linter.unnecessarySimpa false
namespace Go.E
inductive ST where
 | int (k:IntKind) | bool | str | any
 deriving DecidableEq,Repr,Inhabited
inductive LT where
 | sc (s:ST) | sl (es:List LT)
 deriving Repr,Inhabited
inductive T where
 | i (n:Int) | b (x:Bool) | s (x:ByteArray) | l (rows:List (List T)) | x (v:Value)
 deriving Inhabited
def T.int:T->Int | .i n=>n | _=>0
def T.bool:T->Bool | .b y=>y | _=>false
def T.str:T->ByteArray | .s y=>y | _=>.empty
def T.rows:T->List (List T) | .l r=>r | _=>[]
mutual
def LT.beq:LT->LT->Bool
 | .sc a,.sc b=>decide (a=b)
 | .sl a,.sl b=>LT.dS a b
 | _,_=>false
def LT.dS:List LT->List LT->Bool
 | [],[]=>true
 | a::as,b::bs=>LT.beq a b&&LT.dS as bs
 | _,_=>false
end
abbrev Key:=List Nat
def dH:Key->Key->Bool
 | [],[]=>true
 | a::as,b::bs=>Nat.beq a b&&dH as bs
 | _,_=>false
def uo:Key:=[4000000]
inductive M where
 | F | O (ms:List M)
 deriving Inhabited,Repr
mutual
def M.beq:M->M->Bool
 | .F,.F=>true
 | .O a,.O b=>M.dS a b
 | _,_=>false
def M.dS:List M->List M->Bool
 | [],[]=>true
 | a::az,b::bs=>M.beq a b&&M.dS az bs
 | _,_=>false
end
mutual
def M.Sw:M->M->Bool
 | _,.F=>true
 | .O a,.O b=>M.vw a b
 | .F,.O _=>false
def M.vw:List M->List M->Bool
 | [],[]=>true
 | a::az,b::bs=>M.Sw a b&&M.vw az bs
 | _,_=>false
end
abbrev EN:=Key×Nat
inductive St where
 | sc | nl | sn (deps:List EN) | sb (k:Key) (n cv r off:Nat) | al (k:Key) (n:Nat) | dead
 deriving Inhabited,Repr
structure Leaf where
 st:St
 lt:LT
 d:T
 deriving Inhabited
inductive eU where
 | one (l:Leaf) | agg (ls:List Leaf) | Sy (es:List eU)
 | ptr (k:Key) (n i off:Nat)
 | rp (deps:List EN) (aR:List LT) (row:List T)
 | fn (f:FuncId) (caps:List eU)
 | und | junk
 deriving Inhabited
inductive Ch where
 | box (ls:List Leaf) | row (es:List LT) (ms:List M) (rows:List (List T)) | fz (es:List LT) (rows:List (List T)) | gone
 | Ib (m j:Nat) (ls:List Leaf)
 | hol (es:List LT) (ms:List M) (rows:List (List T)) (r j:Nat)
 deriving Inhabited
structure KE where
 ch:Ch
 bK:Nat
 cv:Nat
 deriving Inhabited
structure S where
 s:Nat->eU
 k:Key->KE
inductive R3 (α:Type) where
 | ok (a:α) | out | bad
 deriving Inhabited
inductive AL where
 | sc (s:ST) (d:T) | fz (es:List LT) (rows:List (List T)) | own (es:List LT) (ms:List M) (rows:List (List T)) | nl (es:List LT)
 | dz (es:List LT) (rows:List (List T))
 deriving Inhabited
inductive Arg where
 | one (l:AL) | agg (ls:List AL)
 | Ky (aR:List LT) (row:List T)
 | bx (ls:List AL)
 | fn (f:FuncId) (caps:List Arg)
 deriving Inhabited
inductive RL where
 | sc (s:ST) (d:T) | fz (es:List LT) (rows:List (List T)) | own (k:Key) (es:List LT) (ms:List M) (rows:List (List T)) | nl (es:List LT)
 | par (i j:Nat) | dz (es:List LT) (rows:List (List T))
 deriving Inhabited
inductive RE where
 | one (l:RL) | agg (ls:List RL)
 | bx (k:Key) (ls:List RL)
 | none
 deriving Inhabited
structure gD where
 rs:List RE
 owns:List (List (Option (List LT×List M×List (List T))))
 bxs:List (Option (List RL))
 deriving Inhabited
inductive Prog where
 | ret | fail | out
 | gu (c:Bool) (p:Prog)
 | lim (c:Bool) (p:Prog)
 | br (c:Bool) (p q:Prog)
 | Cz (t:Nat) (k:eU->Prog)
 | lg (t:Nat) (e:eU) (p:Prog)
 | eX (k:Key) (c:KE->Prog)
 | bq (k:Key) (e:KE) (p:Prog)
 | call (f:FuncId) (args:List Arg) (k:gD->Prog)
structure Tr where
 rs:List Nat:=[]
 ws:List Nat:=[]
 rk:List Key:=[]
 wk:List Key:=[]
 deriving Inhabited
def S.lg (σ:S) (t:Nat) (e:eU):S:={ σ with s:=fun u=>cond (Nat.beq u t) e (σ.s u) }
def S.bq (σ:S) (k:Key) (e:KE):S:={ σ with k:=fun u=>cond (dH u k) e (σ.k u) }
def R3.bind {α β:Type} (r:R3 α) (k:α->R3 β):R3 β:=match r with | .ok a=>k a | _=>.bad
variable (cf:FuncId->List Arg->R3 gD)
def Prog.run {α:Type} : Prog->S->Tr->(S->Tr->R3 α)->R3 α
 | .ret,σ,tr,K=>K σ tr
 | .fail,_,_,_=>.bad
 | .out,_,_,_=>.bad
 | .gu c p,σ,tr,K=>cond c (p.run σ tr K) .bad
 | .lim _ p,σ,tr,K=>p.run σ tr K
 | .br c p q,σ,tr,K=>cond c (p.run σ tr K) (q.run σ tr K)
 | .Cz t k,σ,tr,K=>(k (σ.s t)).run σ { tr with rs:=t::tr.rs } K
 | .lg t e p,σ,tr,K=>p.run (σ.lg t e) { tr with ws:=t::tr.ws } K
 | .eX k c,σ,tr,K=>(c (σ.k k)).run σ { tr with rk:=k::tr.rk } K
 | .bq k e p,σ,tr,K=>p.run (σ.bq k e) { tr with wk:=k::tr.wk } K
 | .call f args k,σ,tr,K=>(cf f args).bind fun r=>(k r).run σ tr K
inductive TK where
 | sc (s:ST) | slice (elem:TypeId) | struct (fs:List (Nat×TypeId)) | array (n:Nat) (elem:TypeId) | ptr (elem:TypeId) | other
 deriving Inhabited
structure TI where
 kind:TK
 aR:List LT
 bytes:Nat
 flat:Bool
 deriving Inhabited
inductive PM where
 | R | F | O (ms:List M)
 deriving Inhabited,Repr
structure Sig where
 pms:List (List PM)
 deriving Inhabited
structure Ctx where
 ty:TypeId->Option TI
 fn:FuncId->Option Func
 sig:FuncId->Sig
 own:FuncId->Nat->Bool
 ms:FuncId->Nat->List M
 cut:FuncId->Nat->Nat
 cast:FuncId->Nat->List M
 box:FuncId->Nat->List M
 rg:FuncId->Nat->List (Nat×Nat)
 ret:FuncId->Bool
 can:FuncId->Nat->List M
def GL:LT->T
 | .sc (.int _)=>.i 0 | .sc .bool=>.b false | .sc .str=>.s .empty | .sc .any=>.x .nilIface | .sl _=>.l []
def MH:LT->Leaf
 | .sl es=>⟨.nl,.sl es,.l []⟩
 | .sc .any=>⟨.dead,.sc .any,.l []⟩
 | lt=>⟨.sc,lt,GL lt⟩
def yL:Value->Option Leaf
 | .bool b=>some ⟨.sc,.sc .bool,.b b⟩
 | .int k n=>if k.min<=n/\n<=k.max then some ⟨.sc,.sc (.int k),.i n⟩ else none
 | .string s=>if s.size<9223372036854775808 then some ⟨.sc,.sc .str,.s s⟩ else none
 | .slice none 0 0=>some ⟨.nl,.sl [],.l []⟩
 | _=>none
def dflt:T:=.i 0
def ac6 (deps:List EN) (lt:LT) (d:T):Leaf :=
 match lt with
 | .sl _=>⟨.sn deps,lt,d⟩
 | _=>⟨.sc,lt,d⟩
def zD:TK->Bool
 | .struct _ | .array _ _=>true
 | _=>false
def Ic (agg:Bool) (ls:List Leaf):eU :=
 cond agg (.agg ls) (match ls with | [l]=>.one l | _=>.junk)
def DZ:eU->Option (List Leaf)
 | .one l=>some [l]
 | .agg ls=>some ls
 | _=>none
section ops
variable (Γ:Ctx)
def oZ {α:Type} (o:Option α) (k:α->Prog):Prog:=match o with | some a=>k a | none=>.fail
def uZ (t:TypeId) (k:TI->Prog):Prog:=oZ (Γ.ty t) k
def rd (x:Operand) (k:eU->Prog):Prog :=
 match x with
 | .tmp t=>.Cz t k
 | .const (.pointer none)=>k .junk
 | .const (.agg cs)=>oZ (cs.toList.mapM yL) fun ls=>k (.agg ls)
 | .const v=>oZ (yL v) fun l=>k (.one l)
 | .func f=>k (.fn f [])
 | .global _=>.fail
def CB (ds:List EN) (p:Prog):Prog :=
 match ds with
 | []=>p
 | (k,n)::ds=>.eX k fun ke=>.gu (Nat.beq ke.cv n) (CB ds p)
def xG (l:Leaf) (k:List LT->List (List T)->List EN->Prog):Prog :=
 match l.lt,l.st with
 | .sl es,.nl=>k es [] []
 | .sl es,.sn deps=>CB deps (k es l.d.rows deps)
 | .sl es,.sb key _ cv _ _=>CB [(key,cv)] (k es l.d.rows [(key,cv)])
 | .sl _,.al key n=>.eX key fun ke=>.gu (Nat.beq ke.bK n) (match ke.ch with
   | .row es _ rows=>k es rows [(key,ke.cv)]
   | .fz es rows=>k es rows []
   | _=>.fail)
 | _,_=>.fail
def vB (e:eU) (k:ST->T->Prog):Prog :=
 match e with
 | .one ⟨.sc,.sc s,d⟩=>k s d
 | _=>.fail
def YT (e:eU) (k:Leaf->Prog):Prog:=match e with | .one l=>k l | _=>.fail
def Sz (ms:List M):Bool:=ms.all fun m=>match m with | .F=>true | .O _=>false
def xH:List LT->List M->List Leaf->(List T->Prog)->Prog
 | [],_,[],k=>k []
 | e::es,ms,l::ls,k =>
  match e,l.lt,l.st with
  | .sc s,.sc s',.sc=>if s=s' then xH es ms.tail ls fun ds=>k (l.d::ds) else .fail
  | .sl es',_,.nl=>.gu (match ms.headD .F with | .F=>true | .O _=>!es'.isEmpty) (xH es ms.tail ls fun ds=>k (.l []::ds))
  | .sl _,lt,.sn []=>(match ms.headD .F with
    | .F=>cond (LT.beq e lt) (xH es ms.tail ls fun ds=>k (l.d::ds)) .fail
    | .O _=>.fail)
  | .sl es',_,.al key n=>.eX key fun ke=>.gu (Nat.beq ke.bK n) (match ke.ch with
    | .fz es'' rows=>(match ms.headD .F with
      | .F=>cond (LT.dS es' es'') (xH es ms.tail ls fun ds=>k (.l rows::ds)) .fail
      | .O _=>.fail)
    | .row es'' akW rows=>(match ms.headD .F with
      | .F=>cond (LT.dS es' es'') (.bq key { ke with ch:=.fz es'' rows } (xH es ms.tail ls fun ds=>k (.l rows::ds))) .fail
      | .O ms'=>cond (LT.dS es' es''&&M.dS ms' akW) (.bq key ⟨.gone,ke.bK+1,ke.cv+1⟩ (xH es ms.tail ls fun ds=>k (.l rows::ds))) .fail)
    | _=>.fail)
  | _,_,_=>.fail
 | _,_,_,_=>.fail
def MI (dst:Nat) (es:List LT) (ms:List M) (rows:List (List T)):Prog :=
 .eX [dst+2000000] fun ke=>.bq [dst+2000000] ⟨.row es ms rows,ke.bK+1,ke.cv+1⟩ (.lg dst (.one ⟨.al [dst+2000000] (ke.bK+1),.sl es,.l []⟩) .ret)
def YU (key:Key) (k:Prog):Prog:=.eX key fun ke=>match ke.ch with
 | .row es _ rows=>.bq key { ke with ch:=.fz es rows } k
 | _=>.fail
def akX (fz:Bool) (dst:Nat) (es:List LT) (ms:List M) (rows:List (List T)):Prog :=
 .eX [dst+2000000] fun ke=>.bq [dst+2000000] ⟨.row es ms rows,ke.bK+1,ke.cv+1⟩ (.lg dst (.one ⟨.al [dst+2000000] (ke.bK+1),.sl es,.l []⟩) (cond fz (YU [dst+2000000] .ret) .ret))
def agD (dst:Nat) (ls:List Leaf):Prog :=
 .eX [dst+2000000] fun ke=>.bq [dst+2000000] ⟨.box ls,ke.bK+1,ke.cv+1⟩ (.lg dst (.ptr [dst+2000000] (ke.bK+1) 0 0) .ret)
def MJ (key:Key) (n cv r off:Nat) (lt:LT) (m:M) (d:T):Leaf :=
 match lt,m with
 | .sl _,.O _=>⟨.sb key n cv r off,lt,d⟩
 | .sl _,_=>⟨.sn [],lt,d⟩
 | _,_=>⟨.sc,lt,d⟩
def OZ (key:Key) (n cv r off size:Nat) (es:List LT) (ms:List M) (row:List T):List Leaf :=
 (List.range size).map fun j=>MJ key n cv r (off+j) (es.getD (off+j) default) (ms.getD (off+j) .F) (row.getD (off+j) dflt)
def MK (deps:List EN) (size:Nat) (es:List LT) (row:List T):List Leaf :=
 (List.range size).map fun j=>ac6 deps (es.getD j default) (row.getD j dflt)
def setMany (row:List T) (off:Nat):List T->List T
 | []=>row
 | d::ds=>setMany (row.set off d) (off+1) ds
def gV (s:ByteArray):List (List T):=s.data.toList.map fun b=>[T.i b.toNat]
def qI (rows:List (List T)):ByteArray:=⟨(rows.map fun r=>UInt8.ofNat (r.getD 0 dflt).int.toNat).toArray⟩
def kG (k:IntKind) (r:BitVec k.bits):T:=.i (k.wrap r.toNat)
def ac7 (op:BinOp) (k:IntKind) (x y:Int) (K:ST->T->Prog):Prog :=
 match op with
 | .add=>K (.int k) (.i (k.wrap (x+y)))
 | .sub=>K (.int k) (.i (k.wrap (x-y)))
 | .mul=>K (.int k) (.i (k.wrap (x * y)))
 | .quo=>.gu (!decide (y=0)) (K (.int k) (.i (k.wrap (x.tdiv y))))
 | .rem=>.gu (!decide (y=0)) (K (.int k) (.i (x.tmod y)))
 | .and=>K (.int k) (kG k (BitVec.ofInt k.bits x &&& BitVec.ofInt k.bits y))
 | .or=>K (.int k) (kG k (BitVec.ofInt k.bits x ||| BitVec.ofInt k.bits y))
 | .xor=>K (.int k) (kG k (BitVec.ofInt k.bits x ^^^ BitVec.ofInt k.bits y))
 | .andNot=>K (.int k) (kG k (BitVec.ofInt k.bits x &&& ~~~ BitVec.ofInt k.bits y))
 | .eql=>K .bool (.b (x==y))
 | .neq=>K .bool (.b (x != y))
 | .lss=>K .bool (.b (decide (x<y)))
 | .leq=>K .bool (.b (decide (x<=y)))
 | .gtr=>K .bool (.b (decide (x > y)))
 | .geq=>K .bool (.b (decide (x>=y)))
 | _=>.fail
def ac8 (op:BinOp) (x y:ByteArray) (K:ST->T->Prog):Prog :=
 let eq:=x.toList==y.toList
 let lt:=Op.bytesLess x.toList y.toList
 match op with
 | .add=>.gu (decide (x.size+y.size<9223372036854775808)) (K .str (.s (x++y)))
 | .eql=>K .bool (.b eq)
 | .neq=>K .bool (.b (!eq))
 | .lss=>K .bool (.b lt)
 | .leq=>K .bool (.b (lt||eq))
 | .gtr=>K .bool (.b (!(lt||eq)))
 | .geq=>K .bool (.b (!lt))
 | _=>.fail
def agE:ST->T->T->Option Bool
 | .int _,x,y=>some (x.int==y.int)
 | .bool,x,y=>some (x.bool==y.bool)
 | .str,x,y=>some (x.str.toList==y.str.toList)
 | .any,_,_=>none
def zF:List LT->List Leaf->List Leaf->Option Bool
 | [],[],[]=>some true
 | .sc c::aR,⟨.sc,.sc a,x⟩::ls,⟨.sc,.sc b,y⟩::rs =>
  if c=a/\c=b then
   match agE c x y,zF aR ls rs with
   | some b,some r=>some (b&&r)
   | _,_=>none
  else none
 | _,_,_=>none
def YV:TK->Bool | .sc .bool=>true | _=>false
def amu (ti:TI) (op:BinOp) (x y:eU) (K:ST->T->Prog):Prog :=
 match x,y with
 | .one ⟨.sc,.sc (.int k),a⟩,.one ⟨.sc,.sc (.int k'),b⟩ =>
  match op with
  | .shl=>.gu (decide (0<=b.int)) (K (.int k) (.i (k.wrap (a.int * 2 ^ (min b.int.toNat k.bits)))))
  | .shr=>.gu (decide (0<=b.int)) (K (.int k) (.i (a.int.fdiv (2 ^ (min b.int.toNat k.bits)))))
  | _=>if k=k' then ac7 op k a.int b.int K else .fail
 | .one ⟨.sc,.sc .str,a⟩,.one ⟨.sc,.sc .str,b⟩=>ac8 op a.str b.str K
 | .one ⟨.sc,.sc .bool,a⟩,.one ⟨.sc,.sc .bool,b⟩ =>
  cond (YV ti.kind) (match op with
  | .eql=>K .bool (.b (a.bool==b.bool))
  | .neq=>K .bool (.b (!(a.bool==b.bool)))
  | _=>.fail) .fail
 | .agg ls,.agg rs =>
  cond ti.flat (match op with
  | .eql=>oZ (zF ti.aR ls rs) fun r=>K .bool (.b r)
  | .neq=>oZ (zF ti.aR ls rs) fun r=>K .bool (.b (!r))
  | _=>.fail) .fail
 | _,_=>.fail
def put (dst:Option Nat) (e:eU):Prog:=match dst with | some d=>.lg d e .ret | none=>.ret
def aff:List LT->List M->Bool
 | [],_=>true
 | e::es,ms=>(match e,ms.headD .F with | .sl es',.O _=>!es'.isEmpty | _,_=>true)&&aff es ms.tail
def J4 (ms:Nat->List M) (d:Nat) (es:List LT):List M:=match ms d with | []=>es.map fun _=>.F | l=>l
def agF (own:Nat->Bool) (ms:Nat->List M) (dst:Option Nat) (e:eU):Prog :=
 match dst,e with
 | some d0,.one ⟨.nl,.sl es,_⟩=>cond (own d0 && !es.isEmpty) (MI d0 es (J4 ms d0 es) []) (put dst e)
 | _,_=>put dst e
def pW (dst:Option Nat) (s:ST) (d:T):Prog:=put dst (.one ⟨.sc,.sc s,d⟩)
def aW:Nat:=140737488355328
def aD:Nat:=1099511627776
def xI (es:List LT):Bool:=es.all fun t=>match t with | .sc _=>true | _=>false
def u6:Nat:=999999
structure wN where
 key:Key
 bK:Nat
 es:List LT
 i:Nat
 j:Nat
structure Pass where
 args:List Arg
 fD:List wN
 deps:List EN
def wO (i j:Nat) (m:PM) (l:Leaf) (c:Pass) (k:AL->Pass->Prog):Prog :=
 match l.lt,l.st with
 | .sc s,.sc=>k (.sc s l.d) c
 | .sl es,.nl=>(match m with
  | .R=>k (.dz es []) c
  | .F=>k (.fz es []) c
  | .O _=>k (.nl es) c)
 | .sl es,.sn deps=>(match m with
  | .R=>CB deps (k (.dz es l.d.rows) { c with deps:=deps++c.deps })
  | .F=>(match deps with | []=>k (.fz es l.d.rows) c | _=>.fail)
  | .O _=>.fail)
 | .sl es,.sb key _ cv _ _=>(match m with
  | .R=>CB [(key,cv)] (k (.dz es l.d.rows) { c with deps:=(key,cv)::c.deps })
  | _=>.fail)
 | .sl es0,.al key n=>.eX key fun ke=>.gu (Nat.beq ke.bK n) (match ke.ch,m with
  | .fz es rows,.R=>.gu (LT.dS es0 es) (k (.dz es rows) c)
  | .fz es rows,.F=>.gu (LT.dS es0 es) (k (.fz es rows) c)
  | .row es _ rows,.R=>.gu (LT.dS es0 es) (k (.dz es rows) { c with deps:=(key,ke.cv)::c.deps })
  | .row es ms rows,.O _=>.gu (LT.dS es0 es&&Nat.blt j u6) (k (.own es ms rows) { c with fD:=⟨key,n,es,i,j⟩::c.fD })
  | _,_=>.fail)
 | _,_=>.fail
def LH (i:Nat):Nat->List PM->List Leaf->Pass->(List AL->Pass->Prog)->Prog
 | _,_,[],c,k=>k [] c
 | j,ms,l::ls,c,k=>wO i j (ms.headD .R) l c fun a c=>LH i (j+1) (ms.drop 1) ls c fun as c=>k (a::as) c
def zG:List Leaf->Pass->(List LT->List T->Pass->Prog)->Prog
 | [],c,k=>k [] [] c
 | l::ls,c,k =>
  match l.lt,l.st with
  | .sc s,.sc=>zG ls c fun aR ds c=>k (.sc s::aR) (l.d::ds) c
  | _,_=>xG l fun es rows deps=>zG ls { c with deps:=deps++c.deps } fun aR ds c=>k (.sl es::aR) (.l rows::ds) c
def ML (sz:Option Nat) (e:eU) (c:Pass) (k:Arg->Pass->Prog):Prog :=
 let ac9 {α:Type} (l:List α):List α:=match sz with | some n=>l.take n | none=>l
 match e with
 | .ptr key n r off=>.eX key fun ke=>.gu (Nat.beq ke.bK n) (match ke.ch with
  | .box ls=>zG (ac9 (ls.drop off)) { c with deps:=(key,ke.cv)::c.deps } fun aR ds c=>k (.Ky aR ds) c
  | .row es _ rows=>.gu (decide (r<rows.length)) (k (.Ky (ac9 (es.drop off)) (ac9 ((rows.getD r []).drop off))) { c with deps:=(key,ke.cv)::c.deps })
  | .fz es rows=>.gu (decide (r<rows.length)) (k (.Ky (ac9 (es.drop off)) (ac9 ((rows.getD r []).drop off))) c)
  | _=>.fail)
 | .rp deps aR row=>CB deps (k (.Ky (ac9 aR) (ac9 row)) { c with deps:=deps++c.deps })
 | _=>.fail
def iG (key:Key):Key:=3000000::key
def nL (key:Key) (j:Nat):Key:=3000001::j::key
def nM (key:Key):Key:=3000002::key
def sN (key:Key):Nat->List LT->List M->List T->(List Leaf->Prog)->Prog
 | _,[],_,_,k=>k []
 | j,e::es,ms,ds,k =>
  let d:=ds.headD dflt
  match e,ms.headD .F with
  | .sl es',.O ms'=>.eX (nL key j) fun ke=>.bq (nL key j) ⟨.row es' ms' d.rows,ke.bK+1,ke.cv+1⟩
    (sN key (j+1) es ms.tail ds.tail fun ls=>k (⟨.al (nL key j) (ke.bK+1),.sl es',.l []⟩::ls))
  | .sl es',.F=>sN key (j+1) es ms.tail ds.tail fun ls=>k (⟨.sn [],.sl es',d⟩::ls)
  | .sc s,_=>sN key (j+1) es ms.tail ds.tail fun ls=>k (⟨.sc,.sc s,d⟩::ls)
def MN (key:Key) (r:Nat) (k:Nat->List Leaf->Prog):Prog :=
 .eX key fun ke=>match ke.ch with
  | .row es ms rows=>.gu (decide (r<rows.length)) (.eX (iG key) fun kb=>.bq key ⟨.hol es ms rows r (kb.bK+1),ke.bK,ke.cv+1⟩ (sN key 0 es ms (rows.getD r []) fun ls =>
    .bq (iG key) ⟨.box ls,kb.bK+1,kb.cv+1⟩ (k (kb.bK+1) ls)))
  | _=>.fail
def aaM (key:Key) (es0:List LT) (ms0:List M) (ds:List T) (p:Prog):Prog :=
 .eX key fun ke=>.eX (iG key) fun kb=>match ke.ch,kb.ch with
  | .hol es ms rows r j,.box ls=>.gu (Nat.beq kb.bK j&&Nat.beq ls.length es.length&&LT.dS es0 es&&M.dS ms0 ms) (.bq (iG key) ⟨.gone,kb.bK+1,kb.cv+1⟩ (.bq key ⟨.row es ms (rows.set r ds),ke.bK,ke.cv+1⟩ p))
  | _,_=>.fail
def MO (key:Key) (p:Prog):Prog :=
 .eX key fun ke=>.eX (iG key) fun kb=>match ke.ch,kb.ch with
  | .hol es ms _ _ j,.box ls=>.gu (Nat.beq kb.bK j) (xH es ms ls fun ds=>aaM key es ms ds p)
  | _,_=>.fail
def YW (key:Key) (m:Nat) (k:Nat->Prog):Prog :=
 .eX key fun ke=>match ke.ch with
  | .box ls=>.gu (Nat.ble m ls.length) (.eX (nM key) fun kb=>.bq key ⟨.Ib m (kb.bK+1) (ls.drop m),ke.bK,ke.cv+1⟩ (.bq (nM key) ⟨.box (ls.take m),kb.bK+1,kb.cv+1⟩ (k (kb.bK+1))))
  | _=>.fail
def SA (key:Key) (p:Prog):Prog :=
 .eX key fun ke=>.eX (nM key) fun kb=>match ke.ch,kb.ch with
  | .Ib m j rest,.box ls=>.gu (Nat.beq ls.length m&&Nat.beq kb.bK j) (.bq (nM key) ⟨.gone,kb.bK+1,kb.cv+1⟩ (.bq key ⟨.box (ls++rest),ke.bK,ke.cv+1⟩ p))
  | _,_=>.fail
def closeAll:List (Bool×Key)->Prog->Prog
 | [],p=>p
 | (b,k)::os,p=>cond b (MO k (closeAll os p)) (SA k (closeAll os p))
def wP (nk:Key) (m:PM) (l:Leaf) (os:List (Bool×Key)) (k:Leaf->List (Bool×Key)->Prog):Prog :=
 match m with
 | .R=>k l os
 | .F=>(match l.st with
  | .al key n=>.eX key fun ke=>.gu (Nat.beq ke.bK n) (match ke.ch with
   | .row es _ rows=>.bq key { ke with ch:=.fz es rows } (k ⟨.sn [],.sl es,.l rows⟩ os)
   | .fz es rows=>k ⟨.sn [],.sl es,.l rows⟩ os
   | _=>.fail)
  | _=>k l os)
 | .O ms=>(match l.st with
  | .nl=>(match ms,l.lt with
   | [],_=>k l os
   | ms,.sl es=>.gu (!es.isEmpty) (.eX nk fun ke=>.bq nk ⟨.row es ms [],ke.bK+1,ke.cv+1⟩ (k ⟨.al nk (ke.bK+1),.sl es,.l []⟩ os))
   | _,_=>.fail)
  | .sb key n cv r off=>.eX key fun ke=>.gu (Nat.beq ke.bK n&&Nat.beq ke.cv cv) (MN key r fun _ ls=>.gu (Nat.blt off ls.length) (k (ls.getD off default) ((true,key)::os)))
  | .al key n=>(match ms with
   | []=>k l os
   | ms=>.eX key fun ke=>.gu (Nat.beq ke.bK n) (match ke.ch with
    | .row es ms0 rows=>cond (M.dS ms0 ms) (k l os) (.gu (M.vw ms0 ms) (.bq key ⟨.row es ms rows,ke.bK,ke.cv+1⟩ (k l os)))
    | _=>k l os))
  | _=>k l os)
def qc (nk:Key):Nat->List PM->List Leaf->List (Bool×Key)->(List Leaf->List (Bool×Key)->Prog)->Prog
 | _,_,[],os,k=>k [] os
 | j,ms,l::ls,os,k=>wP (5000000::j::nk) (ms.headD .R) l os fun l os=>qc nk (j+1) (ms.drop 1) ls os fun ls os=>k (l::ls) os
def isO:PM->Bool | .O _=>true | _=>false
def amv (pm:List PM):Bool:=pm.any isO
def needs:List PM->List Leaf->Bool
 | m::pm,l::ls=>(match m,l.st with
  | .O (_::_),.nl=>true
  | .O (_::_),.al _ _=>true
  | .F,.al _ _=>true
  | _,_=>false)||needs pm ls
 | _,_=>false
def MP (key:Key) (n:Nat) (pm:List PM) (os:List (Bool×Key)) (k:List (Bool×Key)->Prog):Prog :=
 .eX key fun ke=>.gu (Nat.beq ke.bK n) <| match ke.ch with
  | .box ls=>cond (needs pm ls) (qc key 0 pm ls os fun ls' os=>.eX key fun ke=>.gu (Nat.beq ke.bK n) (match ke.ch with
   | .box ls0=>.gu (Nat.beq ls'.length ls0.length) (.bq key ⟨.box ls',ke.bK,ke.cv+1⟩ (k os))
   | _=>.fail)) (k os)
  | _=>k os
def MQ (nk:Key) (pm:List PM) (e:eU) (os:List (Bool×Key)) (k:eU->List (Bool×Key)->Prog):Prog :=
 match e with
 | .one l=>wP nk (pm.headD .R) l os fun l os=>k (.one l) os
 | .agg ls=>qc nk 0 pm ls os fun ls os=>k (.agg ls) os
 | .ptr key n r off=>cond (amv pm) (.eX key fun ke=>.gu (Nat.beq ke.bK n&&Nat.beq off 0) (match ke.ch with
   | .box ls=>cond (Nat.blt pm.length ls.length) (YW key pm.length fun m=>MP (nM key) m pm ((false,key)::os) (k (.ptr (nM key) m 0 0)))
     (MP key n pm os (k e))
   | .row es _ _=>.gu (Nat.beq pm.length es.length) (MN key r fun m _=>MP (iG key) m pm ((true,key)::os) (k (.ptr (iG key) m 0 0)))
   | _=>.fail)) (k e os)
 | e=>k e os
def RV (d:Nat):Nat->List (List PM)->List eU->List (Bool×Key)->(List eU->List (Bool×Key)->Prog)->Prog
 | _,_,[],os,k=>k [] os
 | i,pms,e::es,os,k=>MQ [d+2000000,700+i] (pms.headD []) e os fun e os=>RV d (i+1) (pms.drop 1) es os fun es os=>k (e::es) os
def O0 (i j:Nat) (l:Leaf) (c:Pass) (k:AL->Pass->Prog):Prog :=
 match l.lt,l.st with
 | .sl _,.al key _=>.eX key fun ke=>match ke.ch with
  | .row _ _ _=>wO i j (.O []) l c k
  | _=>wO i j .F l c k
 | .sl _,.nl=>wO i j (.O []) l c k
 | _,_=>wO i j .F l c k
def Ie (i:Nat):Nat->List Leaf->Pass->(List AL->Pass->Prog)->Prog
 | _,[],c,k=>k [] c
 | j,l::ls,c,k=>O0 i j l c fun a c=>Ie i (j+1) ls c fun as c=>k (a::as) c
def YX (i sz:Nat) (e:eU) (c:Pass) (k:Arg->Pass->Prog):Prog :=
 match e with
 | .ptr key n _ off=>.eX key fun ke=>.gu (Nat.beq ke.bK n) (match ke.ch with
  | .box ls=>.gu (Nat.beq off 0&&Nat.beq ls.length sz&&Nat.ble sz 1000) (Ie i 0 ls { c with fD:=⟨key,n,[],i,u6⟩::c.fD } fun as c=>k (.bx as) c)
  | _=>.fail)
 | _=>.fail
def SB:List eU->Pass->(List Arg->Pass->Prog)->Prog
 | [],c,k=>k [] c
 | e::es,c,k=>ML none e c fun a c=>SB es c fun as c=>k (a::as) c
def YZ (i:Nat) (pm:List PM) (e:eU) (c:Pass) (k:Arg->Pass->Prog):Prog :=
 match e with
 | .one l=>wO i 0 (pm.headD .R) l c fun a c=>k (.one a) c
 | .agg ls=>LH i 0 pm ls c fun as c=>k (.agg as) c
 | .fn f caps=>SB caps c fun as c=>k (.fn f as) c
 | e=>cond (amv pm) (YX i pm.length e c k) (ML (cond pm.isEmpty none (some pm.length)) e c k)
def Y0 (pms:List (List PM)):Nat->List eU->Pass->(List Arg->Pass->Prog)->Prog
 | _,[],c,k=>k [] c
 | i,e::es,c,k=>YZ i (pms.getD i []) e c fun a c=>Y0 pms (i+1) es c fun as c=>k (a::as) c
def J5 (deps:List EN):List wN->Bool
 | []=>true
 | x::xs=>!(xs.any fun y=>dH x.key y.key||(Nat.beq x.i y.i&&Nat.beq x.j y.j)) && !(deps.any fun d=>dH x.key d.1)&&J5 deps xs
def wQ (i j:Nat):List wN->Option wN
 | []=>none
 | l::ls=>cond (Nat.beq l.i i&&Nat.beq l.j j) (some l) (wQ i j ls)
def jM (r:gD) (i j:Nat):Option (List LT×List M×List (List T)):=(r.owns.getD i []).getD j none
def xJ (r:gD) (i:Nat):Option (List RL):=r.bxs.getD i none
def agG (l:Leaf):Leaf:={ l with st:=.dead,d:=.l [] }
def wR (r:gD):List wN->Prog->Prog
 | [],p=>p
 | l::ls,p=>.eX l.key fun ke=>cond (Nat.beq l.j u6)
  (match ke.ch with
  | .box old=>(match xJ r l.i with
   | some rls=>.gu (Nat.beq rls.length old.length) (.bq l.key ⟨.box (old.map agG),ke.bK,ke.cv+1⟩ (wR r ls p))
   | none=>.fail)
  | _=>.fail)
  (match jM r l.i l.j with
  | some (es,ms,rows)=>.gu (LT.dS l.es es) (.bq l.key ⟨.row es ms rows,ke.bK,ke.cv+1⟩ (wR r ls p))
  | none=>.bq l.key ⟨.gone,ke.bK+1,ke.cv+1⟩ (wR r ls p))
def SC (c:Pass) (key:Key) (l:RL) (k:Leaf->Prog):Prog :=
 match l with
 | .sc s d=>k ⟨.sc,.sc s,d⟩
 | .fz es rows=>k ⟨.sn [],.sl es,.l rows⟩
 | .dz es rows=>k ⟨.sn c.deps,.sl es,.l rows⟩
 | .nl es=>k ⟨.nl,.sl es,.l []⟩
 | .own _ es ms rows=>.eX key fun ke=>.bq key ⟨.row es ms rows,ke.bK+1,ke.cv+1⟩ (k ⟨.al key (ke.bK+1),.sl es,.l []⟩)
 | .par i j=>oZ (wQ i j c.fD) fun l=>k ⟨.al l.key l.bK,.sl l.es,.l []⟩
def zH (c:Pass) (dst q:Nat):Nat->List RL->(List Leaf->Prog)->Prog
 | _,[],k=>k []
 | j,l::ls,k=>SC c [dst+2000000,q,j] l fun x=>zH c dst q (j+1) ls fun xs=>k (x::xs)
def Bo (c:Pass) (dst:Nat):Nat->List RE->(List eU->Prog)->Prog
 | _,[],k=>k []
 | q,e::es,k =>
  match e with
  | .one l=>SC c [dst+2000000,q,0] l fun x=>Bo c dst (q+1) es fun xs=>k (.one x::xs)
  | .agg ls=>zH c dst q 0 ls fun x=>Bo c dst (q+1) es fun xs=>k (.agg x::xs)
  | .bx _ ls=>zH c dst q 0 ls fun x=>.gu (Nat.beq x.length ls.length&&Nat.ble ls.length 1000) (.eX [dst+2000000,q,u6] fun ke =>
    .bq [dst+2000000,q,u6] ⟨.box x,ke.bK+1,ke.cv+1⟩ (Bo c dst (q+1) es fun xs=>k (.ptr [dst+2000000,q,u6] (ke.bK+1) 0 0::xs)))
  | _=>.fail
def zy (c:Pass) (dst:Nat) (r:gD):List wN->Prog->Prog
 | [],p=>p
 | l::ls,p=>cond (Nat.beq l.j u6)
  (match xJ r l.i with
  | some rls=>zH c dst (1000+l.i) 0 rls fun xs=>.eX l.key fun ke=>match ke.ch with
   | .box old=>.gu (Nat.beq ke.bK l.bK&&Nat.beq xs.length old.length) (.bq l.key ⟨.box xs,ke.bK,ke.cv+1⟩ (zy c dst r ls p))
   | _=>.fail
  | none=>.fail)
  (zy c dst r ls p)
def ai7:M->PM | .F=>.F | .O ms=>.O ms
def SE (nk:Key) (ms:List M):List eU->(List eU->Prog)->Prog
 | [],k=>k []
 | e::es,k=>match ms with
  | []=>k (e::es)
  | ms=>match e with
   | .one l=>wP nk ((ms.map ai7).headD .R) l [] fun l _=>k (.one l::es)
   | .agg ls=>qc nk 0 (ms.map ai7) ls [] fun ls _=>k (.agg ls::es)
   | e=>k (e::es)
def agH (xs:List eU):eU:=match xs with | [x]=>x | _=>.Sy xs
def SF (fr f:FuncId) (dst:Option Nat) (es:List eU):Prog :=
 .gu (Γ.fn f).isSome (RV (match dst with | some d=>d | none=>2000000+f) 0 (Γ.sig f).pms es [] fun es os=>Y0 (Γ.sig f).pms 0 es ⟨[],[],[]⟩ fun args c =>
 .gu (J5 c.deps c.fD) (.call f args fun r =>
  wR r c.fD (zy c (match dst with | some d=>d | none=>2000000+f) r c.fD (match dst with
   | none=>closeAll os .ret
   | some d=>Bo c d 0 r.rs fun xs=>closeAll os (SE [d+2000000,600] (Γ.cast fr d) xs fun xs=>.lg d (agH xs) .ret)))))
def P9:List Operand->(List eU->Prog)->Prog
 | [],k=>k []
 | x::xs,k=>rd x fun e=>P9 xs fun es=>k (e::es)
def O1 (es:List LT):Bool:=es.all fun l=>match l with | .sc .any=>false | _=>true
def partsOf (es:List LT) (ms:List M):List (Nat×Operand)->(List (Nat×List T)->Prog)->Prog
 | [],k=>k []
 | (i,x)::ps,k=>rd x fun e=>oZ (DZ e) fun ls=>xH es ms ls fun ds=>partsOf es ms ps fun r=>k ((i,ds)::r)
def MR (n:Nat):List (Nat×List T)->List (List T)->Option (List (List T))
 | [],rows=>some rows
 | (i,ds)::ps,rows=>if i<rows.length&&ds.length==n then MR n ps (rows.set i ds) else none
mutual
def aj1:LT->M
 | .sc _=>.F
 | .sl es=>.O (agI es)
def agI:List LT->List M
 | []=>[]
 | e::es=>aj1 e::agI es
end
def qJ:List LT->List Leaf->(List M->Prog)->Prog
 | e::es,l::ls,k=>match l.st with
  | .al key _=>.eX key fun ke=>(match ke.ch with
    | .row _ ms _=>qJ es ls fun r=>k (.O ms::r)
    | _=>qJ es ls fun r=>k (.F::r))
  | .nl=>qJ es ls fun r=>k (aj1 e::r)
  | _=>qJ es ls fun r=>k (.F::r)
 | es,_,k=>k (es.map fun _=>.F)
def SG (ms:List M) (es:List LT) (ps:List (Nat×Operand)) (k:List M->Prog):Prog :=
 match ms,ps with
 | [],(_,x)::_=>rd x fun e=>oZ (DZ e) fun ls=>qJ es ls k
 | [],[]=>k (es.map fun _=>.F)
 | ms,_=>k ms
def ES:List (Nat×Operand)->(List (Nat×List Leaf)->Prog)->Prog
 | [],k=>k []
 | (i,x)::ps,k=>rd x fun e=>oZ (DZ e) fun ls=>ES ps fun r=>k ((i,ls)::r)
def zI (Γ:Ctx) (fs:List (Nat×TypeId)):List (Nat×List Leaf)->List Leaf->Option (List Leaf)
 | [],acc=>some acc
 | (i,ls)::ps,acc=>match fs[i]? with
  | some (off,ft)=>match Γ.ty ft with
   | some tf=>cond (Nat.beq ls.length tf.aR.length&&Nat.ble (off+ls.length) acc.length) (zI Γ fs ps (acc.take off++ls++acc.drop (off+ls.length))) none
   | none=>none
  | none=>none
def qd:List LT->List Leaf->List Leaf
 | lt::aR,l::ls=>(match l.st,lt with | .nl,.sl _=>{ l with lt:=lt } | _,_=>l)::qd aR ls
 | _,ls=>ls
def O3 (ls:List Leaf):eU:=match ls with | [l]=>.one l | _=>.junk
def O4 (aR:List LT):eU->eU
 | .one l=>O3 (qd aR [l])
 | .agg ls=>.agg (qd aR ls)
 | e=>e
def tq (MS:List LT) (msT:List M) (lx:Leaf) (k:List (List T)->List EN->Prog):Prog :=
 match lx.st,lx.lt with
 | .sc,.sc .str=>.gu (LT.dS MS [.sc (.int .u8)]&&Sz msT) (k (gV lx.d.str) [])
 | .nl,_=>k [] []
 | .al key n,_=>.eX key fun ke=>.gu (Nat.beq ke.bK n) (match ke.ch with
   | .row es ms rows=>.gu (LT.dS MS es) (cond (Sz ms) (.gu (Sz msT) (k rows [(key,ke.cv)])) (.gu (M.vw ms msT) (.bq key ⟨.row es msT rows,ke.bK,ke.cv+1⟩ (.eX key fun ke=>.bq key ⟨.gone,ke.bK+1,ke.cv+1⟩ (k rows [])))))
   | .fz es rows=>.gu (LT.dS MS es&&Sz msT) (k rows [])
   | _=>.fail)
 | _,_=>xG lx fun es rows deps=>.gu (LT.dS MS es&&Sz msT&&(xI MS||deps.isEmpty)) (k rows deps)
def vC (dst:Nat) (MS:List LT) (ms:List M) (old new:List (List T)):Prog :=
 .gu (Nat.ble MS.length 1000&&decide ((old.length+new.length) * MS.length<=aD)) (MI dst MS ms (old++new))
def SH (dst:Nat) (MS:List LT) (key:Key) (n:Nat) (lx:Leaf):Prog :=
 .eX key fun ke=>.gu (Nat.beq ke.bK n) (match ke.ch with
   | .row es ms _=>.gu (LT.dS MS es) (tq MS ms lx fun new deps=>.gu (!(deps.any fun d=>dH d.1 key)) (.eX key fun ke=>.gu (Nat.beq ke.bK n) (match ke.ch with
     | .row es' ms' rows=>.gu (LT.dS MS es'&&M.dS ms ms') (.bq key ⟨.gone,ke.bK+1,ke.cv+1⟩ (vC dst MS ms rows new))
     | _=>.fail)))
   | _=>.fail)
def SK (msB:List M) (dst:Nat) (MS:List LT) (s x:eU):Prog :=
 YT s fun ls=>YT x fun lx =>
 match ls.st with
 | .nl=>(match msB,lx.st with
  | [],.al key _=>.eX key fun ke=>(match ke.ch with
    | .row _ ms _=>tq MS ms lx fun new _=>vC dst MS ms [] new
    | _=>tq MS (MS.map fun _=>.F) lx fun new _=>vC dst MS (MS.map fun _=>.F) [] new)
  | [],_=>tq MS (MS.map fun _=>.F) lx fun new _=>vC dst MS (MS.map fun _=>.F) [] new
  | msB,_=>tq MS msB lx fun new _=>vC dst MS msB [] new)
 | .al key n=>SH dst MS key n lx
 | .sb key n cv r off=>.eX key fun ke=>.gu (Nat.beq ke.bK n&&Nat.beq ke.cv cv) (MN key r fun _ ls=>match (ls.getD off default).st with
   | .al key n=>SH dst MS key n lx
   | _=>.fail)
 | _=>.fail
def Ig:TK->Bool | .sc .str=>true | _=>false
def uq:TK->Bool | .slice _=>true | _=>false
def sliceBound (e:Option eU) (d:Int) (k:Int->Prog):Prog:=match e with
  | none=>k d
  | some e=>vB e fun s t=>match s with | .int _=>k t.int | _=>.fail
def nS (ti:TI) (cut:Nat) (dst:Nat) (x:eU) (lo hi:Option eU):Prog :=
 YT x fun l =>
 match l.st,l.lt with
 | .sc,.sc .str =>
  let n:Int:=l.d.str.size
  .gu (Ig ti.kind) <| sliceBound hi n fun h=>sliceBound lo 0 fun a=>.gu (decide (0<=h/\h<=n)) (.gu (decide (0<=a/\a<=h))
   (pW (some dst) .str (.s (l.d.str.extract a.toNat h.toNat))))
 | _,_=>xG l fun es rows deps =>
  let n:Int:=rows.length
  .gu (match ti.aR with | [.sl tes]=>uq ti.kind&&Nat.beq es.length tes.length | _=>false) <| sliceBound hi n fun h=>sliceBound lo 0 fun a=>.gu (decide (0<=h/\h<=n)) (.gu (decide (0<=a/\a<=h))
   (match cut with
    | 0=>.lg dst (.one ⟨.sn deps,.sl es,.l ((rows.take h.toNat).drop a.toNat)⟩) .ret
    | 1=>(match l.st,lo with
    | .al key _,none=>.eX key fun ke=>match ke.ch with
      | .row es ms rows=>.gu (Sz ms) (.bq key ⟨.gone,ke.bK+1,ke.cv+1⟩ (MI dst es ms (rows.take h.toNat)))
      | _=>.fail
    | _,_=>.fail)
    | _=>(match l.st with
    | .al key n=>.eX key fun ke=>.gu (Nat.beq ke.bK n && !dH key uo) (match ke.ch with
      | .row es0 _ XD=>.bq key { ke with ch:=.fz es0 XD } (.lg dst (.one ⟨.sn [],.sl es,.l ((rows.take h.toNat).drop a.toNat)⟩) .ret)
      | .fz _ _=>.lg dst (.one ⟨.sn [],.sl es,.l ((rows.take h.toNat).drop a.toNat)⟩) .ret
      | _=>.fail)
    | .sn []=>.lg dst (.one ⟨.sn [],.sl es,.l ((rows.take h.toNat).drop a.toNat)⟩) .ret
    | .nl=>.lg dst (.one ⟨.sn [],.sl es,.l ((rows.take h.toNat).drop a.toNat)⟩) .ret
    | _=>.fail)))
def aq4 (n:Int):T:=.i n
def i64:ST:=.int .i64
def LJ (x y:Int):Int:=if y<x then y else x
def LK (x y:Int):Int:=if y > x then y else x
def Y1 (f:Int->Int->Int):List eU->Option (IntKind×Int)
 | [.one ⟨.sc,.sc (.int k),x⟩,.one ⟨.sc,.sc (.int k'),y⟩]=>if k=k' then some (k,f x.int y.int) else none
 | _=>none
def RY:TK->Bool | .sc (.int .u8)=>true | _=>false
def Ih (dst:Nat) (aoC amw:TI) (x:eU):Prog :=
 match aoC.kind,amw.kind with
 | .sc (.int _),.sc (.int k)=>vB x fun s d=>match s with
  | .int _=>pW (some dst) (.int k) (.i (k.wrap d.int))
  | _=>.fail
 | .sc .str,.sc .str=>vB x fun s d=>match s with
  | .str=>pW (some dst) .str d
  | _=>.fail
 | .sc .str,.slice el=>uZ Γ el fun te=>.gu (RY te.kind) (vB x fun s d=>match s,amw.aR with
  | .str,[.sl [.sc (.int .u8)]]=>.gu (decide (d.str.size<=aW)) (.lg dst (.one ⟨.sn [],.sl [.sc (.int .u8)],.l (gV d.str)⟩) .ret)
  | _,_=>.fail)
 | .slice el,.sc .str=>uZ Γ el fun te=>.gu (RY te.kind) (YT x fun l=>xG l fun es rows _=>match es with
  | [.sc (.int .u8)]=>pW (some dst) .str (.s (qI rows))
  | _=>.fail)
 | _,_=>.fail
def RZ (pm:List M) (d0:Nat) (ls:List Leaf):Prog :=
 match pm with
 | []=>agD d0 ls
 | pm=>qc [d0+2000000,500] 0 (pm.map ai7) ls [] fun ls _=>agD d0 ls
def R4 (pm:List M) (dst:Option Nat) (ls:List Leaf):Prog :=
 match pm,dst with
 | _::_,some d=>qc [d+2000000,400] 0 (pm.map ai7) ls [] fun ls _=>put dst (.agg ls)
 | _,_=>put dst (.agg ls)
def isZero:Operand->Bool | .const (.int _ 0)=>true | _=>false
def slice3 (ti:TI) (dst:Nat) (x:eU) (lo:Option eU) (hi mx:eU) (z:Bool):Prog :=
 YT x fun l=>xG l fun es rows deps =>
  .gu (match ti.aR with | [.sl tes]=>uq ti.kind&&Nat.beq es.length tes.length && !es.isEmpty | _=>false) <| vB hi fun sh h=>vB mx fun sm m=>sliceBound lo 0 fun a=>(match sh,sm with
   | .int _,.int _=>.gu (decide (0<=h.int/\h.int<=m.int/\m.int<=rows.length)) (.gu (decide (0<=a/\a<=h.int))
    (cond (z&&lo.isNone) (.gu (decide (h.int=0/\m.int=0)) (MI dst es (es.map fun _=>.F) [])) (.lg dst (.one ⟨.sn deps,.sl es,.l ((rows.take h.int.toNat).drop a.toNat)⟩) .ret)))
   | _,_=>.fail)
def aed (s:ST):List Leaf->Bool
 | []=>true
 | l::ls=>(match l.st,l.lt with | .sc,.sc s'=>decide (s=s') | _,_=>false)&&aed s ls
def SL (m:Nat) (el:TypeId) (dst:Nat) (e:eU):Prog:=uZ Γ el fun te=>match te.aR,e with
 | [.sc s],.ptr key n _ off=>.eX key fun ke=>.gu (Nat.beq ke.bK n) (match ke.ch with
   | .box ls=>.gu (Nat.beq off 0&&Nat.beq ls.length m&&Nat.ble m 1000&&aed s ls) (.lg dst (.one ⟨.sn [(key,ke.cv)],.sl [.sc s],.l (ls.map fun l=>[l.d])⟩) .ret)
   | _=>.fail)
 | _,_=>.fail
def Y2 (f:FuncId) (t:TypeId) (dst:Option Nat) (e:eU):Prog :=
 match e with
 | .Sy _=>put dst e
 | e=>uZ Γ t fun ti=>agF (Γ.own f) (Γ.ms f) dst (O4 ti.aR e)
def Y3:eU->Bool | .Sy _=>false | .fn _ _=>false | _=>true
def SN (s:ST) (x:T):T:=match s with | .bool=>.b x.bool | _=>x
def bA (f:FuncId) (o:Oper):Prog :=
 let dst:=o.dst
 let wd:=oZ o.dst
 match o.op with
 | .move x | .assign x=>rd x fun e=>Y2 Γ f o.type dst e
 | .pick c a b=>rd c fun c=>rd a fun a=>rd b fun b=>vB c fun sc c =>
   match sc with
   | .bool=>.br c.bool (vB a fun s x=>pW dst s (SN s x)) (vB b fun s x=>pW dst s (SN s x))
   | _=>.fail
 | .alloc t=>wd fun d0=>uZ Γ t fun ti=>RZ (Γ.box f d0) d0 (ti.aR.map MH)
 | .box t x=>wd fun d0=>uZ Γ t fun ti=>rd x fun e=>oZ (DZ e) fun ls=>RZ (Γ.box f d0) d0 (qd ti.aR ls)
 | .build t ps=>uZ Γ t fun ti=>match ti.kind with
   | .struct fs=>ES ps.toList fun r=>oZ (zI Γ fs r (ti.aR.map MH)) fun ls=>R4 (match dst with | some d=>Γ.box f d | none=>[]) dst (qd ti.aR ls)
   | .array m el=>uZ Γ el fun te=>ES ps.toList fun r=>oZ (zI Γ ((List.range m).map fun i=>(i * te.aR.length,el)) r (ti.aR.map MH)) fun ls=>R4 (match dst with | some d=>Γ.box f d | none=>[]) dst (qd ti.aR ls)
   | _=>.fail
 | .buildSlice t n ps=>wd fun d0=>uZ Γ t fun ti=>match ti.kind,ti.aR with
   | .slice _,[.sl es]=>.gu (O1 es&&Nat.ble (n * es.length) 16777216) <|
     SG (Γ.ms f d0) es ps.toList fun ms=>.gu (aff es ms) (partsOf es ms ps.toList fun r =>
     oZ (MR es.length r (List.replicate n (es.map GL))) fun rows=>akX (!Γ.own f d0) d0 es ms rows)
   | _,_=>.fail
 | .load t a=>uZ Γ t fun ti=>rd a fun e =>
   let size:=ti.aR.length
   let agg:=zD ti.kind
   match e with
   | .ptr key n r off=>.eX key fun ke=>.gu (Nat.beq ke.bK n) (match ke.ch with
     | .box ls=>.gu (Nat.ble (off+size) ls.length) (put dst (Ic agg ((ls.drop off).take size)))
     | .row es ms rows=>.gu (Nat.ble (off+size) es.length) (.gu (decide (r<rows.length)) (put dst (Ic agg (OZ key n ke.cv r off size es ms (rows.getD r [])))))
     | .fz es rows=>.gu (Nat.ble (off+size) es.length) (.gu (decide (r<rows.length)) (put dst (Ic agg (MK [] size (es.drop off) ((rows.getD r []).drop off)))))
     | .hol _ _ _ r' j=>.gu (Nat.beq r r') (.eX (iG key) fun kb=>.gu (Nat.beq kb.bK j) <| match kb.ch with
       | .box ls=>.gu (Nat.ble (off+size) ls.length) (put dst (Ic agg ((ls.drop off).take size)))
       | _=>.fail)
     | _=>.fail)
   | .rp deps aR row=>.gu (Nat.ble size aR.length) (CB deps (put dst (Ic agg (MK deps size aR row))))
   | _=>.fail
 | .store t a x=>uZ Γ t fun ti=>rd a fun e=>rd x fun v=>oZ (DZ v) fun ls =>
   match e with
   | .ptr key n r off=>.eX key fun ke=>.gu (Nat.beq ke.bK n) (match ke.ch with
     | .box old=>.gu (Nat.beq ls.length ti.aR.length&&Nat.ble (off+ls.length) old.length) (.bq key ⟨.box (old.take off++qd ti.aR ls++old.drop (off+ls.length)),ke.bK,ke.cv+1⟩ (put dst .und))
     | .row es0 ms0 _=>.gu (Nat.beq ls.length ti.aR.length&&Nat.ble (off+ls.length) es0.length) <| xH ((es0.drop off).take ls.length) (ms0.drop off) ls fun ds=>.eX key fun ke=>.gu (Nat.beq ke.bK n) <| match ke.ch with
       | .row es ms rows=>.gu (LT.dS es0 es&&M.dS ms0 ms&&decide (r<rows.length))
         (.bq key ⟨.row es ms (rows.set r (setMany (rows.getD r []) off ds)),ke.bK,ke.cv+1⟩ (put dst .und))
       | _=>.fail
     | .hol _ _ _ r' j=>.gu (Nat.beq r r') (.eX (iG key) fun kb=>.gu (Nat.beq kb.bK j) <| match kb.ch with
       | .box old=>.gu (Nat.beq ls.length ti.aR.length&&Nat.ble (off+ls.length) old.length) (.bq (iG key) ⟨.box (old.take off++qd ti.aR ls++old.drop (off+ls.length)),kb.bK,kb.cv+1⟩ (MO key (put dst .und)))
       | _=>.fail)
     | _=>.fail)
   | _=>.fail
 | .nilCheck x=>rd x fun e=>match e with
   | .ptr k n _ _=>.eX k fun ke=>.gu (Nat.beq ke.bK n) (put dst e)
   | .rp ds _ _=>CB ds (put dst e)
   | _=>.fail
 | .binOp op t x y _=>uZ Γ t fun ti=>rd x fun x=>rd y fun y=>amu ti op x y fun s d=>pW dst s d
 | .unOp op _ x=>rd x fun x=>vB x fun s d=>match op,s with
   | .not,.bool=>pW dst .bool (.b (!d.bool))
   | .neg,.int k=>pW dst (.int k) (.i (k.wrap (0-d.int)))
   | .xor,.int k=>pW dst (.int k) (kG k (BitVec.ofInt k.bits (if k.signed then -1 else k.max) ^^^ BitVec.ofInt k.bits d.int))
   | _,_=>.fail
 | .convert s t x=>wd fun d0=>uZ Γ s fun ts=>uZ Γ t fun tt=>rd x fun e=>Ih Γ d0 ts tt e
 | .makeSlice t l c=>wd fun d0=>uZ Γ t fun ti=>rd l fun l=>rd c fun c=>vB l fun sl l=>vB c fun sc c=>match sl,sc,ti.kind,ti.aR with
   | .int .i64,.int .i64,.slice el,[.sl es]=>uZ Γ el fun te =>
     .gu (O1 es&&aff es (J4 (Γ.ms f) d0 es)&&decide (0<=l.int/\l.int<=c.int)) (.gu (decide (c.int * te.bytes<=aW)) (MI d0 es (J4 (Γ.ms f) d0 es) (List.replicate l.int.toNat (es.map GL))))
   | _,_,_,_=>.fail
 | .slice t x lo hi none=>wd fun d0=>uZ Γ t fun ti=>rd x fun x =>
   let go (lo:Option eU) (hi:Option eU):=nS ti (Γ.cut f d0) d0 x lo hi
   match lo,hi with
   | none,none=>(match ti.kind with | .array m el=>SL Γ m el d0 x | _=>go none none)
   | some a,none=>rd a fun a=>go (some a) none
   | none,some b=>rd b fun b=>go none (some b)
   | some a,some b=>rd a fun a=>rd b fun b=>go (some a) (some b)
 | .slice t x lo (some hi) (some mx)=>wd fun d0=>uZ Γ t fun ti=>rd x fun x=>rd hi fun h=>rd mx fun m=>(match lo with
   | none=>slice3 ti d0 x none h m (isZero hi&&isZero mx)
   | some lo=>rd lo fun l=>slice3 ti d0 x (some l) h m false)
 | .fieldAddr t x i=>uZ Γ t fun ti=>rd x fun e=>match ti.kind with
   | .struct fs=>oZ fs[i]? fun (off,_)=>match e with
     | .ptr k n r o=>.eX k fun ke=>.gu (Nat.beq ke.bK n) (put dst (.ptr k n r (o+off)))
     | .rp deps aR row=>.gu (Nat.ble off aR.length) (CB deps (put dst (.rp deps (aR.drop off) (row.drop off))))
     | _=>.fail
   | _=>.fail
 | .field t x i=>uZ Γ t fun ti=>rd x fun e=>match ti.kind,e with
   | .struct fs,.agg ls=>oZ fs[i]? fun (off,ft)=>uZ Γ ft fun tf=>.gu (Nat.ble (off+tf.aR.length) ls.length) (put dst (Ic (zD tf.kind) ((ls.drop off).take tf.aR.length)))
   | _,_=>.fail
 | .indexAddr t x i=>uZ Γ t fun ti=>rd x fun e=>rd i fun ie=>vB ie fun si ix=>match si,ti.kind,ti.aR,e with
   | .int _,.slice _,[.sl tes],.one l=>(match l.st with
     | .al key n=>.eX key fun ke=>.gu (Nat.beq ke.bK n) (match ke.ch with
       | .row es _ rows=>.gu (Nat.beq es.length tes.length) (.gu (decide (0<=ix.int/\ix.int<rows.length)) (put dst (.ptr key n ix.int.toNat 0)))
       | .fz es rows=>.gu (Nat.beq es.length tes.length) (.gu (decide (0<=ix.int/\ix.int<rows.length)) (put dst (.ptr key n ix.int.toNat 0)))
       | _=>.fail)
     | _=>xG l fun es rows deps=>.gu (Nat.beq es.length tes.length) (.gu (decide (0<=ix.int/\ix.int<rows.length)) (put dst (.rp deps es (rows.getD ix.int.toNat [])))))
   | _,_,_,_=>.fail
 | .index t x i=>uZ Γ t fun ti=>rd x fun x=>rd i fun i=>vB x fun sx d=>vB i fun si ix=>match si,sx,ti.kind with
   | .int _,.str,.sc .str=>.gu (decide (0<=ix.int/\ix.int<d.str.size)) (pW dst (.int .u8) (.i (d.str.data.toList.getD ix.int.toNat 0).toNat))
   | _,_,_=>.fail
 | .extract x i=>rd x fun e=>match e with
   | .Sy es=>oZ es[i]? fun e=>put dst e
   | _=>.fail
 | .makeFunc (.func g) first caps=>cond (first.isEmpty) (P9 caps.toList fun es=>.gu (es.all Y3) (put dst (.fn g es))) .fail
 | .call c=>match c.callee with
   | .value g=>rd g fun g=>P9 c.args.toList fun es=>match g with
     | .fn g caps=>SF Γ f g dst (es++caps)
     | _=>.fail
   | .builtin .len=>oZ c.argTypes[0]? fun t=>uZ Γ t fun ti=>P9 c.args.toList fun es=>match es with
     | [.one l]=>(match l.st,l.lt with
       | .sc,.sc .str=>.gu (Ig ti.kind) (pW dst i64 (.i l.d.str.size))
       | _,_=>.gu (uq ti.kind) (xG l fun _ rows _=>.lim (decide (rows.length<=aW)) (pW dst i64 (.i rows.length))))
     | _=>.fail
   | .builtin .min=>P9 c.args.toList fun es=>oZ (Y1 LJ es) fun (k,v)=>pW dst (.int k) (.i v)
   | .builtin .max=>P9 c.args.toList fun es=>oZ (Y1 LK es) fun (k,v)=>pW dst (.int k) (.i v)
   | .builtin .append=>wd fun d0=>P9 c.args.toList fun es=>match es,c.argTypes.toList with
     | [s,x],[t,tx]=>uZ Γ t fun ti=>uZ Γ tx fun tk=>match ti.kind,ti.aR with
       | .slice _,[.sl aR]=>.gu (uq tk.kind||Ig tk.kind) (SK (Γ.ms f d0) d0 aR s x)
       | _,_=>.fail
     | _,_=>.fail
   | _=>.fail
 | _=>.fail
def bit (t:Nat):Nat:=1 <<< t
def aj2 (m:Nat):Operand->Nat
 | .tmp t=>m ||| bit t
 | _=>m
def aee (ops:Array Oper):List Oper->Nat->Nat
 | [],m=>m
 | o::os,m =>
  let m:=aee ops os m
  let m:=match o.dst with
   | some d=>m ^^^ (m &&& bit d)
   | none=>m
  let m:=o.op.operands.toList.foldl aj2 m
  match o.guard with
  | some (i,_)=>(match (ops[i]?).bind (·.dst) with | some d=>m ||| bit d | none=>m)
  | none=>m
def SQ (ex:List (Nat×Nat)) (id:Nat):Nat:=match ex.find? (fun p=>Nat.beq p.1 id) with | some p=>p.2 | none=>0
def lin (ret:Nat):List (Nat×Nat)->Code->Nat->Nat
 | _,.region _ ops _,m=>aee ops ops.toList m
 | ex,.seq a b,m=>lin ret ex a (lin ret ex b m)
 | ex,.cond c a b,m=>aj2 (lin ret ex a m ||| lin ret ex b m) c
 | ex,.block id b,m=>lin ret ((id,m)::ex) b m
 | ex,.loop b,_=>lin ret ex b (lin ret ex b 0)
 | ex,.exit id,_=>SQ ex id
 | _,.ret,_=>ret
 | _,_,m=>m
structure Pack where
 es:List (Nat×eU)
 ks:List (Key×Ch)
 deriving Inhabited
inductive Qa where
 | normal | exit (id:Nat) | ret
 deriving Inhabited
def Ii:Ch->Bool
 | .Ib _ _ _=>false
 | .hol _ _ _ _ _=>false
 | _=>true
def uw (σ:S) (ds:List EN):Bool:=ds.all fun d=>Nat.beq (σ.k d.1).cv d.2&&Ii (σ.k d.1).ch
def qg (ds:List EN):List EN:=ds.map fun d=>(d.1,0)
def D5 (σ:S) (l:Leaf):Leaf :=
 match l.st with
 | .sn ds=>cond (uw σ ds) { l with st:=.sn (qg ds) } { l with st:=.dead,d:=.l [] }
 | .sb k _ cv _ _=>cond (uw σ [(k,cv)]) { l with st:=.sn [(k,0)] } { l with st:=.dead,d:=.l [] }
 | .al k n=>cond (Nat.beq (σ.k k).bK n&&Ii (σ.k k).ch) { l with st:=.al k 0 } { l with st:=.dead,d:=.l [] }
 | _=>l
def yM (σ:S):Nat->eU->eU
 | _,.one l=>.one (D5 σ l)
 | _,.agg ls=>.agg (ls.map (D5 σ))
 | n+1,.Sy es=>.Sy (es.map (yM σ n))
 | _,.ptr k n i off=>cond (Nat.beq (σ.k k).bK n&&Ii (σ.k k).ch) (.ptr k 0 i off) .junk
 | _,.rp ds aR row=>cond (uw σ ds) (.rp (qg ds) aR row) .junk
 | n+1,.fn f caps=>.fn f (caps.map (yM σ n))
 | _,.und=>.und
 | _,_=>.junk
def wS (l:Leaf):List Key:=match l.st with
 | .sn ds=>ds.map (·.1)
 | .sb k _ _ _ _=>[k]
 | .al k _=>[k]
 | _=>[]
def R5:Nat->eU->List Key
 | _,.one l=>wS l
 | _,.agg ls=>ls.flatMap wS
 | n+1,.Sy es=>es.flatMap (R5 n)
 | _,.ptr k _ _ _=>[k]
 | _,.rp ds _ _=>ds.map (·.1)
 | n+1,.fn _ caps=>caps.flatMap (R5 n)
 | _,_=>[]
def J6 (ks new:List Key):List Key:=new.foldl (fun ks k=>cond (ks.any (dH k)) ks (ks++[k])) ks
def agJ:Ch->List Key
 | .box ls=>ls.flatMap wS
 | _=>[]
def Y4 (k:Key):Nat->List Key->Key
 | _,[]=>k
 | i,u::us=>cond (dH k u) [1000000,i] (Y4 k (i+1) us)
def Y5 (np:Nat):Key->Bool
 | i::_=>Nat.blt i np
 | []=>false
def dV (np:Nat) (ks:List Key) (k:Key):Key:=cond (Y5 np k||dH k uo) k (Y4 k 0 ks)
def O5 (ks:List Key) (k:Key):Bool:=ks.any (dH k)
def ET (np:Nat) (ks:List Key) (ds:List EN):List EN:=ds.map fun d=>(dV np ks d.1,d.2)
def uy (np:Nat) (ks:List Key) (l:Leaf):Leaf :=
 match l.st with
 | .sn ds=>cond (ds.all fun d=>O5 ks d.1) { l with st:=.sn (ET np ks ds) } { l with st:=.dead,d:=.l [] }
 | .sb _ _ _ _ _=>{ l with st:=.dead,d:=.l [] }
 | .al k n=>cond (O5 ks k) { l with st:=.al (dV np ks k) n } { l with st:=.dead,d:=.l [] }
 | _=>l
def zJ (np:Nat) (ks:List Key):Nat->eU->eU
 | _,.one l=>.one (uy np ks l)
 | _,.agg ls=>.agg (ls.map (uy np ks))
 | n+1,.Sy es=>.Sy (es.map (zJ np ks n))
 | _,.ptr k n i off=>cond (O5 ks k) (.ptr (dV np ks k) n i off) .junk
 | _,.rp ds aR row=>cond (ds.all fun d=>O5 ks d.1) (.rp (ET np ks ds) aR row) .junk
 | n+1,.fn f caps=>.fn f (caps.map (zJ np ks n))
 | _,.und=>.und
 | _,_=>.junk
def xK (σ:S):Ch->Ch
 | .box ls=>.box (ls.map (D5 σ))
 | .Ib _ _ _=>.gone
 | .hol _ _ _ _ _=>.gone
 | c=>c
def Kz (np:Nat) (ks:List Key):Ch->Ch
 | .box ls=>.box (ls.map (uy np ks))
 | c=>c
def bitsOf (n m:Nat):List Nat:=(List.range n).filter fun t=>Nat.testBit m t
def Bp (np n m:Nat) (σ:S):Pack :=
 let es:=(bitsOf n m).map fun t=>(t,yM σ 3 (σ.s t))
 let ks:=J6 [] (es.flatMap fun e=>R5 3 e.2)
 let QZ:=J6 ks (ks.flatMap fun k=>agJ (xK σ (σ.k k).ch))
 ⟨es.map fun e=>(e.1,zJ np QZ 3 e.2),QZ.map fun k=>(dV np QZ k,Kz np QZ (xK σ (σ.k k).ch))⟩
def wu (t:Nat):List (Nat×eU)->eU
 | []=>.junk
 | (u,e)::r=>cond (Nat.beq t u) e (wu t r)
def Ij (k:Key):List (Key×Ch)->KE
 | []=>⟨.gone,0,0⟩
 | (u,c)::r=>cond (dH k u) ⟨c,0,0⟩ (Ij k r)
def nD (p:Pack):S:=⟨fun t=>wu t p.es,fun k=>Ij k p.ks⟩
def ada (b:Bool):eU:=.one ⟨.sc,.sc .bool,.b b⟩
variable (cf:FuncId->List Arg->R3 gD)
def Y6 (a b:Tr):Bool :=
 !(a.ws.any fun t=>b.ws.any (Nat.beq t)||b.rs.any (Nat.beq t)) && !(b.ws.any fun t=>a.rs.any (Nat.beq t)) &&
 !(a.wk.any fun t=>b.wk.any (dH t)||b.rk.any (dH t)) && !(b.wk.any fun t=>a.rk.any (dH t))
def Y7 (acc:List Nat) (o:Oper):Nat:=o.after.toList.foldl (fun s e=>cond (Region.binds .any e) (s ||| 2 ^ e.on ||| acc.getD e.on 0) s) 0
def Ik:List Oper->List Nat->List Nat
 | [],acc=>acc
 | o::os,acc=>Ik os (acc++[Y7 acc o])
def R6:Nat->List Oper->Bool
 | _,[]=>true
 | j,o::os=>(o.after.toList.all fun e=>!Region.binds .any e||Nat.blt e.on j)&&R6 (j+1) os
def R7 (bf:List Nat) (i:Nat) (ti:Tr):Nat->List Tr->Bool
 | _,[]=>true
 | j,tj::ts=>(Nat.testBit (bf.getD j 0) i||Y6 ti tj)&&R7 bf i ti (j+1) ts
def R8 (bf:List Nat):Nat->List Tr->Bool
 | _,[]=>true
 | i,ti::ts=>R7 bf i ti (i+1) ts&&R8 bf (i+1) ts
def SS (ops:Array Oper) (EO:List Tr):Bool:=R6 0 ops.toList&&R8 (Ik ops.toList []) 0 EO
def dA (np nt:Nat) (o:Oper):Bool:=match o.dst with | some d=>Nat.blt d nt | none=>true
def yN (g:Nat):List (Nat×Bool)->Option Bool
 | []=>none
 | (u,b)::r=>cond (Nat.beq g u) (some b) (yN g r)
def uz (ws:List Nat):List (Nat×Bool)->List (Nat×Bool)
 | []=>[]
 | (u,b)::r=>cond (ws.any (Nat.beq u)) (uz ws r) ((u,b)::uz ws r)
def aaN (asm:List (Nat×Bool)) (x:Operand) (e:eU):eU :=
 match x with
 | .tmp u=>(match yN u asm with
  | some w=>ada w
  | none=>e)
 | _=>e
def R9 (f:FuncId) (asm:List (Nat×Bool)) (o:Oper):Prog :=
 match o.op with
 | .pick (.tmp c) a b=>(match yN c asm with
  | some v=>.Cz c fun _=>rd a fun ea=>rd b fun eb=>cond v (vB (aaN asm a ea) fun s x=>pW o.dst s (SN s x)) (vB (aaN asm b eb) fun s x=>pW o.dst s (SN s x))
  | none=>bA Γ f o)
 | _=>bA Γ f o
def uD {α:Type} (f np nt:Nat) (ops:Array Oper):List Oper->S->List Tr->List (Nat×Bool)->(S->List Tr->List (Nat×Bool)->R3 α)->R3 α
 | [],σ,EO,asm,K=>K σ EO.reverse asm
 | o::os,σ,EO,asm,K =>
  cond (dA np nt o) (
   let step (tr0:Tr) (asm:List (Nat×Bool)):R3 α:=(R9 Γ f asm o).run cf σ tr0 fun σ tr=>uD f np nt ops os σ (tr::EO) (uz tr.ws asm) K
   let skip (g:Nat) (asm:List (Nat×Bool)):R3 α:=(put o.dst .und).run cf σ { rs:=[g] } fun σ tr=>uD f np nt ops os σ (tr::EO) (uz tr.ws asm) K
   match o.guard with
   | none=>step {} asm
   | some (i,want) =>
    match (ops[i]?).bind (·.dst) with
    | none=>.bad
    | some g =>
     match yN g asm with
     | some b=>cond (b==want) (step { rs:=[g] } asm) (skip g asm)
     | none =>
      match σ.s g with
      | .und=>skip g asm
      | .one ⟨.sc,.sc .bool,d⟩=>cond (d.bool==want) (step { rs:=[g] } ((g,want)::asm)) (skip g ((g,!want)::asm))
      | _=>.bad) .bad
def Y8 (σ:S):List (Nat×Bool)->S
 | []=>σ
 | (g,b)::r=>(Y8 σ r).lg g (ada b)
def yO (l:Leaf) (p:Prog):Prog :=
 match l.st with
 | .al key n=>.eX key fun ke=>cond (Nat.beq ke.bK n) (match ke.ch with
   | .row es _ rows=>.bq key { ke with ch:=.fz es rows } p
   | _=>p) p
 | _=>p
def D6:List Leaf->Prog->Prog
 | [],p=>p
 | l::ls,p=>yO l (D6 ls p)
def Kt:List (Nat×Nat)->Prog
 | []=>.ret
 | (t,j)::r=>.Cz t fun e=>match e with
  | .one l=>yO l (Kt r)
  | .agg ls=>yO (ls.getD j default) (Kt r)
  | .ptr k _ _ off=>.eX k fun ke=>(match ke.ch with
   | .box ls=>yO (ls.getD (off+j) default) (Kt r)
   | _=>Kt r)
  | _=>Kt r
structure Fi where
 f:FuncId
 np:Nat
 nt:Nat
 ret:Nat
def nE {α:Type} (lf:List (Nat×Nat)->Code->Pack->R3 (Qa×Pack)) (fi:Fi):List (Nat×Nat)->Nat->Code->S->(Qa->S->R3 α)->R3 α
 | _,_,.skip,σ,K=>K .normal σ
 | _,_,.region id ops dr,σ,K=>(Kt (Γ.rg fi.f id)).run cf σ {} fun σ _=>uD Γ cf fi.f fi.np fi.nt ops ops.toList σ [] [] fun σ EO asm=>cond (!dr||SS ops EO) (K .normal (Y8 σ asm)) .bad
 | ex,af,.seq a b,σ,K=>nE lf fi ex (lin fi.ret ex b af) a σ fun c σ=>match c with
   | .normal=>nE lf fi ex af b σ K
   | c=>K c σ
 | ex,af,.cond c a b,σ,K =>
  match c with
  | .tmp t=>(match σ.s t with
   | .one ⟨.sc,.sc .bool,d⟩=>cond d.bool (nE lf fi ex af a (σ.lg t (ada true)) K) (nE lf fi ex af b (σ.lg t (ada false)) K)
   | _=>.bad)
  | .const (.bool true)=>nE lf fi ex af a σ K
  | .const (.bool false)=>nE lf fi ex af b σ K
  | _=>.bad
 | ex,af,.block id b,σ,K=>nE lf fi ((id,af)::ex) af b σ fun c σ=>match c with
   | .exit id'=>cond (Nat.beq id' id) (K .normal σ) (K (.exit id') σ)
   | c=>K c σ
 | ex,_,.loop b,σ,K=>(lf ex b (Bp fi.np fi.nt (lin fi.ret ex b (lin fi.ret ex b 0)) σ)).bind fun cp=>K cp.1 (nD cp.2)
 | _,_,.exit id,σ,K=>K (.exit id) σ
 | _,_,.ret,σ,K=>K .ret σ
 | _,_,_,_,_=>.bad
def KA (fi:Fi):Nat->List (Nat×Nat)->Code->Pack->R3 (Qa×Pack)
 | 0,_,_,_=>.bad
 | n+1,ex,b,p =>
  let m:=lin fi.ret ex b (lin fi.ret ex b 0)
  nE Γ cf (KA fi n) fi ex m b (nD p) fun c σ=>match c with
   | .normal=>KA fi n ex b (Bp fi.np fi.nt m σ)
   | .exit id=>.ok (.exit id,Bp fi.np fi.nt (SQ ex id) σ)
   | .ret=>.ok (.ret,Bp fi.np fi.nt fi.ret σ)
def ade (i j:Nat):AL->Leaf
 | .sc s d=>⟨.sc,.sc s,d⟩
 | .fz es rows=>⟨.sn [],.sl es,.l rows⟩
 | .dz es rows=>⟨.sn [(uo,0)],.sl es,.l rows⟩
 | .own es _ _=>⟨.al [i,j] 0,.sl es,.l []⟩
 | .nl es=>⟨.nl,.sl es,.l []⟩
def zK (i:Nat):Nat->List AL->List Leaf
 | _,[]=>[]
 | j,a::as=>ade i j a::zK i (j+1) as
def aj3:Arg->eU
 | .Ky aR row=>.rp [(uo,0)] aR row
 | _=>.junk
def agK (i:Nat):Arg->eU
 | .one a=>.one (ade i 0 a)
 | .agg as=>.agg (zK i 0 as)
 | .Ky aR row=>.rp [(uo,0)] aR row
 | .bx _=>.ptr [i,u6] 0 0 0
 | .fn f caps=>.fn f (caps.map aj3)
def KC (i:Nat):Nat->List AL->List (Key×Ch)
 | _,[]=>[]
 | j,a::as=>match a with
  | .own es ms rows=>([i,j],.row es ms rows)::KC i (j+1) as
  | _=>KC i (j+1) as
def aef (i:Nat):Arg->List (Key×Ch)
 | .one a=>KC i 0 [a]
 | .agg as=>KC i 0 as
 | .bx as=>([i,u6],.box (zK i 0 as))::KC i 0 as
 | _=>[]
def SV:Nat->List Arg->List (Nat×eU)
 | _,[]=>[]
 | i,a::as=>(i,agK i a)::SV (i+1) as
def zL:Nat->List Arg->List (Key×Ch)
 | _,[]=>[]
 | i,a::as=>aef i a++zL (i+1) as
def O6 (args:List Arg):Pack:=⟨SV 0 args,zL 0 args⟩
def aj4:Ch->Bool | .gone=>true | _=>false
def Sb (σ:S) (np:Nat) (l:Leaf):Option RL :=
 match l.lt,l.st with
 | .sc s,.sc=>some (.sc s l.d)
 | .sl es,.nl=>some (.nl es)
 | .sl es,.sn ds=>(match ds with
  | []=>some (.fz es l.d.rows)
  | ds=>cond (aj4 (σ.k uo).ch&&ds.all fun d=>dH d.1 uo&&Nat.beq (σ.k uo).cv d.2) (some (.dz es l.d.rows)) none)
 | .sl es0,.al k n =>
  let ke:=σ.k k
  cond (Nat.beq ke.bK n) (match ke.ch with
   | .fz es rows=>cond (LT.dS es0 es) (some (.fz es rows)) none
   | .row es ms rows=>cond (LT.dS es0 es) (match k with
     | [i,j]=>cond (Nat.blt i np) (some (.par i j)) (some (.own k es ms rows))
     | _=>cond (Nat.blt (k.headD 0) np) none (some (.own k es ms rows))) none
   | _=>none) none
 | _,_=>none
def lH (σ:S) (np:Nat):List Leaf->Option (List RL)
 | []=>some []
 | l::ls=>match Sb σ np l,lH σ np ls with
  | some r,some rs=>some (r::rs)
  | _,_=>none
def SX (σ:S) (np:Nat):eU->Option RE
 | .one l=>(Sb σ np l).map .one
 | .agg ls=>(lH σ np ls).map .agg
 | .ptr k n _ off=>cond (Nat.beq (σ.k k).bK n&&Nat.beq off 0 && !Nat.blt (k.headD 0) np) (match (σ.k k).ch with
  | .box ls=>(lH σ np ls).map (.bx k)
  | _=>none) none
 | _=>none
def MU (σ:S) (np:Nat):List eU->Option (List RE)
 | []=>some []
 | l::ls=>match SX σ np l,MU σ np ls with
  | some r,some rs=>some (r::rs)
  | _,_=>none
def Bq (σ:S) (i:Nat):Nat->List AL->List (Option (List LT×List M×List (List T)))
 | _,[]=>[]
 | j,a::as=>(match a with
  | .own ..=>(match (σ.k [i,j]).ch with | .row es ms rows=>some (es,ms,rows) | _=>none)
  | _=>none)::Bq σ i (j+1) as
def agL (σ:S) (i:Nat) (a:Arg):List (Option (List LT×List M×List (List T))) :=
 match a with | .one a=>Bq σ i 0 [a] | .agg as=>Bq σ i 0 as | .bx as=>Bq σ i 0 as | _=>[]
def wz (σ:S):Nat->List Arg->List (List (Option (List LT×List M×List (List T))))
 | _,[]=>[]
 | i,a::as=>agL σ i a::wz σ (i+1) as
def CG (σ:S) (np:Nat):Nat->List Arg->Option (List (Option (List RL)))
 | _,[]=>some []
 | i,.bx _::as=>(match (σ.k [i,u6]).ch with
  | .box ls=>(match lH σ np ls,CG σ np (i+1) as with
   | some r,some rs=>some (some r::rs)
   | _,_=>none)
  | _=>none)
 | i,_::as=>(CG σ np (i+1) as).map (none :: ·)
def iH (rl:RL):List Key:=match rl with | .own k _ _ _=>[k] | _=>[]
def iJ (o:Option (List RL)):List Key:=match o with | some ls=>ls.flatMap iH | none=>[]
def dQ:RE->List Key
 | .one (.own k _ _ _)=>[k]
 | .agg ls=>ls.filterMap fun l=>match l with | .own k _ _ _=>some k | _=>none
 | .bx k ls=>k::ls.flatMap iH
 | _=>[]
def zA:List Key->Bool
 | []=>true
 | k::ks=>!(ks.any (dH k))&&zA ks
def adf (σ:S):List ResultVar->Option (List eU)
 | []=>some []
 | .tmp t::rs=>(adf σ rs).map fun es=>σ.s t::es
 | .cell a t::rs=>match Γ.ty t,σ.s a with
  | some ti,.ptr k m _ off=>cond (Nat.beq (σ.k k).bK m) (match (σ.k k).ch with
    | .box ls=>cond (Nat.ble (off+ti.aR.length) ls.length) ((adf σ rs).map fun es=>Ic (zD ti.kind) ((ls.drop off).take ti.aR.length)::es) none
    | _=>none) none
  | _,_=>none
def GN (fn:Func) (args:List Arg) (σ:S):R3 gD :=
 let np:=args.length
 match adf Γ σ fn.results.toList with
 | none=>.bad
 | some es =>
  match MU σ np es with
  | some rs=>(match CG σ np 0 args with
   | some bs=>cond (zA (rs.flatMap dQ++bs.flatMap iJ)) (.ok ⟨rs,wz σ 0 args,bs⟩) .bad
   | none=>.bad)
  | none=>.bad
def CJ:List ResultVar->Prog->Prog
 | [],p=>p
 | .tmp t::rs,p=>.Cz t fun e=>(match e with | .one l=>yO l (CJ rs p) | .agg ls=>D6 ls (CJ rs p) | _=>CJ rs p)
 | .cell a _::rs,p=>.Cz a fun e=>(match e with | .ptr k _ _ _=>.eX k fun ke=>(match ke.ch with | .box ls=>D6 ls (CJ rs p) | _=>CJ rs p) | _=>CJ rs p)
def EU (nk:Key) (l:Leaf) (k:Leaf->Prog):Prog :=
 match l.st with
 | .al key n=>cond (dH key nk) (k l) (.eX key fun ke=>cond (Nat.beq ke.bK n) (match ke.ch with
   | .row es ms rows=>.eX nk fun kn=>.bq nk ⟨.row es ms rows,kn.bK+1,kn.cv+1⟩ (.bq key ⟨.gone,ke.bK+1,ke.cv+1⟩ (k ⟨.al nk (kn.bK+1),.sl es,.l []⟩))
   | _=>k l) (k l))
 | _=>k l
def amx:M->PM | .F=>.R | .O ms=>.O ms
def akY:M->Bool | .O [.O []]=>true | _=>false
def Sc (nk:Key) (m:M) (l:Leaf) (k:Leaf->Prog):Prog :=
 cond (akY m) (k l) <| match l.st with
 | .nl=>wP nk (amx m) l [] fun l _=>k l
 | .al key _=>(match m with
  | .O ms=>.eX key fun ke=>(match ke.ch with
   | .row _ ms0 _=>cond (M.vw ms0 ms) (wP nk (.O ms) l [] fun l _=>EU nk l k) (EU nk l k)
   | _=>EU nk l k)
  | .F=>EU nk l k)
 | _=>k l
def D7 (base:Nat):Nat->List M->List Leaf->(List Leaf->Prog)->Prog
 | _,_,[],k=>k []
 | j,ms,l::ls,k=>Sc [6000000,base,j] (ms.headD .F) l fun l=>D7 base (j+1) ms.tail ls fun ls=>k (l::ls)
def aj5 (ls:List Leaf):Bool:=ls.any fun l=>match l.st with | .nl=>true | .al _ _=>true | _=>false
def O7 (base:Nat) (ms:List M) (key:Key) (n:Nat) (p:Prog):Prog :=
 .eX key fun ke=>cond (Nat.beq ke.bK n) (match ke.ch with
  | .box ls=>cond (aj5 ls) (D7 base 0 ms ls fun ls'=>.eX key fun ke=>.gu (Nat.beq ke.bK n) (match ke.ch with
   | .box ls0=>.gu (Nat.beq ls'.length ls0.length) (.bq key ⟨.box ls',ke.bK,ke.cv+1⟩ p)
   | _=>.fail)) p
  | _=>p) p
def xL (f:FuncId):Nat->List ResultVar->Prog->Prog
 | _,[],p=>p
 | q,.tmp t::rs,p=>.Cz t fun e=>(match e with
  | .one l=>Sc [6000000,q,0] ((Γ.can f q).headD .F) l fun l=>.lg t (.one l) (xL f (q+1) rs p)
  | .agg ls=>cond (aj5 ls) (D7 q 0 (Γ.can f q) ls fun ls=>.lg t (.agg ls) (xL f (q+1) rs p)) (xL f (q+1) rs p)
  | .ptr k n _ _=>O7 q (Γ.can f q) k n (xL f (q+1) rs p)
  | _=>xL f (q+1) rs p)
 | q,.cell a _::rs,p=>.Cz a fun e=>(match e with | .ptr k n _ _=>O7 q (Γ.can f q) k n (xL f (q+1) rs p) | _=>xL f (q+1) rs p)
def MV (f:FuncId):Nat->List Arg->Prog->Prog
 | _,[],p=>p
 | i,.bx _::as,p=>O7 (1000+i) (Γ.can f (1000+i)) [i,u6] 0 (MV f (i+1) as p)
 | i,_::as,p=>MV f (i+1) as p
def Bt (f:FuncId) (fn:Func) (args:List Arg):Prog :=
 let p:=xL Γ f 0 fn.results.toList (MV Γ f 0 args .ret)
 cond (Γ.ret f) (CJ fn.results.toList p) p
def MW (fn:Func):Nat:=fn.results.foldl (fun m r=>match r with | .tmp t=>m ||| bit t | .cell t _=>m ||| bit t) 0
def aj6:AL->Bool | .own ..=>true | _=>false
def MX (args:List Arg):Nat:=args.zipIdx.foldl (fun m (a,i)=>cond (match a with | .one l=>aj6 l | .agg ls=>ls.any aj6 | .bx _=>true | _=>false) (m ||| bit i) m) 0
def Il (jA:FuncId->Option (List Arg->R3 gD)):Nat->FuncId->List Arg->R3 gD
 | 0,_,_=>.bad
 | n+1,f,args =>
  match jA f with
  | some g=>g args
  | none =>
   match Γ.fn f with
   | none=>.bad
   | some fn =>
    match fn.body with
    | none=>.bad
    | some c =>
     let fi:Fi:=⟨f,args.length,fn.ntmps,MW fn ||| MX args⟩
     cond (Nat.ble args.length 1000000&&Nat.ble args.length fn.ntmps) (nE Γ (Il jA n) (KA Γ (Il jA n) fi n) fi [] fi.ret c (nD (O6 args)) fun ctl σ=>match ctl with
      | .exit _=>.bad
      | _=>(Bt Γ f fn args).run (Il jA n) σ {} fun σ _=>GN Γ fn args σ) .bad
end ops
end Go.E

namespace Go.E
abbrev tO:List LT:=[.sc (.int .i64),.sc (.str),.sc (.str)]
abbrev tP:List LT:=[.sc (.str),.sc (.str)]
abbrev tR:List LT:=[.sc (.int .i64),.sc (.int .i64),.sl tO]
abbrev tS:List LT:=[.sc (.int .i64),.sl tR,.sc (.int .i64),.sl [.sc (.str),.sc (.str)],.sl tR]
abbrev tJ:List LT:=[.sc (.int .i64),.sl tO,.sc (.int .i64),.sl [.sc (.int .i64)]]
abbrev tW:List LT:=[.sc (.int .i64),.sc (.int .i64),.sc (.int .i64),.sl tO,.sc (.bool)]
abbrev tB:List LT:=[.sc (.int .i64),.sl tO]
abbrev tC:List LT:=[.sc (.int .i64),.sc (.bool)]
abbrev tI:List LT:=[.sc (.int .i64)]
abbrev tT:List LT:=[.sc (.str)]
abbrev tU:List LT:=[.sc (.int .u8)]
abbrev mS:List M:=[.F,.O [.F,.F,.F],.F,.O [.F,.F],.O [.F,.F,.F]]
abbrev m5:List M:=[.F,.F,.F,.F,.F]
abbrev m4:List M:=[.F,.F,.F,.F]
abbrev m3:List M:=[.F,.F,.F]
abbrev m2:List M:=[.F,.F]
end Go.E

namespace Go.E
open Go
abbrev aB:=Nat->Nat->Prop
def aB.or (A B:aB):aB:=fun b o=>A b o\/B b o
def aB.apart (A B:aB):Prop:=∀ b o,A b o->B b o->False
def cellAt (w:World) (b o:Nat):Option Value:=w.cell? ⟨b,o,none⟩
def Single (v:Value):Prop:=(∀ cs,v ≠ .agg cs)/\(∀ vs,v ≠ .tuple vs)
theorem Single.cells {v:Value} (h:Single v):v.cells = #[v]:=by
 cases v <;> first | rfl | exact absurd rfl (h.1 _)
def O8:ST->Value->T->Prop
 | .int k,c,d=>∃ n,c = .int k n/\d = .i n/\k.min<=n/\n<=k.max
 | .bool,c,d=>∃ b,c = .bool b/\d = .b b
 | .str,c,d=>∃ s,c = .string s/\d = .s s/\s.size<9223372036854775808
 | .any,c,d=>d = .x c/\Single c
mutual
def aL (w:World) (S:aB):LT->Value->T->Prop
 | .sc s,c,d=>O8 s c d
 | .sl es,c,d=>∃ a cap rows,d = .l rows/\c = .slice a rows.length cap/\rows.length<=cap/\rows.length<=aW /\
   (rows=[] \/ ∃ b o,a=some ⟨b,o,none⟩ /\ ∀ i (h:i<rows.length),bY w S S es b (o+i * es.length) rows[i])
def bY (w:World) (A S:aB):List LT->Nat->Nat->List T->Prop
 | [],_,_,row=>row=[]
 | e::es,b,o,row=>∃ d rest v,row=d::rest/\A b o/\cellAt w b o=some v/\aL w S e v d/\bY w A S es b (o+1) rest
end
theorem O8.single {s:ST} {c:Value} {d:T} (h:O8 s c d):Single c:=by
 cases s
 ·obtain ⟨n,rfl,-⟩:=h; exact ⟨fun _ h=>(nomatch h),fun _ h=>(nomatch h)⟩
 ·obtain ⟨n,rfl,-⟩:=h; exact ⟨fun _ h=>(nomatch h),fun _ h=>(nomatch h)⟩
 ·obtain ⟨n,rfl,-⟩:=h; exact ⟨fun _ h=>(nomatch h),fun _ h=>(nomatch h)⟩
 ·exact h.2
theorem aL.single {w:World} {S:aB} {lt:LT} {c:Value} {d:T} (h:aL w S lt c d):Single c:=by
 cases lt with
 | sc s=>unfold aL at h; exact h.single
 | sl es=>unfold aL at h; obtain ⟨a,cap,rows,-,rfl,-⟩:=h; exact ⟨fun _ h=>(nomatch h),fun _ h=>(nomatch h)⟩
mutual
theorem aL.mono {w w':World} {S S':aB} (hs : ∀ b o,S b o->S' b o) (hw : ∀ b o,S b o->cellAt w' b o=cellAt w b o) :
  ∀ (lt:LT) {c:Value} {d:T},aL w S lt c d->aL w' S' lt c d
 | .sc s,c,d,h=>by unfold aL at *; exact h
 | .sl es,c,d,h=>by
  unfold aL at h ⊢
  obtain ⟨a,cap,rows,h1,h2,h3,h4,h6⟩:=h
  refine ⟨a,cap,rows,h1,h2,h3,h4,?_⟩
  rcases h6 with h6 | ⟨b,o,ha,h6⟩
  ·exact .inl h6
  ·exact .inr ⟨b,o,ha,fun i hi=>bY.mono hs hw hs hw es (h6 i hi)⟩
theorem bY.mono {w w':World} {A A' S S':aB} (ha : ∀ b o,A b o->A' b o) (hwa : ∀ b o,A b o->cellAt w' b o=cellAt w b o)
  (hs : ∀ b o,S b o->S' b o) (hw : ∀ b o,S b o->cellAt w' b o=cellAt w b o) :
  ∀ (es:List LT) {b o:Nat} {row:List T},bY w A S es b o row->bY w' A' S' es b o row
 | [],b,o,row,h=>by unfold bY at *; exact h
 | e::es,b,o,row,h=>by
  unfold bY at h ⊢
  obtain ⟨d,rest,v,h1,h2,h3,h4,h5⟩:=h
  exact ⟨d,rest,v,h1,ha _ _ h2,(hwa _ _ h2).trans h3,aL.mono hs hw e h4,bY.mono ha hwa hs hw es h5⟩
end
theorem dY : ∀ (a b:Key),dH a b=true ↔ a=b
 | [],[]=>by simp [dH]
 | [],_::_=>by simp [dH]
 | _::_,[]=>by simp [dH]
 | a::as,b::bs=>by simp [dH,dY as bs]
theorem fG (a:Key):dH a a=true:=(dY a a).2 rfl
def noO (ms:List M):Prop:=∀ m∈ms,∀ x,m ≠ .O x
def Block (w:World) (b:Nat) (c:Array Value) (el:TypeId) (fz:Nat×Nat):Prop:=w.heap[b]? = some (.cells c el fz)
def aO (p:List Value->List T->List Nat->Prop) (sz:Nat):List (List T)->List Value->List Nat->Prop
 | [],_,bs=>bs=[]
 | r::rs,cs,bs=>∃ b1 b2,bs=b1++b2/\p (cs.take sz) r b1/\aO p sz rs (cs.drop sz) b2
mutual
def bQ (w:World) (I:aB):LT->M->Value->T->List Nat->Prop
 | .sc s,_,v,d,bs=>O8 s v d/\bs=[]
 | .sl es,.F,v,d,bs=>aL w I (.sl es) v d/\bs=[]
 | .sl es,.O ms,v,d,bs=>∃ rows,d = .l rows/\es≠[]/\rows.length<=aW/\(((∃ a,v = .slice a 0 0)/\rows=[]/\bs=[]) \/
   ∃ b cap c el fz bs',bs=b::bs'/\v = .slice (some ⟨b,0,none⟩) rows.length cap/\rows.length<=cap/\Block w b c el fz/\c.size=cap * es.length/\(∀ o,o<=c.size->¬ (fz.1<=o/\o<fz.2)) /\
    aO (fun vs ds bs=>av w I es ms vs ds bs) es.length rows c.toList bs')
def av (w:World) (I:aB):List LT->List M->List Value->List T->List Nat->Prop
 | [],_,vs,ds,bs=>vs=[]/\ds=[]/\bs=[]
 | e::es,ms,vs,ds,bs=>∃ v vs' d ds' b1 b2,vs=v::vs'/\ds=d::ds'/\bs=b1++b2/\bQ w I e (ms.headD .F) v d b1/\av w I es ms.tail vs' ds' b2
end
def pX (w:World) (b:Nat):Nat:=match w.heap[b]? with | some (.cells c _ _)=>c.size | _=>0
def eZ (w:World):List Nat->Prop
 | []=>True
 | b::bs=>(b∈bs->pX w b=0)/\eZ w bs
def FB (w:World) (bs:List Nat):aB:=fun b o=>b∈bs/\o<pX w b
def aV (w:World) (I:aB) (es:List LT) (ms:List M) (rows:List (List T)) (h:Value) (F:aB):Prop :=
 ∃ bs,eZ w bs/\bQ w I (.sl es) (.O ms) h (.l rows) bs /\ ∀ b o,F b o ↔ FB w bs b o
structure Gh where
 h:Key->Value
 F:Key->aB
 D:aB
def Live:Ch->Prop
 | .box _=>True
 | .row _ _ _=>True
 | .Ib _ _ _=>True
 | .hol _ _ _ _ _=>True
 | _=>False
def cu (κ:Key->KE) (g:Gh) (I:aB) (ds:List EN):aB:=fun b o=>I b o \/ ∃ d∈ds,(d.1=uo/\g.D b o)\/(Live (κ d.1).ch/\g.F d.1 b o)
def Cur (κ:Key->KE) (ds:List EN):Prop:=∀ d∈ds,(κ d.1).cv=d.2
def Old (κ:Key->KE) (ds:List EN):Prop:=∀ d∈ds,d.2<=(κ d.1).cv
def ai8:LT->Prop | .sl _=>True | _=>False
def addrIn (esz:Nat) (h:Value) (i off:Nat):Option (Nat×Nat) :=
 match h with
 | .pointer (some ⟨b,o,none⟩)=>some (b,o+off)
 | .slice (some ⟨b,o,none⟩) _ _=>some (b,o+i * esz+off)
 | _=>none
def mJ:Ch->Nat
 | .row es _ _=>es.length
 | .fz es _=>es.length
 | .hol es _ _ _ _=>es.length
 | _=>0
def H6 (κ:Key->KE) (g:Gh) (w:World) (I:aB) (l:Leaf) (v:Value):Prop :=
 Single v/\match l.st with
 | .sc=>∃ s,l.lt = .sc s/\O8 s v l.d
 | .nl=>ai8 l.lt/\v = .slice none 0 0/\l.d = .l []
 | .sn ds=>ai8 l.lt/\Old κ ds/\(Cur κ ds->aL w (cu κ g I ds) l.lt v l.d)
 | .sb k n cv r off=>ai8 l.lt/\n<=(κ k).bK/\Old κ [(k,cv)]/\(Cur κ [(k,cv)]->aL w (cu κ g I [(k,cv)]) l.lt v l.d /\
   ((κ k).bK=n->∃ b o,addrIn (mJ (κ k).ch) (g.h k) r off=some (b,o)/\cellAt w b o=some v/\cu κ g I [(k,cv)] b o))
 | .al k n=>ai8 l.lt/\n<=(κ k).bK/\((κ k).bK=n->v=g.h k)
 | .dead=>True
def bT (κ:Key->KE) (g:Gh) (w:World) (I:aB):List Leaf->List Value->Prop
 | [],[]=>True
 | l::ls,v::vs=>H6 κ g w I l v/\bT κ g w I ls vs
 | _,_=>False
def rA (κ:Key->KE) (g:Gh) (w:World) (I:aB):eU->Value->Prop
 | .one l,v=>H6 κ g w I l v
 | .agg ls,v=>∃ cs,v = .agg cs/\bT κ g w I ls cs.toList
 | .ptr k n i off,v=>Single v/\n<=(κ k).bK/\((κ k).bK=n->∃ b o,v = .pointer (some ⟨b,o,none⟩)/\addrIn (mJ (κ k).ch) (g.h k) i off=some (b,o))
 | .rp ds aR row,v=>Single v/\Old κ ds/\(Cur κ ds->∃ b o,v = .pointer (some ⟨b,o,none⟩)/\bY w (cu κ g I ds) (cu κ g I ds) aR b o row)
 | .und,v=>v=undef
 | .junk,_=>True
 | _,_=>False
def pQ (κ:Key->KE) (g:Gh) (w:World) (I:aB):List eU->List Value->Prop
 | [],[]=>True
 | l::ls,v::vs=>rA κ g w I l v/\pQ κ g w I ls vs
 | _,_=>False
def jC (κ:Key->KE) (g:Gh) (w:World) (I:aB):eU->Value->Prop
 | .Sy es,v=>∃ vs,v = .tuple vs/\pQ κ g w I es vs.toList
 | .fn f caps,v=>∃ vs,v = .func (.func f) #[] vs/\pQ κ g w I caps vs.toList
 | e,v=>rA κ g w I e v
def mQ (κ:Key->KE) (g:Gh) (w:World) (I:aB) (ls:List Leaf) (h:Value) (F:aB):Prop :=
 ∃ b o c el fz,h = .pointer (some ⟨b,o,none⟩)/\Block w b c el fz/\o+ls.length<=c.size /\
  (∀ j,j<ls.length->¬ (fz.1<=o+j/\o+j<fz.2))/\(∀ b' o',F b' o' ↔ b'=b/\o<=o'/\o'<o+ls.length) /\
  bT κ g w I ls ((c.toList.drop o).take ls.length)
def SY (κ:Key->KE) (g:Gh) (w:World) (I:aB) (k:Key) (m j:Nat) (ls:List Leaf) (h:Value) (F:aB):Prop :=
 (∃ b o c el fz,h = .pointer (some ⟨b,o,none⟩)/\Block w b c el fz/\o+m+ls.length<=c.size /\
  (∀ j,j<m+ls.length->¬ (fz.1<=o+j/\o+j<fz.2))/\(∀ b' o',F b' o' ↔ b'=b/\o+m<=o'/\o'<o+m+ls.length) /\
  bT κ g w I ls ((c.toList.drop (o+m)).take ls.length)) /\
 j<=(κ (nM k)).bK/\((κ (nM k)).bK=j->g.h (nM k)=h)
def S9 (κ:Key->KE) (g:Gh) (w:World) (I:aB) (k:Key) (es:List LT) (ms:List M) (rows:List (List T)) (r j:Nat) (h:Value) (F:aB):Prop :=
 es≠[]/\rows.length<=aW/\r<rows.length /\
 (∃ b cap c el fz B1 B2,h = .slice (some ⟨b,0,none⟩) rows.length cap/\rows.length<=cap/\Block w b c el fz/\c.size=cap * es.length/\(∀ o,o<=c.size->¬ (fz.1<=o/\o<fz.2)) /\
  aO (fun vs ds bs=>av w I es ms vs ds bs) es.length (rows.take r) c.toList B1 /\
  aO (fun vs ds bs=>av w I es ms vs ds bs) es.length (rows.drop (r+1)) (c.toList.drop ((r+1) * es.length)) B2 /\
  eZ w (b::(B1++B2))/\(∀ b' o',F b' o' ↔ (b'=b/\o'<c.size /\ ¬ (r * es.length<=o'/\o'<(r+1) * es.length))\/FB w (B1++B2) b' o') /\
  j<=(κ (iG k)).bK/\((κ (iG k)).bK=j->g.h (iG k) = .pointer (some ⟨b,r * es.length,none⟩)))
def KD (κ:Key->KE) (g:Gh) (w:World) (I:aB) (k:Key):Ch->Prop
 | .box ls=>mQ κ g w I ls (g.h k) (g.F k)
 | .Ib m j ls=>SY κ g w I k m j ls (g.h k) (g.F k)
 | .row es ms rows=>aV w I es ms rows (g.h k) (g.F k)
 | .hol es ms rows r j=>S9 κ g w I k es ms rows r j (g.h k) (g.F k)
 | .fz es rows=>aL w I (.sl es) (g.h k) (.l rows)
 | .gone=>True
def fU (np:Nat):Key->Prop
 | i::_=>i<np
 | []=>False
structure Fr where
 nt:Nat
 np:Nat
 big:np<=1000000
 H:Key->Value
 D:aB
 A:aB
 B:aB
def Im (n:Fr) (I:aB):aB:=fun b o=>I b o\/n.A b o
structure RX (n:Fr) (κ:Key->KE) (g:Gh) (I:aB) (w:World):Prop where
 par : ∀ k,fU n.np k->Live (κ k).ch->g.h k=n.H k
 dq:g.D=n.D
 da : ∀ b o,g.D b o->n.A b o
 wT : ∀ k,Live (κ k).ch->aB.apart (g.F k) n.A
 awf : ∀ b o,n.A b o->∃ v,cellAt w b o=some v
 ia : ∀ b o,I b o->n.A b o->n.B b o
structure R (n:Fr) (σ:S) (g:Gh) (I:aB) (a:Act) (w:World):Prop where
 size:a.tmps.size=n.nt
 nd:a.defers=[]
 slots : ∀ t,jC σ.k g w I (σ.s t) (a.tmps.getD t undef)
 uY : ∀ k,KD σ.k g w I k (σ.k k).ch
 sep : ∀ k k',Live (σ.k k).ch->Live (σ.k k').ch->k≠k'->aB.apart (g.F k) (g.F k')
 jr : ∀ k,Live (σ.k k).ch->aB.apart (g.F k) I
 zM : ∀ b o,I b o->∃ v,cellAt w b o=some v
 x:RX n σ.k g I w
def pY (I:aB) (b:Nat) (x y:Obj):Prop :=
 match x with
 | .cells c el fz=>∃ c',y = .cells c' el fz/\c'.size=c.size /\ ∀ o,I b o->c'[o]? = c[o]?
 | _=>y=x
structure Keeps (I:aB) (w w':World):Prop where
 size:w.heap.size<=w'.heap.size
 obj : ∀ b x,w.heap[b]? = some x->∃ y,w'.heap[b]? = some y/\pY I b x y
 os:w'.os=w.os
 output:w'.output=w.output
 tape:w'.tape=w.tape
theorem pY.refl (I:aB) (b:Nat) (x:Obj):pY I b x x:=by
 cases x <;> first | exact ⟨_,rfl,rfl,fun _ _=>rfl⟩ | rfl
theorem Keeps.refl (I:aB) (w:World):Keeps I w w:=⟨Nat.le_refl _,fun _ _ h=>⟨_,h,.refl _ _ _⟩,rfl,rfl,rfl⟩
theorem pY.trans {I J:aB} {b:Nat} {x y z:Obj} (hij : ∀ o,I b o->J b o) (h:pY I b x y) (h':pY J b y z):pY I b x z:=by
 cases x <;> simp only [pY] at h ⊢ <;> try (subst h; simpa [pY] using h')
 obtain ⟨c',rfl,h1,h2⟩:=h
 simp only [pY] at h'
 obtain ⟨c'',rfl,h3,h4⟩:=h'
 exact ⟨c'',rfl,h3.trans h1,fun o ho=>(h4 o (hij o ho)).trans (h2 o ho)⟩
theorem Keeps.trans {I J:aB} {w w' w'':World} (hij : ∀ b o,I b o->J b o) (h:Keeps I w w') (h':Keeps J w' w''):Keeps I w w'' :=
 ⟨Nat.le_trans h.size h'.size,fun b x hx=>by
  obtain ⟨y,hy,h1⟩:=h.obj b x hx
  obtain ⟨z,hz,h2⟩:=h'.obj b y hy
  exact ⟨z,hz,h1.trans (hij b) h2⟩,h'.os.trans h.os,h'.output.trans h.output,h'.tape.trans h.tape⟩
theorem Keeps.cell {I:aB} {w w':World} (h:Keeps I w w') {b o:Nat} (hi:I b o) (hv : ∃ v,cellAt w b o=some v):cellAt w' b o=cellAt w b o:=by
 obtain ⟨v,hv⟩:=hv
 unfold cellAt World.cell? at hv ⊢
 simp only at hv ⊢
 cases hx:w.heap[b]? with
 | none=>simp [hx] at hv
 | some x =>
  obtain ⟨y,hy,hk⟩:=h.obj b x hx
  cases x with
  | cells c el fz =>
   obtain ⟨c',rfl,-,h2⟩:=hk
   simp [hy,h2 o hi]
  | _=>simp [hx] at hv
theorem RX.step {n:Fr} {κ κ':Key->KE} {g g':Gh} {I I':aB} {w w':World} (h:RX n κ g I w) (hk:Keeps n.A w w') (hd:g'.D=g.D)
  (hl : ∀ k,Live (κ' k).ch->(fU n.np k->Live (κ k).ch/\g'.h k=g.h k\/g'.h k=n.H k)/\aB.apart (g'.F k) n.A) (hi : ∀ b o,I' b o->I b o \/ ¬ n.A b o):RX n κ' g' I' w' where
 par k hp hv:=by
  rcases (hl k hv).1 hp with ⟨h1,h2⟩ | h1
  ·rw [h2]; exact h.par k hp h1
  ·exact h1
 dq:=hd.trans h.dq
 da b o hb:=h.da b o (hd ▸ hb)
 wT k hv:=(hl k hv).2
 awf b o ha:=by
  obtain ⟨v,hv⟩:=h.awf b o ha
  exact ⟨v,(hk.cell ha ⟨v,hv⟩).trans hv⟩
 ia b o h1 h2:=(hi b o h1).elim (fun h3=>h.ia b o h3 h2) fun h3=>absurd h2 h3
structure fQ (κ:Key->KE) (g:Gh) (w:World) (I:aB) (κ':Key->KE) (g':Gh) (w':World) (I':aB):Prop where
 cv : ∀ k,(κ k).cv<=(κ' k).cv
 bK : ∀ k,(κ k).bK<=(κ' k).bK
 foot : ∀ k,(κ' k).cv=(κ k).cv->Live (κ k).ch->∀ b o,g.F k b o->((Live (κ' k).ch/\g'.F k b o)\/I' b o)/\cellAt w' b o=cellAt w b o
 head : ∀ k,(κ' k).bK=(κ k).bK->g'.h k=g.h k/\mJ (κ' k).ch=mJ (κ k).ch
 jr : ∀ b o,I b o->I' b o/\cellAt w' b o=cellAt w b o
 dd : ∀ b o,g.D b o->g'.D b o/\cellAt w' b o=cellAt w b o
section evo
variable {κ κ':Key->KE} {g g':Gh} {w w':World} {I I':aB}
theorem fQ.cur (e:fQ κ g w I κ' g' w' I') {ds:List EN} (ho:Old κ ds) (hc:Cur κ' ds):Cur κ ds:=fun d hd=>by
 have h1:=e.cv d.1; have h2:=ho d hd; have h3:=hc d hd; omega
theorem fQ.old (e:fQ κ g w I κ' g' w' I') {ds:List EN} (ho:Old κ ds):Old κ' ds:=fun d hd=>Nat.le_trans (ho d hd) (e.cv d.1)
theorem fQ.dep (e:fQ κ g w I κ' g' w' I') {ds:List EN} (ho:Old κ ds) (hc:Cur κ' ds) :
  ∀ b o,cu κ g I ds b o->cu κ' g' I' ds b o/\cellAt w' b o=cellAt w b o:=by
 intro b o h
 rcases h with h | ⟨d,hd,⟨hk,hf⟩ | ⟨hl,hf⟩⟩
 ·exact ⟨.inl (e.jr b o h).1,(e.jr b o h).2⟩
 ·exact ⟨.inr ⟨d,hd,.inl ⟨hk,(e.dd b o hf).1⟩⟩,(e.dd b o hf).2⟩
 ·have h1:=e.cur ho hc d hd
  obtain ⟨h2,h3⟩:=e.foot d.1 ((hc d hd).trans h1.symm) hl b o hf
  exact ⟨h2.elim (fun h=>.inr ⟨d,hd,.inr h⟩) .inl,h3⟩
theorem fQ.leaf (e:fQ κ g w I κ' g' w' I') {lt:LT} {v:Value} {d:T} (h:aL w I lt v d):aL w' I' lt v d :=
 aL.mono (fun b o h=>(e.jr b o h).1) (fun b o h=>(e.jr b o h).2) lt h
theorem fQ.lf (e:fQ κ g w I κ' g' w' I') {l:Leaf} {v:Value} (h:H6 κ g w I l v):H6 κ' g' w' I' l v:=by
 obtain ⟨hs,h⟩:=h
 refine ⟨hs,?_⟩
 cases hst:l.st with
 | sc=>simpa [hst] using h
 | nl=>simpa [hst] using h
 | sn ds =>
  simp only [hst] at h ⊢
  obtain ⟨h1,h2,h3⟩:=h
  exact ⟨h1,e.old h2,fun hc=>aL.mono (fun b o hb=>(e.dep h2 hc b o hb).1) (fun b o hb=>(e.dep h2 hc b o hb).2) _ (h3 (e.cur h2 hc))⟩
 | al k n =>
  simp only [hst] at h ⊢
  obtain ⟨h1,h2,h3⟩:=h
  have:=e.bK k
  refine ⟨h1,Nat.le_trans h2 this,fun hc=>?_⟩
  have h4:(κ k).bK=n:=by omega
  rw [(e.head k (hc.trans h4.symm)).1]; exact h3 h4
 | sb k n cv r off =>
  simp only [hst] at h ⊢
  obtain ⟨h1,h2,h3,h4⟩:=h
  refine ⟨h1,Nat.le_trans h2 (e.bK k),e.old h3,fun hc=>?_⟩
  obtain ⟨h5,h6⟩:=h4 (e.cur h3 hc)
  refine ⟨aL.mono (fun b o hb=>(e.dep h3 hc b o hb).1) (fun b o hb=>(e.dep h3 hc b o hb).2) _ h5,fun hi=>?_⟩
  have h7:(κ k).bK=n:=by have:=e.bK k; omega
  obtain ⟨b,o,h8,h9,h10⟩:=h6 h7
  obtain ⟨h11,h12⟩:=e.head k (hi.trans h7.symm)
  exact ⟨b,o,by rw [h11,h12]; exact h8,(e.dep h3 hc b o h10).2.trans h9,(e.dep h3 hc b o h10).1⟩
 | dead=>trivial
theorem fQ.lfs (e:fQ κ g w I κ' g' w' I') : ∀ {ls:List Leaf} {vs:List Value},bT κ g w I ls vs->bT κ' g' w' I' ls vs
 | [],[],_=>trivial
 | _::_,_::_,h=>⟨e.lf h.1,e.lfs h.2⟩
 | [],_::_,h=>h.elim
 | _::_,[],h=>h.elim
theorem fQ.Wv (e:fQ κ g w I κ' g' w' I') {x:eU} {v:Value} (h:rA κ g w I x v):rA κ' g' w' I' x v:=by
 cases x with
 | one l=>exact e.lf h
 | agg ls=>obtain ⟨cs,h1,h2⟩:=h; exact ⟨cs,h1,e.lfs h2⟩
 | ptr k n i off =>
  obtain ⟨h0,h1,h2⟩:=h
  have:=e.bK k
  refine ⟨h0,Nat.le_trans h1 this,fun hc=>?_⟩
  have h4:(κ k).bK=n:=by omega
  obtain ⟨h5,h6⟩:=e.head k (hc.trans h4.symm)
  rw [h5,h6]; exact h2 h4
 | rp ds aR row =>
  obtain ⟨h0,h1,h2⟩:=h
  refine ⟨h0,e.old h1,fun hc=>?_⟩
  obtain ⟨b,o,h3,h4⟩:=h2 (e.cur h1 hc)
  exact ⟨b,o,h3,bY.mono (fun b o hb=>(e.dep h1 hc b o hb).1) (fun b o hb=>(e.dep h1 hc b o hb).2) (fun b o hb=>(e.dep h1 hc b o hb).1) (fun b o hb=>(e.dep h1 hc b o hb).2) _ h4⟩
 | und=>exact h
 | junk=>trivial
 | Sy _=>exact h.elim
 | fn _ _=>exact h.elim
theorem fQ.XE (e:fQ κ g w I κ' g' w' I') : ∀ {ls:List eU} {vs:List Value},pQ κ g w I ls vs->pQ κ' g' w' I' ls vs
 | [],[],_=>trivial
 | _::_,_::_,h=>⟨e.Wv h.1,e.XE h.2⟩
 | [],_::_,h=>h.elim
 | _::_,[],h=>h.elim
theorem fQ.ent (e:fQ κ g w I κ' g' w' I') {x:eU} {v:Value} (h:jC κ g w I x v):jC κ' g' w' I' x v:=by
 cases x with
 | Sy es=>obtain ⟨vs,h1,h2⟩:=h; exact ⟨vs,h1,e.XE h2⟩
 | fn f es=>obtain ⟨vs,h1,h2⟩:=h; exact ⟨vs,h1,e.XE h2⟩
 | one l=>exact e.Wv (x:=.one l) h
 | agg l=>exact e.Wv (x:=.agg l) h
 | ptr k n i off=>exact e.Wv (x:=.ptr k n i off) h
 | rp ds aR row=>exact e.Wv (x:=.rp ds aR row) h
 | und=>exact h
 | junk=>trivial
theorem fQ.refl:fQ κ g w I κ g w I :=
 ⟨fun _=>Nat.le_refl _,fun _=>Nat.le_refl _,fun _ _ hl _ _ hf=>⟨.inl ⟨hl,hf⟩,rfl⟩,fun _ _=>⟨rfl,rfl⟩,fun _ _ h=>⟨h,rfl⟩,fun _ _ h=>⟨h,rfl⟩⟩
theorem fQ.trans {amy:Key->KE} {g'':Gh} {w'':World} {I'':aB} (e:fQ κ g w I κ' g' w' I') (e':fQ κ' g' w' I' amy g'' w'' I'') :
  fQ κ g w I amy g'' w'' I'' where
 cv k:=Nat.le_trans (e.cv k) (e'.cv k)
 bK k:=Nat.le_trans (e.bK k) (e'.bK k)
 foot k hc hl b o hf:=by
  have h1:=e.cv k; have h2:=e'.cv k
  obtain ⟨h3,h4⟩:=e.foot k (by omega) hl b o hf
  rcases h3 with ⟨h5,h6⟩ | h5
  ·obtain ⟨h7,h8⟩:=e'.foot k (by omega) h5 b o h6
   exact ⟨h7,h8.trans h4⟩
  ·exact ⟨.inr (e'.jr b o h5).1,(e'.jr b o h5).2.trans h4⟩
 head k hc:=by
  have h1:=e.bK k; have h2:=e'.bK k
  obtain ⟨h3,h4⟩:=e.head k (by omega)
  obtain ⟨h5,h6⟩:=e'.head k (by omega)
  exact ⟨h5.trans h3,h6.trans h4⟩
 jr b o h:=⟨(e'.jr b o (e.jr b o h).1).1,(e'.jr b o (e.jr b o h).1).2.trans (e.jr b o h).2⟩
 dd b o h:=⟨(e'.dd b o (e.dd b o h).1).1,(e'.dd b o (e.dd b o h).1).2.trans (e.dd b o h).2⟩
end evo
end Go.E

namespace Go.E
open Go
def Prog.wp (cf:FuncId->List Arg->R3 gD):Prog->S->Tr->(S->Tr->Prop)->Prop
 | .ret,σ,tr,Q=>Q σ tr
 | .fail,_,_,_=>False
 | .out,_,_,_=>True
 | .gu c p,σ,tr,Q=>c=true/\p.wp cf σ tr Q
 | .lim c p,σ,tr,Q=>c=true->p.wp cf σ tr Q
 | .br c p q,σ,tr,Q=>if c then p.wp cf σ tr Q else q.wp cf σ tr Q
 | .Cz t k,σ,tr,Q=>(k (σ.s t)).wp cf σ { tr with rs:=t::tr.rs } Q
 | .lg t e p,σ,tr,Q=>p.wp cf (σ.lg t e) { tr with ws:=t::tr.ws } Q
 | .eX k c,σ,tr,Q=>(c (σ.k k)).wp cf σ { tr with rk:=k::tr.rk } Q
 | .bq k e p,σ,tr,Q=>p.wp cf (σ.bq k e) { tr with wk:=k::tr.wk } Q
 | .call f args k,σ,tr,Q=>match cf f args with
  | .ok r=>(k r).wp cf σ tr Q
  | .out=>True
  | .bad=>False
theorem Prog.qK {cf:FuncId->List Arg->R3 gD} {α:Type} : ∀ (p:Prog) (σ:S) (tr:Tr) (K:S->Tr->R3 α),
  p.run cf σ tr K ≠ .bad->p.wp cf σ tr fun σ tr=>K σ tr ≠ .bad
 | .ret,σ,tr,K,h=>h
 | .fail,_,_,_,h=>(h rfl).elim
 | .out,_,_,_,_=>trivial
 | .gu c p,σ,tr,K,h=>by
  cases c
  ·exact (h rfl).elim
  ·exact ⟨rfl,Prog.qK p σ tr K h⟩
 | .lim c p,σ,tr,K,h=>fun _=>Prog.qK p σ tr K h
 | .br c p q,σ,tr,K,h=>by
  cases c
  ·exact Prog.qK q σ tr K h
  ·exact Prog.qK p σ tr K h
 | .Cz t k,σ,tr,K,h=>Prog.qK (k (σ.s t)) σ _ K h
 | .lg t e p,σ,tr,K,h=>Prog.qK p _ _ K h
 | .eX k c,σ,tr,K,h=>Prog.qK (c (σ.k k)) σ _ K h
 | .bq k e p,σ,tr,K,h=>Prog.qK p _ _ K h
 | .call f args k,σ,tr,K,h=>by
  simp only [Prog.run,R3.bind] at h
  simp only [Prog.wp]
  cases hc:cf f args with
  | ok r=>simp only [hc] at h; exact Prog.qK (k r) σ tr K h
  | out=>trivial
  | bad=>simp [hc] at h
theorem Prog.wp_mono {cf:FuncId->List Arg->R3 gD} {Q Q':S->Tr->Prop} (hq : ∀ σ tr,Q σ tr->Q' σ tr) : ∀ (p:Prog) (σ:S) (tr:Tr),
  p.wp cf σ tr Q->p.wp cf σ tr Q'
 | .ret,σ,tr,h=>hq _ _ h
 | .fail,_,_,h=>h
 | .out,_,_,_=>trivial
 | .gu c p,σ,tr,h=>⟨h.1,Prog.wp_mono hq p σ tr h.2⟩
 | .lim c p,σ,tr,h=>fun hc=>Prog.wp_mono hq p σ tr (h hc)
 | .br c p q,σ,tr,h=>by
  cases c
  ·exact Prog.wp_mono hq q σ tr (by simpa [Prog.wp] using h)
  ·exact Prog.wp_mono hq p σ tr (by simpa [Prog.wp] using h)
 | .Cz t k,σ,tr,h=>Prog.wp_mono hq (k (σ.s t)) σ _ h
 | .lg t e p,σ,tr,h=>Prog.wp_mono hq p _ _ h
 | .eX k c,σ,tr,h=>Prog.wp_mono hq (c (σ.k k)) σ _ h
 | .bq k e p,σ,tr,h=>Prog.wp_mono hq p _ _ h
 | .call f args k,σ,tr,h=>by
  simp only [Prog.wp] at h ⊢
  cases hc:cf f args with
  | ok r=>simp only [hc] at h ⊢; exact Prog.wp_mono hq (k r) σ tr h
  | out=>trivial
  | bad=>simp [hc] at h
def zeroV:LT->Value->Prop
 | .sc (.int k),v=>v = .int k 0
 | .sc .bool,v=>v = .bool false
 | .sc .str,v=>v = .string .empty
 | .sc .any,v=>Single v
 | .sl _,v=>v = .slice none 0 0
def EW:List LT->List Value->Prop
 | [],[]=>True
 | l::ls,v::vs=>zeroV l v/\EW ls vs
 | _,_=>False
def agN (Γ:Ctx) (P:Program) (ti:TI):TK->TypeDesc->Prop
 | .sc (.int k),d=>d = .int k/\ti.aR=[.sc (.int k)]
 | .sc .bool,d=>d = .bool/\ti.aR=[.sc .bool]
 | .sc .str,d=>d = .string/\ti.aR=[.sc .str]
 | .sc .any,_=>False
 | .slice e,d=>d = .slice e /\ ∃ te,Γ.ty e=some te/\ti.aR=[.sl te.aR]/\te.aR≠[]
 | .struct fs,d=>∃ fields,d = .struct fields/\fs=fields.toList.map (fun f=>(f.offset,f.type)) /\
   ∀ f∈fields.toList,∃ i,P.info? f.type=some i/\i.size≠0
 | .array n e,d=>d = .array n e
 | .ptr e,d=>d = .pointer e/\ti.aR=[.sc .any]
 | .other,d=>(∀ fs,d ≠ .struct fs)/\(∀ n e,d ≠ .array n e)/\ti.aR=[.sc .any]
def Y9 (P:Program):Nat->List Field->List LT->Prop
 | _,[],[]=>True
 | j,f::fs,lt::aR=>f.name ≠ "_" /\ f.offset=j/\(match lt with
   | .sc (.int k)=>P.underlying f.type=some (.int k)
   | .sc .bool=>P.underlying f.type=some .bool
   | .sc .str=>P.underlying f.type=some .string
   | _=>False)/\Y9 P (j+1) fs aR
 | _,_,_=>False
def adg (P:Program) (t:TypeId) (aR:List LT):Prop :=
 ∃ fields,P.underlying t=some (.struct fields)/\P.stoodInHeld t=false/\P.eqGuardType P.depth t=false/\Y9 P 0 fields.toList aR
structure vD (Γ:Ctx) (P:Program) (t:TypeId) (ti:TI):Prop where
 und : ∃ d,P.underlying t=some d/\agN Γ P ti ti.kind d
 flat:ti.flat=true->adg P t ti.aR
 info : ∃ i,P.info? t=some i/\i.size=ti.aR.length/\ti.bytes=i.bytes/\ti.aR.length<=i.bytes/\i.bytes<=24 * ti.aR.length /\ ∃ z,i.zero=some z/\EW ti.aR z.cells.toList
structure eF (Γ:Ctx) (P:Program):Prop where
 ty : ∀ t ti,Γ.ty t=some ti->vD Γ P t ti
 fn : ∀ f fn,Γ.fn f=some fn->P.funcs[f]? = some fn
 enter : ∀ f fn,Γ.fn f=some fn->fn.body.isNone=false/\(fn.name == "runtime.NumGoroutine")=false
 mixed:P.follows .mixedOrders=true
theorem Io {np nt:Nat} {o:Oper} {d:Nat} (hd:dA np nt o=true) (h:o.dst=some d):d<nt/\(np<=1000000->∀ r,¬ fU np ((d+2000000)::r)):=by
 unfold dA at hd
 rw [h] at hd
 have h2:d<nt:=by simpa [Nat.blt_eq] using hd
 exact ⟨h2,fun hb r hr=>by simp only [fU] at hr; omega⟩
def Goal (P:Program) (o:Oper) (a:Act) (w:World) (K:Act->World->Prop) (Q:Exit->Act->World->Prop):Prop :=
 o.wp P a w K Q\/(o.asks P a w/\LetsOut Q)
theorem zN {P:Program} {o:Oper} {a:Act} {w w':World} {K:Act->World->Prop} {Q:Exit->Act->World->Prop} {v:Value}
  (h:(execOp a.eval o).run P w = .ok (.value v) w') (hk:K (a.put o.dst v) w'):Goal P o a w K Q:=by
 refine .inl ?_
 unfold Oper.wp
 rw [h]
 exact hk
theorem afg {P:Program} {o:Oper} {a:Act} {w w':World} {K:Act->World->Prop} {Q:Exit->Act->World->Prop}
  (h:(execOp a.eval o).run P w = .ok .skip w') (hk:K (a.put o.dst undef) w'):Goal P o a w K Q:=by
 refine .inl ?_
 unfold Oper.wp
 rw [h]
 exact hk
section run
variable {Γ:Ctx} {P:Program} {w:World} {t:TypeId} {ti:TI}
theorem run_underlying {d:TypeDesc} (h:P.underlying t=some d):(underlying t).run P w = .ok d w:=by
 simp [underlying,h,go_sem]
end run
section slots
variable {n:Fr} {σ:S} {g:Gh} {I:aB} {a:Act} {w:World}
theorem agO (xs:Array Value) (i j:Nat) (v u:Value) (hi:i<xs.size):(xs.setIfInBounds i v).getD j u=if j=i then v else xs.getD j u:=by
 by_cases h:j=i
 ·subst h; simp [hi]
 ·simp [h,Array.getElem?_setIfInBounds_ne (Ne.symm h)]
theorem R.put (hR:R n σ g I a w) {d:Nat} (hd:d<n.nt) {e:eU} {v:Value} (he:jC σ.k g w I e v) :
  R n (σ.lg d e) g I (a.put (some d) v) w where
 size:=by simp [Act.put,hR.size]
 nd:=hR.nd
 slots t:=by
  have h1:(a.put (some d) v).tmps.getD t undef=if t=d then v else a.tmps.getD t undef:=agO _ _ _ _ _ (by rw [hR.size]; exact hd)
  rw [h1]
  by_cases h:t=d
  ·subst h
   simp only [S.lg,Nat.beq_refl,cond_true,if_true]
   exact he
  ·have h2:Nat.beq t d=false:=by cases hb:Nat.beq t d; rfl; exact absurd (Nat.eq_of_beq_eq_true hb) h
   simp only [S.lg,h2,cond_false,if_neg h]
   exact hR.slots t
 uY:=hR.uY
 sep:=hR.sep
 jr:=hR.jr
 zM:=hR.zM
 x:=hR.x
end slots
end Go.E

namespace Go.E
open Go
section
variable {Γ:Ctx} {P:Program} {cf:FuncId->List Arg->R3 gD}
variable {n:Fr} {σ:S} {g:Gh} {I:aB} {a:Act} {w:World}
def Post (P:Program) (n:Fr) (I:aB) (w:World) (Q:S->Tr->Prop) (K:Act->World->Prop):Prop :=
 ∀ σ' dw g' I' a' w',Q σ' dw->R n σ' g' I' a' w'->(∀ b o,I b o->I' b o)->Keeps (Im n I) w w'->K a' w'
theorem al9 {v:Value} (h : ∀ cs,v ≠ .agg cs) (h' : ∀ vs,v ≠ .tuple vs):Single v:=⟨h,h'⟩
theorem Ta {v:Value} {l:Leaf} (κ:Key->KE) (h:yL v=some l):H6 κ g w I l v:=by
 unfold yL at h
 split at h
 ·cases h; exact ⟨⟨fun _ h=>(nomatch h),fun _ h=>(nomatch h)⟩,.bool,rfl,_,rfl,rfl⟩
 ·split at h
  ·rename_i hh; cases h; exact ⟨⟨fun _ h=>(nomatch h),fun _ h=>(nomatch h)⟩,.int _,rfl,_,rfl,rfl,hh⟩
  ·cases h
 ·split at h
  ·rename_i hh; cases h; exact ⟨⟨fun _ h=>(nomatch h),fun _ h=>(nomatch h)⟩,.str,rfl,_,rfl,rfl,hh⟩
  ·cases h
 ·cases h; exact ⟨⟨fun _ h=>(nomatch h),fun _ h=>(nomatch h)⟩,trivial,rfl,rfl⟩
 ·cases h
theorem MZ (κ:Key->KE) : ∀ {vs:List Value} {ls:List Leaf},vs.mapM yL=some ls->bT κ g w I ls vs
 | [],ls,h=>by simp at h; subst h; trivial
 | v::vs,ls,h=>by
  simp only [List.mapM_cons,Option.bind_eq_bind,Option.bind_eq_some_iff,Option.pure_def,Option.some.injEq] at h
  obtain ⟨l,h1,ls',h2,rfl⟩:=h
  exact ⟨Ta κ h1,MZ κ h2⟩
theorem jv {x:Operand} {k:eU->Prog} {tr:Tr} {Q:S->Tr->Prop} (hR:R n σ g I a w) (h:(rd x k).wp cf σ tr Q) :
  ∃ e dw,jC σ.k g w I e (a.eval x)/\(k e).wp cf σ dw Q:=by
 unfold rd at h
 split at h
 ·exact ⟨_,_,hR.slots _,h⟩
 ·exact ⟨.junk,tr,trivial,h⟩
 ·unfold oZ at h
  split at h
  ·rename_i ls hl; exact ⟨.agg ls,tr,⟨_,rfl,MZ _ hl⟩,h⟩
  ·exact h.elim
 ·unfold oZ at h
  split at h
  ·rename_i l hl; exact ⟨.one l,tr,Ta _ hl,h⟩
  ·exact h.elim
 ·rename_i f; exact ⟨.fn f [],tr,⟨#[],rfl,trivial⟩,h⟩
 ·exact h.elim
theorem dN {α:Type} {o:Option α} {k:α->Prog} {tr:Tr} {Q:S->Tr->Prop} (h:(oZ o k).wp cf σ tr Q) :
  ∃ x,o=some x/\(k x).wp cf σ tr Q:=by
 unfold oZ at h
 split at h
 ·exact ⟨_,rfl,h⟩
 ·exact h.elim
theorem oG {e:eU} {k:ST->T->Prog} {tr:Tr} {Q:S->Tr->Prop} {v:Value} (he:jC σ.k g w I e v) (h:(vB e k).wp cf σ tr Q) :
  ∃ s d,e = .one ⟨.sc,.sc s,d⟩/\O8 s v d/\(k s d).wp cf σ tr Q:=by
 unfold vB at h
 split at h
 ·obtain ⟨-,s',hs,hv⟩:=he
  cases hs
  exact ⟨_,_,rfl,hv,h⟩
 ·exact h.elim
theorem EX {e:eU} {k:Leaf->Prog} {tr:Tr} {Q:S->Tr->Prop} {v:Value} (he:jC σ.k g w I e v) (h:(YT e k).wp cf σ tr Q) :
  ∃ l,e = .one l/\H6 σ.k g w I l v/\(k l).wp cf σ tr Q:=by
 unfold YT at h
 split at h
 ·exact ⟨_,rfl,he,h⟩
 ·exact h.elim
theorem jN {o:Oper} {e:eU} {v:Value} {tr:Tr} {Q:S->Tr->Prop} {K:Act->World->Prop} {Qm:Exit->Act->World->Prop}
  (hd:dA n.np n.nt o=true) (hR:R n σ g I a w) (hK:Post P n I w Q K)
  (hrun:(execOp a.eval o).run P w = .ok (.value v) w) (he:jC σ.k g w I e v) (h:(put o.dst e).wp cf σ tr Q):Goal P o a w K Qm:=by
 refine zN hrun ?_
 unfold put at h
 cases hds:o.dst with
 | none =>
  simp only [hds] at h ⊢
  exact hK _ _ g I _ _ h hR (fun _ _ h=>h) (Keeps.refl _ _)
 | some d =>
  simp only [hds] at h ⊢
  exact hK _ _ g I _ _ h (hR.put (Io hd hds).1 he) (fun _ _ h=>h) (Keeps.refl _ _)
theorem mR {o:Oper} {s:ST} {d:T} {v:Value} {tr:Tr} {Q:S->Tr->Prop} {K:Act->World->Prop} {Qm:Exit->Act->World->Prop}
  (hd:dA n.np n.nt o=true) (hR:R n σ g I a w) (hK:Post P n I w Q K)
  (hrun:(execOp a.eval o).run P w = .ok (.value v) w) (he:O8 s v d) (h:(pW o.dst s d).wp cf σ tr Q):Goal P o a w K Qm :=
 jN hd hR hK hrun (e:=.one ⟨.sc,.sc s,d⟩) ⟨he.single,s,rfl,he⟩ h
end
end Go.E

namespace Go.E
open Go
theorem Tc (k:IntKind) (x:Int):k.min<=k.wrap x/\k.wrap x<=k.max:=by
 have e8:(2:Int) ^ 8=256:=by decide
 have e7:(2:Int) ^ 7=128:=by decide
 have e16:(2:Int) ^ 16=65536:=by decide
 have e15:(2:Int) ^ 15=32768:=by decide
 have e32:(2:Int) ^ 32=4294967296:=by decide
 have e31:(2:Int) ^ 31=2147483648:=by decide
 have e64:(2:Int) ^ 64=18446744073709551616:=by decide
 have e63:(2:Int) ^ 63=9223372036854775808:=by decide
 cases k <;> simp only [IntKind.wrap,IntKind.min,IntKind.max,IntKind.bits,IntKind.signed,Bool.true_and,Bool.false_and,if_true,Bool.false_eq_true,if_false,Nat.reduceSub,e8,e7,e16,e15,e32,e31,e64,e63,decide_eq_true_eq] <;> (try split) <;> omega
theorem xM {k:IntKind} {x:Int} : O8 (.int k) (.int k (k.wrap x)) (.i (k.wrap x)):=⟨_,rfl,rfl,(Tc k x).1,(Tc k x).2⟩
theorem nG {b:Bool} : O8 .bool (.bool b) (.b b):=⟨_,rfl,rfl⟩
theorem M0 (k:IntKind):k.min<=0/\0<=k.max:=by
 cases k <;> simp [IntKind.min,IntKind.max,IntKind.bits,IntKind.signed]
theorem Td {k:IntKind} {x y:Int} (h:k.min<=x/\x<=k.max):k.min<=x.tmod y/\x.tmod y<=k.max:=by
 have h0:=M0 k
 have h1:(x.tmod y).natAbs<=x.natAbs:=by rw [Int.natAbs_tmod]; exact Nat.mod_le _ _
 rcases Int.le_total 0 x with hx | hx
 ·have h2:=Int.tmod_nonneg y hx
  omega
 ·have h3:=Int.tmod_nonneg y (show 0<=-x by omega)
  rw [Int.neg_tmod] at h3
  omega
theorem adh {k:IntKind} {x:Int} {m:Nat} (h:k.min<=x/\x<=k.max):k.min<=x.fdiv (2 ^ m)/\x.fdiv (2 ^ m)<=k.max:=by
 have h0:=M0 k
 have hp:(0:Int)<2 ^ m:=Int.pow_pos (by decide)
 rw [Int.fdiv_eq_ediv_of_nonneg _ (by omega)]
 rcases Int.le_total 0 x with hx | hx
 ·have h2:=Int.ediv_nonneg hx (show (0:Int)<=2 ^ m by omega)
  have h3:=Int.ediv_le_self (2 ^ m) hx
  omega
 ·have h2:x<=x / 2 ^ m:=by
   rw [Int.le_ediv_iff_mul_le hp]
   have h1:(0:Int)<=2 ^ m-1:=by omega
   have:=Int.mul_nonneg (show 0<=-x by omega) h1
   have e : -x * (2 ^ m-1)=x-x * 2 ^ m:=by rw [Int.mul_sub,Int.neg_mul]; omega
   omega
  have h3:x / 2 ^ m<=0:=by
   have:=Int.ediv_le_ediv hp hx
   simpa using this
  omega
section
variable {P:Program} {w:World} {ρ:Operand->Value} {o:Oper}
theorem run_move {x:Operand} (hop:o.op = .move x\/o.op = .assign x):(execOp ρ o).run P w = .ok (.value (ρ x)) w:=by
 rcases hop with hop | hop <;> simp [execOp,hop,go_sem]
theorem agP {c x y:Operand} {b:Bool} (hop:o.op = .pick c x y) (hb:ρ c = .bool b) :
  (execOp ρ o).run P w = .ok (.value (if b=true then ρ x else ρ y)) w:=by
 simp [execOp,hop,hb,asBool,go_sem]
theorem Za {x:Operand} {b o':Nat} (hop:o.op = .nilCheck x) (hv:ρ x = .pointer (some ⟨b,o',none⟩)) :
  (execOp ρ o).run P w = .ok (.value (ρ x)) w:=by
 simp [execOp,hop,hv,go_sem]
theorem aaQ {x:Operand} {i:Nat} {vs:Array Value} {v:Value} (hop:o.op = .extract x i) (hv:ρ x = .tuple vs) (h:vs[i]? = some v) :
  (execOp ρ o).run P w = .ok (.value v) w:=by
 simp [execOp,hop,hv,Instr.extract,h,go_sem]
end
section
variable {Γ:Ctx} {P:Program} {cf:FuncId->List Arg->R3 gD}
variable {n:Fr} {σ:S} {g:Gh} {I:aB} {a:Act} {w:World}
theorem tu (κ:Key->KE) : ∀ {aR:List LT} {ls:List Leaf} {vs:List Value},bT κ g w I ls vs->bT κ g w I (qd aR ls) vs
 | [],ls,vs,h=>by unfold qd; exact h
 | lt::aR,[],vs,h=>by unfold qd; exact h
 | lt::aR,l::ls,[],h=>h.elim
 | lt::aR,l::ls,v::vs,h=>by
  unfold qd
  refine ⟨?_,tu κ h.2⟩
  split
  ·rename_i e1
   obtain ⟨h1,h2⟩:=h.1
   refine ⟨h1,?_⟩
   simp only [e1] at h2 ⊢
   exact ⟨trivial,h2.2⟩
  ·exact h.1
theorem Zb {κ:Key->KE} {ls:List Leaf} {v:Value} (h:bT κ g w I ls [v]):jC κ g w I (O3 ls) v:=by
 unfold O3
 split
 ·exact h.1
 ·trivial
theorem Te {κ:Key->KE} {ls:List Leaf} {cs:Array Value} (h:bT κ g w I ls cs.toList):jC κ g w I (Ic true ls) (.agg cs):=⟨cs,rfl,h⟩
theorem O9 {κ:Key->KE} {ls:List Leaf} {v:Value} (h:bT κ g w I ls [v]):jC κ g w I (Ic false ls) v:=by
 unfold Ic
 simp only [cond_false]
 split
 ·exact h.1
 ·trivial
theorem fK {t:TypeId} {k:TI->Prog} {tr:Tr} {Q:S->Tr->Prop} (hΓ:eF Γ P) (h:(uZ Γ t k).wp cf σ tr Q) :
  ∃ ti,Γ.ty t=some ti/\vD Γ P t ti/\(k ti).wp cf σ tr Q:=by
 obtain ⟨ti,h1,h2⟩:=dN h
 exact ⟨ti,h1,hΓ.ty t ti h1,h2⟩
variable {o:Oper} {f:FuncId} {tr:Tr} {Q:S->Tr->Prop} {K:Act->World->Prop} {Qm:Exit->Act->World->Prop}
theorem Zc {aR:List LT} {κ:Key->KE} {e:eU} {v:Value} (h:jC κ g w I e v):jC κ g w I (O4 aR e) v:=by
 unfold O4
 split
 ·exact Zb (tu _ ⟨h,trivial⟩)
 ·obtain ⟨cs,h3,h4⟩:=h
  exact ⟨cs,h3,tu _ h4⟩
 ·exact h
theorem aeg {s:ST} {d:T} {v:Value} (h:O8 s v d):SN s d=d:=by
 cases s <;> first | rfl | skip
 obtain ⟨b,-,rfl⟩:=h
 rfl
theorem ai9 (hd:dA n.np n.nt o=true) (hR:R n σ g I a w) (hK:Post P n I w Q K) {c x y:Operand} (hop:o.op = .pick c x y)
  (h:(bA Γ f o).wp cf σ tr Q):Goal P o a w K Qm:=by
 simp only [bA,hop] at h
 obtain ⟨ec,t1,hc,h⟩:=jv hR h
 obtain ⟨ex,t2,hx,h⟩:=jv hR h
 obtain ⟨ey,t3,hy,h⟩:=jv hR h
 obtain ⟨s,d,rfl,hv,h⟩:=oG hc h
 split at h
 ·obtain ⟨b,hb,rfl⟩:=hv
  have hrun:=agP (P:=P) (w:=w) (ρ:=a.eval) hop hb
  simp only [Prog.wp,T.bool] at h
  cases b
  ·simp only [Bool.false_eq_true,if_false] at h hrun
   obtain ⟨s,d,rfl,hv,h⟩:=oG hy h
   rw [aeg hv] at h
   exact mR hd hR hK hrun hv h
  ·simp only [if_true] at h hrun
   obtain ⟨s,d,rfl,hv,h⟩:=oG hx h
   rw [aeg hv] at h
   exact mR hd hR hK hrun hv h
 ·exact h.elim
theorem tF {ds:List EN} {p:Prog} : ∀ {tr:Tr},(CB ds p).wp cf σ tr Q->Cur σ.k ds /\ ∃ dw,p.wp cf σ dw Q:=by
 induction ds with
 | nil=>intro tr h; exact ⟨fun _ h=>(nomatch h),tr,h⟩
 | cons d ds ih =>
  intro tr h
  obtain ⟨k,m⟩:=d
  obtain ⟨h1,h2⟩:=h
  obtain ⟨h3,h4⟩:=ih h2
  refine ⟨fun x hx=>?_,h4⟩
  rcases List.mem_cons.1 hx with rfl | hx
  ·exact Nat.eq_of_beq_eq_true h1
  ·exact h3 x hx
theorem aaR (hd:dA n.np n.nt o=true) (hR:R n σ g I a w) (hK:Post P n I w Q K) {x:Operand} (hop:o.op = .nilCheck x)
  (h:(bA Γ f o).wp cf σ tr Q):Goal P o a w K Qm:=by
 simp only [bA,hop] at h
 obtain ⟨e,t1,he,h⟩:=jv hR h
 have key : ∀ b o',a.eval x = .pointer (some ⟨b,o',none⟩)->(execOp a.eval o).run P w = .ok (.value (a.eval x)) w:=fun b o' hv=>Za hop hv
 split at h
 ·obtain ⟨h1,h2⟩:=h
  obtain ⟨b,o',hv,-⟩:=he.2.2 (Nat.eq_of_beq_eq_true h1)
  exact jN hd hR hK (key b o' hv) he h2
 ·obtain ⟨h1,t2,h2⟩:=tF h
  obtain ⟨b,o',hv,-⟩:=he.2.2 h1
  exact jN hd hR hK (key b o' hv) he h2
 ·exact h.elim
theorem adi (hd:dA n.np n.nt o=true) (hR:R n σ g I a w) (hK:Post P n I w Q K) {x:Operand} {i:Nat} (hop:o.op = .extract x i)
  (h:(bA Γ f o).wp cf σ tr Q):Goal P o a w K Qm:=by
 simp only [bA,hop] at h
 obtain ⟨e,t1,he,h⟩:=jv hR h
 split at h
 ·rename_i es
  obtain ⟨vs,hv,hs⟩:=he
  obtain ⟨x',hx,h⟩:=dN h
  have key : ∀ (es:List eU) (vs:List Value) (i:Nat),pQ σ.k g w I es vs->es[i]? = some x'->∃ v,vs[i]? = some v/\rA σ.k g w I x' v:=by
   intro es
   induction es with
   | nil=>intro vs i _ h; simp at h
   | cons e es ih =>
    intro vs i h1 h2
    cases vs with
    | nil=>exact h1.elim
    | cons v vs =>
     cases i with
     | zero=>simp at h2; subst h2; exact ⟨v,rfl,h1.1⟩
     | succ i=>simpa using ih vs i h1.2 (by simpa using h2)
  obtain ⟨v,hv1,hv2⟩:=key es vs.toList i hs hx
  have aoD:vs[i]? = some v:=by simpa using hv1
  have hrun:=aaQ (P:=P) (w:=w) (ρ:=a.eval) hop hv aoD
  refine jN hd hR hK hrun (e:=x') ?_ h
  cases x' <;> first | exact hv2 | exact hv2.elim
 ·exact h.elim
end
end Go.E

namespace Go.E
open Go
section
variable {P:Program} {w:World} {ρ:Operand->Value} {o:Oper}
theorem afh {op:BinOp} {t:TypeId} {x y:Operand} {k k':IntKind} {i j:Int} : (eqGuard op t x y (.int k i) (.int k' j)).run P w = .ok () w:=by
 cases op <;> simp [eqGuard,go_sem]
theorem afi {op:BinOp} {t:TypeId} {x y:Operand} {i j:ByteArray} : (eqGuard op t x y (.string i) (.string j)).run P w = .ok () w:=by
 cases op <;> simp [eqGuard,go_sem]
theorem adj {op:BinOp} {t:TypeId} {x y:Operand} {i j:Bool} : (eqGuard op t x y (.bool i) (.bool j)).run P w = .ok () w:=by
 cases op <;> simp [eqGuard,go_sem]
theorem tH {op:BinOp} {t t':TypeId} {x y:Operand} {v:Value} (hop:o.op = .binOp op t x y t')
  (hg:(eqGuard op t x y (ρ x) (ρ y)).run P w = .ok () w) (hv:(binOp op t (ρ x) (ρ y)).run P w = .ok v w) :
  (execOp ρ o).run P w = .ok (.value v) w:=by
 simp only [execOp,hop]
 rw [Sem.run_bind,Sem.run_bind,hg]
 simp [hv]
theorem Tf {op:UnOp} {t:TypeId} {x:Operand} {v:Value} (hop:o.op = .unOp op t x) (hv:(Op.unary op (ρ x)).run P w = .ok v w) :
  (execOp ρ o).run P w = .ok (.value v) w:=by
 simp only [execOp,hop]
 rw [Sem.run_bind,hv]
 simp
theorem aob {α:Type} (x:α):(pure x:Sem α).run P w = .ok x w:=rfl
end
section
variable {Γ:Ctx} {P:Program} {cf:FuncId->List Arg->R3 gD}
variable {n:Fr} {σ:S} {g:Gh} {I:aB} {a:Act} {w:World}
variable {o:Oper} {f:FuncId} {tr:Tr} {Q:S->Tr->Prop} {K:Act->World->Prop} {Qm:Exit->Act->World->Prop}
theorem afj {op:BinOp} {k:IntKind} {x y:Int} {C:ST->T->Prog} (t:TypeId) (hx:k.min<=x/\x<=k.max)
  (h:(ac7 op k x y C).wp cf σ tr Q) (h1:op ≠ .shl) (h2:op ≠ .shr) :
  ∃ s d v,(binOp op t (.int k x) (.int k y)).run P w = .ok v w/\O8 s v d/\(C s d).wp cf σ tr Q:=by
 cases op <;> simp only [ac7] at h <;> try (exact h.elim)
 case add=>exact ⟨_,_,_,by simp only [binOp,ne_eq,not_true_eq_false,if_false,Op.intArith]; rfl,xM,h⟩
 case sub=>exact ⟨_,_,_,by simp only [binOp,ne_eq,not_true_eq_false,if_false,Op.intArith]; rfl,xM,h⟩
 case mul=>exact ⟨_,_,_,by simp only [binOp,ne_eq,not_true_eq_false,if_false,Op.intArith]; rfl,xM,h⟩
 case quo =>
  obtain ⟨h0,h⟩:=h
  have hy:y≠0:=by simpa using h0
  exact ⟨_,_,_,by simp only [binOp,ne_eq,not_true_eq_false,if_false,Op.intDiv,hy]; rfl,xM,h⟩
 case rem =>
  obtain ⟨h0,h⟩:=h
  have hy:y≠0:=by simpa using h0
  exact ⟨.int k,.i (x.tmod y),.int k (x.tmod y),by simp only [binOp,ne_eq,not_true_eq_false,if_false,Op.intDiv,hy]; rfl,⟨_,rfl,rfl,(Td hx).1,(Td hx).2⟩,h⟩
 case and=>exact ⟨_,_,_,by simp only [binOp,ne_eq,not_true_eq_false,if_false,Op.intBits]; rfl,xM,h⟩
 case or=>exact ⟨_,_,_,by simp only [binOp,ne_eq,not_true_eq_false,if_false,Op.intBits]; rfl,xM,h⟩
 case xor=>exact ⟨_,_,_,by simp only [binOp,ne_eq,not_true_eq_false,if_false,Op.intBits]; rfl,xM,h⟩
 case andNot=>exact ⟨_,_,_,by simp only [binOp,ne_eq,not_true_eq_false,if_false,Op.intBits]; rfl,xM,h⟩
 case eql=>exact ⟨_,_,_,by simp only [binOp,ne_eq,not_true_eq_false,if_false,Op.intCmp]; rfl,nG,h⟩
 case neq=>exact ⟨_,_,_,by simp only [binOp,ne_eq,not_true_eq_false,if_false,Op.intCmp]; rfl,nG,h⟩
 case lss=>exact ⟨_,_,_,by simp only [binOp,ne_eq,not_true_eq_false,if_false,Op.intCmp]; rfl,nG,h⟩
 case leq=>exact ⟨_,_,_,by simp only [binOp,ne_eq,not_true_eq_false,if_false,Op.intCmp]; rfl,nG,h⟩
 case gtr=>exact ⟨_,_,_,by simp only [binOp,ne_eq,not_true_eq_false,if_false,Op.intCmp]; rfl,nG,h⟩
 case geq=>exact ⟨_,_,_,by simp only [binOp,ne_eq,not_true_eq_false,if_false,Op.intCmp]; rfl,nG,h⟩
theorem Zd:IntKind.i64.max=9223372036854775807:=by decide
theorem afk {op:BinOp} {x y:ByteArray} {C:ST->T->Prog} (t:TypeId)
  (h:(ac8 op x y C).wp cf σ tr Q) :
  ∃ s d v,(binOp op t (.string x) (.string y)).run P w = .ok v w/\O8 s v d/\(C s d).wp cf σ tr Q:=by
 cases op <;> simp only [ac8] at h <;> try (exact h.elim)
 case add =>
  obtain ⟨h0,h⟩:=h
  have h1:x.size+y.size<9223372036854775808:=by simpa using h0
  have h2 : ¬ (((x.size+y.size:Nat):Int) > IntKind.i64.max):=by rw [Zd]; omega
  exact ⟨.str,_,.string (x++y),by simp only [binOp,Op.stringOp,h2,if_false]; rfl,⟨_,rfl,rfl,by rw [ByteArray.size_append]; exact h1⟩,h⟩
 case eql=>exact ⟨_,_,_,by simp only [binOp,Op.stringOp]; rfl,nG,h⟩
 case neq=>exact ⟨_,_,_,by simp only [binOp,Op.stringOp]; rfl,nG,h⟩
 case lss=>exact ⟨_,_,_,by simp only [binOp,Op.stringOp]; rfl,nG,h⟩
 case leq=>exact ⟨_,_,_,by simp only [binOp,Op.stringOp]; rfl,nG,h⟩
 case gtr=>exact ⟨_,_,_,by simp only [binOp,Op.stringOp]; rfl,nG,h⟩
 case geq=>exact ⟨_,_,_,by simp only [binOp,Op.stringOp]; rfl,nG,h⟩
end
end Go.E

namespace Go.E
open Go
section
variable {P:Program} {w:World} {ρ:Operand->Value} {o:Oper}
theorem aaS {t:TypeId} {cs:Array Value} {off:Nat} {v:Value} {d:TypeDesc} (hu:P.underlying t=some d) (hd:(∀ fs,d ≠ .struct fs) /\ ∀ n e,d ≠ .array n e)
  (hv:cs[off]? = some v):(part t cs off).run P w = .ok v w:=by
 have h1:(isAgg t).run P w = .ok false w:=by
  simp only [isAgg,Sem.run_bind,run_underlying hu,Result.andThen_ok]
  cases d <;> first | rfl | exact absurd rfl (hd.1 _) | exact absurd rfl (hd.2 _ _)
 simp [part,h1,hv]
end
section
variable {Γ:Ctx} {P:Program} {cf:FuncId->List Arg->R3 gD}
variable {n:Fr} {σ:S} {g:Gh} {I:aB} {a:Act} {w:World}
variable {o:Oper} {f:FuncId} {tr:Tr} {Q:S->Tr->Prop} {K:Act->World->Prop} {Qm:Exit->Act->World->Prop}
theorem aja {s:ST} {x y:T} {u v:Value} {b:Bool} {t:TypeId} {d:Nat} (hty:match LT.sc s with
   | .sc (.int k)=>P.underlying t=some (.int k)
   | .sc .bool=>P.underlying t=some .bool
   | .sc .str=>P.underlying t=some .string
   | _=>False) (hu:O8 s u x) (hv:O8 s v y) (h:agE s x y=some b) :
  (Op.equalIn (d+1) t u v).run P w = .ok b w /\ ∃ dd,P.underlying t=some dd/\(∀ fs,dd ≠ .struct fs) /\ ∀ n e,dd ≠ .array n e:=by
 cases s with
 | int k =>
  obtain ⟨i,rfl,rfl,-⟩:=hu
  obtain ⟨i',rfl,rfl,-⟩:=hv
  simp only [agE,T.int,Option.some.injEq] at h
  subst h
  exact ⟨run_equalIn_int w d _ _ _ _ _ hty,_,hty,fun _ h=>(nomatch h),fun _ _ h=>(nomatch h)⟩
 | bool =>
  obtain ⟨i,rfl,rfl⟩:=hu
  obtain ⟨i',rfl,rfl⟩:=hv
  simp only [agE,T.bool,Option.some.injEq] at h
  subst h
  exact ⟨run_equalIn_bool' w d _ _ _ hty,_,hty,fun _ h=>(nomatch h),fun _ _ h=>(nomatch h)⟩
 | str =>
  obtain ⟨i,rfl,rfl,-⟩:=hu
  obtain ⟨i',rfl,rfl,-⟩:=hv
  simp only [agE,T.str,Option.some.injEq] at h
  subst h
  exact ⟨run_equalIn_string w d _ _ _ hty,_,hty,fun _ h=>(nomatch h),fun _ _ h=>(nomatch h)⟩
 | any=>exact hty.elim
theorem Qb {κ:Key->KE} {d:Nat} {xs ys:Array Value} : ∀ (fs:List Field) (aR:List LT) (j:Nat) (ls rs:List Leaf) (r:Bool),Y9 P j fs aR ->
  bT κ g w I ls (xs.toList.drop j)->bT κ g w I rs (ys.toList.drop j)->zF aR ls rs=some r ->
  (Op.eqFields (d+1) xs ys fs).run P w = .ok r w
 | [],[],j,ls,rs,r,hf,hl,hr,he=>by
  cases ls <;> cases rs <;> simp [zF] at he
  subst he; simp [Op.eqFields]
 | [],_::_,j,ls,rs,r,hf,hl,hr,he=>hf.elim
 | f::fs,[],j,ls,rs,r,hf,hl,hr,he=>hf.elim
 | f::fs,lt::aR,j,ls,rs,r,hf,hl,hr,he=>by
  unfold zF at he
  split at he
  ·contradiction
  ·rename_i c ajb a' x ls' b' y rs' e1
   cases e1
   split at he
   ·rename_i hab
    obtain ⟨rfl,rfl⟩:=hab
    split at he
    ·rename_i b r' h1 h2
     cases he
     obtain ⟨hname,hoff,hty,hf⟩:=hf
     cases hx:xs.toList.drop j with
     | nil=>rw [hx] at hl; exact hl.elim
     | cons u us =>
      cases hy:ys.toList.drop j with
      | nil=>rw [hy] at hr; exact hr.elim
      | cons v vs =>
       rw [hx] at hl; rw [hy] at hr
       have hx1:xs[j]? = some u:=by
        have:(xs.toList.drop j)[0]? = some u:=by rw [hx]; rfl
        simpa using this
       have hy1:ys[j]? = some v:=by
        have:(ys.toList.drop j)[0]? = some v:=by rw [hy]; rfl
        simpa using this
       have hx2:xs.toList.drop (j+1)=us:=by rw [<-List.drop_drop,hx]; rfl
       have hy2:ys.toList.drop (j+1)=vs:=by rw [<-List.drop_drop,hy]; rfl
       obtain ⟨-,s1',e1,hu⟩:=hl.1
       obtain ⟨-,s2',e2,hv⟩:=hr.1
       cases e1; cases e2
       obtain ⟨hb,dd,hu',hdd⟩:=aja (P:=P) (w:=w) (d:=d) hty hu hv h1
       have ih:=Qb (d:=d) (xs:=xs) (ys:=ys) fs aR (j+1) ls' rs' r' hf (by rw [hx2]; exact hl.2) (by rw [hy2]; exact hr.2) h2
       simp only [Op.eqFields,ne_eq,hname,not_false_eq_true,if_true,Sem.run_bind,hoff,aaS hu' hdd hx1,aaS hu' hdd hy1,Result.andThen_ok,hb]
       cases b
       ·simp
       ·simpa using ih
    ·cases he
   ·cases he
  ·cases he
theorem XF {κ:Key->KE} {t:TypeId} {ti:TI} {ls rs:List Leaf} {r:Bool} {xs ys:Array Value} (hf:adg P t ti.aR) (hl:bT κ g w I ls xs.toList) (hr:bT κ g w I rs ys.toList)
  (he:zF ti.aR ls rs=some r):(Op.equal t (.agg xs) (.agg ys)).run P w = .ok r w /\
   ∀ op x y,(eqGuard op t x y (.agg xs) (.agg ys)).run P w = .ok () w:=by
 obtain ⟨fields,h1,h2,h3,h4⟩:=hf
 constructor
 ·have hfo:P.fieldsOf t=fields:=by simp [Program.fieldsOf,h1]
  show (Op.equalIn (9999+1) t (.agg xs) (.agg ys)).run P w = .ok r w
  rw [run_equalIn_struct (P:=P) w 9999 t xs ys (by rw [hfo]; exact h1) h2,hfo]
  exact Qb (d:=9998) fields.toList ti.aR 0 ls rs r h4 (by simpa using hl) (by simpa using hr) he
 ·intro op x y
  cases op <;> simp [eqGuard,h3,go_sem]
theorem agQ (hΓ:eF Γ P) (hd:dA n.np n.nt o=true) (hR:R n σ g I a w) (hK:Post P n I w Q K) {op:BinOp} {t t':TypeId} {x y:Operand} (hop:o.op = .binOp op t x y t')
  (h:(bA Γ f o).wp cf σ tr Q):Goal P o a w K Qm:=by
 simp only [bA,hop] at h
 obtain ⟨ti,-,hty,h⟩:=fK hΓ h
 obtain ⟨ex,t1,hx,h⟩:=jv hR h
 obtain ⟨ey,t2,hy,h⟩:=jv hR h
 unfold amu at h
 split at h
 ·skip
  rename_i k u k' v _
  have hu:O8 (.int k) (a.eval x) u:=by obtain ⟨-,s,e,hu⟩:=hx; cases e; exact hu
  have hv:O8 (.int k') (a.eval y) v:=by obtain ⟨-,s,e,hu⟩:=hy; cases e; exact hu
  obtain ⟨i,hi,rfl,hi1⟩:=hu
  obtain ⟨j,hj,rfl,hj1⟩:=hv
  have hgd:(eqGuard op t x y (a.eval x) (a.eval y)).run P w = .ok () w:=by rw [hi,hj]; exact afh
  split at h
  ·obtain ⟨h0,h⟩:=h
   have h1 : ¬ j<0:=by have:=of_decide_eq_true h0; simp only [T.int] at this; omega
   refine mR hd hR hK (tH hop hgd (v:=.int k (k.wrap (i * 2 ^ (min j.toNat k.bits)))) ?_) xM h
   rw [hi,hj]; simp [binOp,Op.shift,h1]
  ·obtain ⟨h0,h⟩:=h
   have h1 : ¬ j<0:=by have:=of_decide_eq_true h0; simp only [T.int] at this; omega
   refine mR hd hR hK (s:=.int k) (tH hop hgd (v:=.int k (i.fdiv (2 ^ (min j.toNat k.bits)))) ?_) ⟨_,rfl,rfl,adh hi1⟩ h
   rw [hi,hj]; simp [binOp,Op.shift,h1]
  ·rename_i hs1 hs2
   split at h
   ·rename_i hk
    subst hk
    obtain ⟨s,d,v,h1,h2,h3⟩:=afj (P:=P) (w:=w) t hi1 h (fun e=>hs1 e) (fun e=>hs2 e)
    exact mR hd hR hK (tH hop hgd (by rw [hi,hj]; exact h1)) h2 h3
   ·exact h.elim
 ·obtain ⟨-,s,e,hu⟩:=hx
  cases e
  obtain ⟨-,s,e,hv⟩:=hy
  cases e
  obtain ⟨i,hi,rfl,hi1⟩:=hu
  obtain ⟨j,hj,rfl,hj1⟩:=hv
  have hgd:(eqGuard op t x y (a.eval x) (a.eval y)).run P w = .ok () w:=by rw [hi,hj]; exact afi
  obtain ⟨s,d,v,h1,h2,h3⟩:=afk (P:=P) (w:=w) t h
  exact mR hd hR hK (tH hop hgd (by rw [hi,hj]; exact h1)) h2 h3
 ·obtain ⟨-,s,e,hu⟩:=hx
  cases e
  obtain ⟨-,s,e,hv⟩:=hy
  cases e
  obtain ⟨i,hi,rfl⟩:=hu
  obtain ⟨j,hj,rfl⟩:=hv
  have hgd:(eqGuard op t x y (a.eval x) (a.eval y)).run P w = .ok () w:=by rw [hi,hj]; exact adj
  cases hb:YV ti.kind with
  | false=>simp only [hb,cond_false] at h; exact h.elim
  | true =>
   simp only [hb,cond_true] at h
   have hub:P.underlying t=some .bool:=by
    obtain ⟨d,h1,h2⟩:=hty.und
    unfold YV at hb
    split at hb
    ·rename_i hk; rw [hk] at h2; rw [h1,h2.1]
    ·cases hb
   have heq:(Op.equal t (.bool i) (.bool j)).run P w = .ok (i==j) w:=run_equalIn_bool' w 9999 t i j hub
   split at h
   ·exact mR hd hR hK (tH hop hgd (v:=.bool (i==j)) (by rw [hi,hj]; simp [binOp,heq])) nG h
   ·exact mR hd hR hK (tH hop hgd (v:=.bool (!(i==j))) (by rw [hi,hj]; simp [binOp,heq])) nG h
   ·exact h.elim
 ·rename_i ls rs
  obtain ⟨xs,hxs,hl⟩:=hx
  obtain ⟨ys,hys,hr⟩:=hy
  cases hb:ti.flat with
  | false=>simp only [hb,cond_false] at h; exact h.elim
  | true =>
   simp only [hb,cond_true] at h
   split at h
   ·obtain ⟨r,he,h⟩:=dN h
    obtain ⟨h1,h2⟩:=XF (hty.flat hb) hl hr he
    exact mR hd hR hK (tH hop (by rw [hxs,hys]; exact h2 _ _ _) (v:=.bool r) (by rw [hxs,hys]; simp [binOp,h1])) nG h
   ·obtain ⟨r,he,h⟩:=dN h
    obtain ⟨h1,h2⟩:=XF (hty.flat hb) hl hr he
    exact mR hd hR hK (tH hop (by rw [hxs,hys]; exact h2 _ _ _) (v:=.bool (!r)) (by rw [hxs,hys]; simp [binOp,h1])) nG h
   ·exact h.elim
 ·exact h.elim
theorem ajc (hd:dA n.np n.nt o=true) (hR:R n σ g I a w) (hK:Post P n I w Q K) {op:UnOp} {t:TypeId} {x:Operand} (hop:o.op = .unOp op t x)
  (h:(bA Γ f o).wp cf σ tr Q):Goal P o a w K Qm:=by
 simp only [bA,hop] at h
 obtain ⟨ex,t1,hx,h⟩:=jv hR h
 obtain ⟨s,d,rfl,hv,h⟩:=oG hx h
 split at h
 ·obtain ⟨b,hb,rfl⟩:=hv
  exact mR hd hR hK (Tf hop (by rw [hb]; rfl)) nG h
 ·obtain ⟨i,hi,rfl,-⟩:=hv
  exact mR hd hR hK (Tf hop (by rw [hi]; rfl)) xM h
 ·obtain ⟨i,hi,rfl,-⟩:=hv
  exact mR hd hR hK (Tf hop (by rw [hi]; rfl)) xM h
 ·exact h.elim
end
end Go.E

namespace Go.E
open Go
mutual
theorem LT.beq_eq : ∀ {a b:LT},LT.beq a b=true->a=b
 | .sc a,.sc b,h=>by unfold LT.beq at h; rw [of_decide_eq_true h]
 | .sl a,.sl b,h=>by unfold LT.beq at h; rw [LT.bJ h]
 | .sc _,.sl _,h=>by unfold LT.beq at h; cases h
 | .sl _,.sc _,h=>by unfold LT.beq at h; cases h
theorem LT.bJ : ∀ {a b:List LT},LT.dS a b=true->a=b
 | [],[],h=>rfl
 | a::as,b::bs,h=>by
  unfold LT.dS at h
  simp only [Bool.and_eq_true] at h
  rw [LT.beq_eq h.1,LT.bJ h.2]
 | [],_::_,h=>by unfold LT.dS at h; cases h
 | _::_,[],h=>by unfold LT.dS at h; cases h
end
section
variable {w w':World} {I I' S A:aB}
def aT (w:World) (S:aB):List LT->List Value->List T->Prop
 | [],[],[]=>True
 | e::es,v::vs,d::ds=>aL w S e v d/\aT w S es vs ds
 | _,_,_=>False
def bI (w:World) (b o:Nat):List Value->Prop
 | []=>True
 | v::vs=>cellAt w b o=some v/\bI w b (o+1) vs
theorem bY.vals : ∀ {es:List LT} {b o:Nat} {row:List T},bY w A S es b o row->∃ vs,aT w S es vs row/\bI w b o vs
 | [],b,o,row,h=>by unfold bY at h; subst h; exact ⟨[],trivial,trivial⟩
 | e::es,b,o,row,h=>by
  unfold bY at h
  obtain ⟨d,rest,v,rfl,-,h3,h4,h5⟩:=h
  obtain ⟨vs,h6,h7⟩:=bY.vals h5
  exact ⟨v::vs,⟨h4,h6⟩,h3,h7⟩
theorem aT.len : ∀ {es:List LT} {vs:List Value} {ds:List T},aT w S es vs ds->vs.length=es.length/\ds.length=es.length
 | [],[],[],_=>⟨rfl,rfl⟩
 | _::es,_::vs,_::ds,h=>by have:=aT.len h.2; simp; omega
 | [],_::_,_,h=>h.elim
 | [],[],_::_,h=>h.elim
 | _::_,[],_,h=>h.elim
 | _::_,_::_,[],h=>h.elim
theorem aT.drop : ∀ {es:List LT} {vs:List Value} {ds:List T} (k:Nat),aT w S es vs ds->aT w S (es.drop k) (vs.drop k) (ds.drop k)
 | es,vs,ds,0,h=>h
 | [],[],[],k+1,h=>trivial
 | _::es,_::vs,_::ds,k+1,h=>aT.drop k h.2
 | [],_::_,_,_+1,h=>h.elim
 | [],[],_::_,_+1,h=>h.elim
 | _::_,[],_,_+1,h=>h.elim
 | _::_,_::_,[],_+1,h=>h.elim
theorem bI.drop : ∀ {vs:List Value} {b o:Nat} (k:Nat),bI w b o vs->bI w b (o+k) (vs.drop k)
 | vs,b,o,0,h=>h
 | [],b,o,k+1,h=>trivial
 | v::vs,b,o,k+1,h=>by
  have:=bI.drop k h.2
  rwa [show o+1+k=o+(k+1) from by omega] at this
theorem bI.take : ∀ {vs:List Value} {b o:Nat} (k:Nat),bI w b o vs->bI w b o (vs.take k)
 | vs,b,o,0,h=>trivial
 | [],b,o,k+1,h=>trivial
 | v::vs,b,o,k+1,h=>⟨h.1,bI.take k h.2⟩
theorem l5 {b o:Nat} {c:Array Value} {el:TypeId} {fz:Nat×Nat} (h:Block w b c el fz):cellAt w b o=c[o]?:=by
 unfold Block at h
 simp [cellAt,World.cell?,h]
theorem Keeps.block {b:Nat} {c:Array Value} {el:TypeId} {fz:Nat×Nat} (h:Keeps A w w') (hb:Block w b c el fz) :
  ∃ c',Block w' b c' el fz/\c'.size=c.size /\ ∀ o,A b o->c'[o]? = c[o]?:=by
 obtain ⟨y,hy,hk⟩:=h.obj b _ hb
 obtain ⟨c',rfl,h1,h2⟩:=hk
 exact ⟨c',hy,h1,h2⟩
theorem bY.aeh : ∀ {es:List LT} {b o:Nat} {vs:List Value} {row:List T},aT w I es vs row->bI w b o vs->bY w (fun _ _=>True) I es b o row
 | [],b,o,[],[],_,_=>by unfold bY; rfl
 | e::es,b,o,v::vs,d::ds,h,hc=>by
  unfold bY
  exact ⟨d,ds,v,rfl,trivial,hc.1,h.1,bY.aeh h.2 hc.2⟩
 | [],_,_,_::_,_,h,_=>h.elim
 | [],_,_,[],_::_,h,_=>h.elim
 | _::_,_,_,[],_,h,_=>h.elim
 | _::_,_,_,_::_,[],h,_=>h.elim
theorem bI.of_block {b:Nat} {c:Array Value} {el:TypeId} {fz:Nat×Nat} (hb:Block w b c el fz) : ∀ (vs:List Value) (k:Nat),(∀ j (hj:j<vs.length),c[k+j]? = some vs[j])->bI w b k vs
 | [],_,_=>trivial
 | v::vs,k,h=>by
  refine ⟨?_,bI.of_block hb vs (k+1) fun j hj=>?_⟩
  ·rw [l5 hb]; exact (h 0 (by simp))
  ·have:=h (j+1) (by simpa using hj)
   rwa [show k+(j+1)=k+1+j from by omega] at this
theorem bI.get : ∀ {vs:List Value} {b o:Nat},bI w b o vs->∀ j (hj:j<vs.length),cellAt w b (o+j)=some vs[j]
 | [],b,o,_,j,hj=>by simp at hj
 | v::vs,b,o,h,0,hj=>h.1
 | v::vs,b,o,h,j+1,hj=>by
  have:=bI.get h.2 j (by simpa using hj)
  rwa [show o+1+j=o+(j+1) from by omega] at this
theorem aT.take : ∀ {es:List LT} {vs:List Value} {ds:List T} (k:Nat),aT w S es vs ds->aT w S (es.take k) (vs.take k) (ds.take k)
 | es,vs,ds,0,h=>by simp [aT]
 | [],[],[],k+1,h=>trivial
 | _::es,_::vs,_::ds,k+1,h=>⟨h.1,aT.take k h.2⟩
 | [],_::_,_,_+1,h=>h.elim
 | [],[],_::_,_+1,h=>h.elim
 | _::_,[],_,_+1,h=>h.elim
 | _::_,_::_,[],_+1,h=>h.elim
theorem aT.app : ∀ {es es':List LT} {vs vs':List Value} {ds ds':List T},aT w S es vs ds->aT w S es' vs' ds'->aT w S (es++es') (vs++vs') (ds++ds')
 | [],es',[],vs',[],ds',_,h=>h
 | _::_,_,_::_,_,_::_,_,h,h'=>⟨h.1,aT.app h.2 h'⟩
 | [],_,_::_,_,_,_,h,_=>h.elim
 | [],_,[],_,_::_,_,h,_=>h.elim
 | _::_,_,[],_,_,_,h,_=>h.elim
 | _::_,_,_::_,_,[],_,h,_=>h.elim
theorem aT.mono {I I':aB} (h : ∀ b o,I b o->I' b o/\cellAt w' b o=cellAt w b o) : ∀ {es:List LT} {vs:List Value} {ds:List T},aT w I es vs ds->aT w' I' es vs ds
 | [],[],[],_=>trivial
 | e::es,v::vs,d::ds,hh=>⟨aL.mono (fun b o hb=>(h b o hb).1) (fun b o hb=>(h b o hb).2) e hh.1,aT.mono h hh.2⟩
 | [],_::_,_,h=>h.elim
 | [],[],_::_,h=>h.elim
 | _::_,[],_,h=>h.elim
 | _::_,_::_,[],h=>h.elim
theorem bY.D8 {S A:aB} : ∀ {es:List LT} {vs:List Value} {ds:List T} {b o:Nat},aT w S es vs ds->bI w b o vs->(∀ j,j<vs.length->A b (o+j))->bY w A S es b o ds
 | [],[],[],b,o,_,_,_=>by unfold bY; rfl
 | e::es,v::vs,d::ds,b,o,h,hc,ha=>by
  unfold bY
  exact ⟨d,ds,v,rfl,by simpa using ha 0 (by simp),hc.1,h.1,bY.D8 h.2 hc.2 fun j hj=>by
   have:=ha (j+1) (by simpa using hj)
   rwa [show o+(j+1)=o+1+j from by omega] at this⟩
 | [],_::_,_,_,_,h,_,_=>h.elim
 | [],[],_::_,_,_,h,_,_=>h.elim
 | _::_,[],_,_,_,h,_,_=>h.elim
 | _::_,_::_,[],_,_,h,_,_=>h.elim
theorem bY.top {w:World} {I S A:aB} (hs : ∀ b o,I b o->S b o) : ∀ {es:List LT} {b o:Nat} {row:List T},
  bY w (fun _ _=>True) I es b o row->(∀ j,j<es.length->A b (o+j))->bY w A S es b o row
 | [],b,o,row,h,_=>by unfold bY at *; exact h
 | e::es,b,o,row,h,ha=>by
  unfold bY at h ⊢
  obtain ⟨d,rest,v,h1,-,h3,h4,h5⟩:=h
  exact ⟨d,rest,v,h1,by simpa using ha 0 (by simp),h3,aL.mono hs (fun _ _ _=>rfl) e h4,
   bY.top hs h5 fun j hj=>by have:=ha (j+1) (by simp; omega); rwa [show o+1+j=o+(j+1) from by omega]⟩
end
section
variable {p q:List Value->List T->List Nat->Prop} {sz:Nat}
theorem aO.imp : ∀ {rows:List (List T)} {cs:List Value} {bs:List Nat},(∀ vs ds b',(∀ x∈b',x∈bs)->p vs ds b'->q vs ds b')->aO p sz rows cs bs->aO q sz rows cs bs
 | [],cs,bs,_,h=>h
 | r::rs,cs,bs,hp,h=>by
  obtain ⟨b1,b2,rfl,h1,h2⟩:=h
  exact ⟨b1,b2,rfl,hp _ _ _ (fun x hx=>by simp [hx]) h1,aO.imp (fun vs ds b' hb=>hp vs ds b' fun x hx=>by simp [hb x hx]) h2⟩
theorem aO.get : ∀ {rows:List (List T)} {cs:List Value} {bs:List Nat},aO p sz rows cs bs->∀ i (h:i<rows.length),∃ b',(∀ x∈b',x∈bs)/\p ((cs.drop (i * sz)).take sz) rows[i] b'
 | r::rs,cs,bs,h,0,_=>by
  obtain ⟨b1,b2,rfl,h1,h2⟩:=h
  exact ⟨b1,fun x hx=>by simp [hx],by simpa using h1⟩
 | r::rs,cs,bs,h,i+1,hi=>by
  obtain ⟨b1,b2,rfl,h1,h2⟩:=h
  obtain ⟨b',h3,h4⟩:=aO.get h2 i (by simpa using hi)
  refine ⟨b',fun x hx=>by simp [h3 x hx],?_⟩
  rw [List.drop_drop] at h4
  simpa [Nat.add_mul,Nat.add_comm] using h4
theorem aO.cells : ∀ {rows:List (List T)} {cs cs':List Value} {bs:List Nat},aO p sz rows cs bs->cs'.take (rows.length * sz)=cs.take (rows.length * sz)->aO p sz rows cs' bs
 | [],cs,cs',bs,h,_=>h
 | r::rs,cs,cs',bs,h,he=>by
  obtain ⟨b1,b2,rfl,h1,h2⟩:=h
  have e1:(r::rs).length * sz=sz+rs.length * sz:=by simp only [List.length_cons,Nat.add_mul]; omega
  rw [e1] at he
  refine ⟨b1,b2,rfl,?_,aO.cells h2 ?_⟩
  ·have:=congrArg (List.take sz) he
   rw [List.take_take,List.take_take,Nat.min_eq_left (by omega)] at this
   rw [this]; exact h1
  ·have:=congrArg (List.drop sz) he
   rw [List.drop_take,List.drop_take] at this
   simpa using this
theorem aO.app : ∀ {rows rows':List (List T)} {cs cs':List Value} {b1 b2:List Nat},aO p sz rows cs b1->cs.length=rows.length * sz->aO p sz rows' cs' b2->aO p sz (rows++rows') (cs++cs') (b1++b2)
 | [],rows',cs,cs',b1,b2,h,hn,h'=>by
  have:cs=[]:=List.length_eq_zero_iff.1 (by simpa using hn)
  subst this
  have h:b1=[]:=h
  subst h; exact h'
 | r::rs,rows',cs,cs',b1,b2,h,hn,h'=>by
  obtain ⟨b3,b4,rfl,h1,h2⟩:=h
  simp only [List.length_cons,Nat.add_mul,Nat.one_mul] at hn
  refine ⟨b3,b4++b2,by simp,?_,?_⟩
  ·rw [List.take_append_of_le_length (by omega)]; exact h1
  ·rw [List.drop_append_of_le_length (by omega)]
   exact aO.app h2 (by rw [List.length_drop]; omega) h'
theorem aO.split : ∀ (k:Nat) {rows:List (List T)} {cs:List Value} {bs:List Nat},aO p sz rows cs bs->∃ b1 b2,bs=b1++b2/\aO p sz (rows.take k) cs b1/\aO p sz (rows.drop k) (cs.drop (k * sz)) b2
 | 0,rows,cs,bs,h=>⟨[],bs,rfl,rfl,by simpa using h⟩
 | k+1,[],cs,bs,h=>by
  have h:bs=[]:=h
  subst h
  exact ⟨[],[],rfl,rfl,rfl⟩
 | k+1,r::rs,cs,bs,h=>by
  obtain ⟨b1,b2,rfl,h1,h2⟩:=h
  obtain ⟨b3,b4,rfl,h3,h4⟩:=aO.split k h2
  refine ⟨b1++b3,b4,by simp,⟨b1,b3,rfl,h1,h3⟩,?_⟩
  rw [List.drop_drop] at h4
  simpa [Nat.add_mul,Nat.add_comm] using h4
theorem aO.join : ∀ (k:Nat) {rows:List (List T)} {cs:List Value} {b1 b2:List Nat},k<=rows.length->aO p sz (rows.take k) cs b1->aO p sz (rows.drop k) (cs.drop (k * sz)) b2->aO p sz rows cs (b1++b2)
 | 0,rows,cs,b1,b2,_,h,h'=>by
  have h:b1=[]:=h
  subst h; simpa using h'
 | k+1,[],cs,b1,b2,hk,_,_=>by simp at hk
 | k+1,r::rs,cs,b1,b2,hk,h,h'=>by
  obtain ⟨b3,b4,rfl,h1,h2⟩:=h
  refine ⟨b3,b4++b2,by simp,h1,aO.join k (by simpa using hk) h2 ?_⟩
  rw [List.drop_drop]
  simpa [Nat.add_mul,Nat.add_comm] using h'
theorem aO.set {vs:List Value} {ds:List T} {bn:List Nat} (hp:p vs ds bn) (hv:vs.length=sz) : ∀ {rows:List (List T)} {cs:List Value} {bs:List Nat} (i:Nat),aO p sz rows cs bs->rows.length * sz<=cs.length->i<rows.length ->
  ∃ b1 bo b2,bs=b1++bo++b2/\aO p sz (rows.set i ds) (cs.take (i * sz)++vs++cs.drop (i * sz+sz)) (b1++bn++b2)
 | r::rs,cs,bs,0,h,hn,_=>by
  obtain ⟨bo,b2,rfl,h1,h2⟩:=h
  refine ⟨[],bo,b2,by simp,bn,b2,by simp,?_,?_⟩
  ·simp only [Nat.zero_mul,List.take_zero,List.nil_append,Nat.zero_add]
   rw [List.take_append_of_le_length (by omega),<-hv,List.take_length]; exact hp
  ·simp only [Nat.zero_mul,List.take_zero,List.nil_append,Nat.zero_add]
   rw [List.drop_append_of_le_length (by omega),<-hv,List.drop_length,List.nil_append,hv]; exact h2
 | r::rs,cs,bs,i+1,h,hn,hi=>by
  obtain ⟨b3,b4,rfl,h1,h2⟩:=h
  simp only [List.length_cons,Nat.add_mul,Nat.one_mul] at hn
  obtain ⟨b1,bo,b2,rfl,h3⟩:=aO.set hp hv i h2 (by rw [List.length_drop]; omega) (by simpa using hi)
  have e1:(i+1) * sz=sz+i * sz:=by rw [Nat.add_mul]; omega
  have hm:i * sz+sz<=rs.length * sz:=by
   have:=Nat.mul_le_mul_right sz (show i+1<=rs.length by simp at hi; omega)
   rwa [Nat.add_mul,Nat.one_mul] at this
  refine ⟨b3++b1,bo,b2,by simp,b3,b1++bn++b2,by simp,?_,?_⟩
  ·rw [List.append_assoc,List.take_append_of_le_length (by rw [List.length_take]; omega),List.take_take,Nat.min_eq_left (by omega)]
   exact h1
  ·rw [List.append_assoc,List.drop_append_of_le_length (by rw [List.length_take]; omega),<-List.append_assoc,List.drop_take]
   rw [show (i+1) * sz-sz=i * sz from by omega]
   rw [List.drop_drop] at h3
   rw [show (i+1) * sz+sz=sz+(i * sz+sz) from by omega]
   exact h3
theorem aO.all {r:List Value->List T->Prop} (hp : ∀ vs ds b',p vs ds b'->r vs ds) : ∀ {rows:List (List T)} {cs:List Value} {bs:List Nat},aO p sz rows cs bs->∀ i (h:i<rows.length),r ((cs.drop (i * sz)).take sz) rows[i] :=
 fun h i hi=>by obtain ⟨b',-,h1⟩:=h.get i hi; exact hp _ _ _ h1
end
section
variable {w w':World} {I I' S A:aB}
theorem iA {b:Nat} {c:Array Value} {el:TypeId} {fz:Nat×Nat} (h:Block w b c el fz):pX w b=c.size:=by
 unfold Block at h
 simp [pX,h]
theorem Ze {bs:List Nat} {b o:Nat} (h:FB w bs b o) : ∃ v,cellAt w b o=some v:=by
 obtain ⟨-,h⟩:=h
 unfold pX at h
 split at h
 ·rename_i c el fz hb
  exact ⟨c[o],by simp [cellAt,World.cell?,hb,h]⟩
 ·omega
theorem akZ {b o:Nat} {v:Value} (h:cellAt w b o=some v):o<pX w b:=by
 unfold cellAt World.cell? at h
 unfold pX
 simp only at h
 split at h
 ·rename_i hb
  simp only [hb]
  exact (Array.getElem?_eq_some_iff.1 h).1
 ·cases h
theorem wU (hk:Keeps A w w') {b:Nat} (hb : ∃ c el fz,Block w b c el fz):pX w' b=pX w b:=by
 obtain ⟨c,el,fz,hb⟩:=hb
 obtain ⟨c',h1,h2,-⟩:=hk.block hb
 rw [iA h1,iA hb,h2]
theorem sO {bs bs':List Nat} (h : ∀ b∈bs,b∈bs') : ∀ b o,FB w bs b o->FB w bs' b o:=fun b o hb=>⟨h b hb.1,hb.2⟩
theorem mU {bs bs':List Nat} {b o:Nat} : FB w (bs++bs') b o ↔ FB w bs b o\/FB w bs' b o:=by
 unfold FB; rw [List.mem_append]; constructor
 ·rintro ⟨h | h,h'⟩
  ·exact .inl ⟨h,h'⟩
  ·exact .inr ⟨h,h'⟩
 ·rintro (⟨h,h'⟩ | ⟨h,h'⟩)
  ·exact ⟨.inl h,h'⟩
  ·exact ⟨.inr h,h'⟩
theorem aei {c:Nat} {bs:List Nat} {b o:Nat} : FB w (c::bs) b o ↔ (b=c/\o<pX w c)\/FB w bs b o:=by
 unfold FB; rw [List.mem_cons]; constructor
 ·rintro ⟨rfl | h,h'⟩
  ·exact .inl ⟨rfl,h'⟩
  ·exact .inr ⟨h,h'⟩
 ·rintro (⟨rfl,h'⟩ | ⟨h,h'⟩)
  ·exact ⟨.inl rfl,h'⟩
  ·exact ⟨.inr h,h'⟩
theorem Ip (hk:Keeps A w w') {bs:List Nat} (hb : ∀ b∈bs,∃ c el fz,Block w b c el fz) (b o:Nat):FB w' bs b o ↔ FB w bs b o:=by
 unfold FB
 constructor
 ·rintro ⟨h1,h2⟩; exact ⟨h1,by rwa [wU hk (hb b h1)] at h2⟩
 ·rintro ⟨h1,h2⟩; exact ⟨h1,by rwa [wU hk (hb b h1)]⟩
theorem kH : ∀ {b1 b2:List Nat},eZ w (b1++b2) ↔ eZ w b1/\eZ w b2 /\ ∀ b∈b1,b∈b2->pX w b=0
 | [],b2=>by simp [eZ]
 | b::b1,b2=>by
  simp only [List.cons_append,eZ,kH (b1:=b1),List.mem_append,List.mem_cons]
  constructor
  ·rintro ⟨h1,h2,h3,h4⟩
   exact ⟨⟨fun h=>h1 (.inl h),h2⟩,h3,fun x hx hx2=>hx.elim (fun e=>by subst e; exact h1 (.inr hx2)) fun hx=>h4 x hx hx2⟩
  ·rintro ⟨⟨h1,h2⟩,h3,h4⟩
   exact ⟨fun h=>h.elim h1 (h4 b (.inl rfl)),h2,h3,fun x hx=>h4 x (.inr hx)⟩
theorem wV {b1 b2:List Nat} : aB.apart (FB w b1) (FB w b2) ↔ ∀ b∈b1,b∈b2->pX w b=0:=by
 constructor
 ·intro h b h1 h2
  rcases Nat.eq_zero_or_pos (pX w b) with h3 | h3
  ·exact h3
  ·exact (h b 0 ⟨h1,h3⟩ ⟨h2,h3⟩).elim
 ·intro h b o h1 h2
  have:=h b h1.1 h2.1
  have:=h1.2
  omega
def M4 (l' l:List Nat):Prop:=∀ b,l'.count b<=l.count b
theorem M4.refl (l:List Nat):M4 l l:=fun _=>Nat.le_refl _
theorem M4.trans {l l' l'':List Nat} (h:M4 l l') (h':M4 l' l''):M4 l l'':=fun b=>Nat.le_trans (h b) (h' b)
theorem M4.mem {l l':List Nat} (h:M4 l' l) {b:Nat} (hb:b∈l'):b∈l:=List.count_pos_iff.1 (Nat.lt_of_lt_of_le (List.count_pos_iff.2 hb) (h b))
theorem LM : ∀ {bs:List Nat},eZ w bs ↔ ∀ b,pX w b≠0->bs.count b<=1
 | []=>by simp [eZ]
 | c::bs=>by
  simp only [eZ,LM (bs:=bs),List.count_cons]
  constructor
  ·rintro ⟨h1,h2⟩ b hb
   have:=h2 b hb
   by_cases hc:c=b
   ·subst hc
    have:bs.count c=0:=List.count_eq_zero.2 fun hm=>hb (h1 hm)
    simp [this]
   ·simp [hc]; exact this
  ·intro h
   refine ⟨fun hm=>?_,fun b hb=>Nat.le_trans (Nat.le_add_right _ _) (h b hb)⟩
   rcases Nat.eq_zero_or_pos (pX w c) with h1 | h1
   ·exact h1
   ·have h2:=h c (by omega)
    have h3:=List.count_pos_iff.2 hm
    rw [if_pos (by simp)] at h2
    omega
theorem EY {l l':List Nat} (h:M4 l' l) (hn:eZ w l):eZ w l':=by
 rw [LM] at hn ⊢
 exact fun b hb=>Nat.le_trans (h b) (hn b hb)
theorem qL (hk:Keeps A w w') : ∀ {bs:List Nat},(∀ b∈bs,∃ c el fz,Block w b c el fz)->eZ w bs->eZ w' bs
 | [],_,_=>trivial
 | b::bs,hb,h=>⟨fun hm=>by rw [wU hk (hb b (by simp))]; exact h.1 hm,qL hk (fun x hx=>hb x (by simp [hx])) h.2⟩
theorem av.len : ∀ (es:List LT) {ms:List M} {vs:List Value} {ds:List T} {bs:List Nat},av w I es ms vs ds bs->vs.length=es.length/\ds.length=es.length
 | [],_,_,_,_,h=>by unfold av at h; obtain ⟨rfl,rfl,rfl⟩:=h; exact ⟨rfl,rfl⟩
 | e::es,ms,_,_,_,h=>by
  unfold av at h
  obtain ⟨v,vs',d,ds',b1,b2,rfl,rfl,rfl,h1,h2⟩:=h
  have:=av.len es h2
  simp; omega
theorem av.split : ∀ (k:Nat) {es:List LT} {ms:List M} {vs:List Value} {ds:List T} {bs:List Nat},av w I es ms vs ds bs ->
  ∃ b1 b2,bs=b1++b2/\av w I (es.take k) ms (vs.take k) (ds.take k) b1/\av w I (es.drop k) (ms.drop k) (vs.drop k) (ds.drop k) b2
 | 0,es,ms,vs,ds,bs,h=>⟨[],bs,rfl,by simp only [List.take_zero]; unfold av; exact ⟨rfl,rfl,rfl⟩,h⟩
 | k+1,[],ms,vs,ds,bs,h=>by
  unfold av at h
  obtain ⟨rfl,rfl,rfl⟩:=h
  refine ⟨[],[],rfl,?_,?_⟩ <;> simp only [List.take_nil,List.drop_nil] <;> unfold av <;> exact ⟨rfl,rfl,rfl⟩
 | k+1,e::es,ms,_,_,_,h=>by
  unfold av at h
  obtain ⟨v,vs',d,ds',b1,b2,rfl,rfl,rfl,h1,h2⟩:=h
  obtain ⟨b3,b4,rfl,h3,h4⟩:=av.split k h2
  refine ⟨b1++b3,b4,by simp,?_,by simpa using h4⟩
  simp only [List.take_succ_cons]
  unfold av
  exact ⟨v,_,d,_,b1,b3,rfl,rfl,rfl,h1,h3⟩
theorem av.join : ∀ {es es':List LT} {ms:List M} {vs vs':List Value} {ds ds':List T} {b1 b2:List Nat},av w I es ms vs ds b1->av w I es' (ms.drop es.length) vs' ds' b2 ->
  av w I (es++es') ms (vs++vs') (ds++ds') (b1++b2)
 | [],es',ms,vs,vs',ds,ds',b1,b2,h,h'=>by
  unfold av at h
  obtain ⟨rfl,rfl,rfl⟩:=h
  exact h'
 | e::es,es',ms,_,vs',_,ds',_,b2,h,h'=>by
  unfold av at h
  obtain ⟨v,vs1,d,ds1,b3,b4,rfl,rfl,rfl,h1,h2⟩:=h
  simp only [List.cons_append]
  unfold av
  exact ⟨v,_,d,_,b3,b4++b2,rfl,rfl,by simp,h1,av.join h2 (by rw [show ms.tail.drop es.length=ms.drop (e::es).length from by cases ms <;> simp]; exact h')⟩
mutual
theorem bQ.leaf (hs : ∀ b o,I b o->S b o) : ∀ (lt:LT) {m:M} {v:Value} {d:T} {bs:List Nat},(∀ b o,FB w bs b o->S b o)->bQ w I lt m v d bs->aL w S lt v d
 | .sc s,m,v,d,bs,hG,h=>by unfold bQ at h; unfold aL; exact h.1
 | .sl es,.F,v,d,bs,hG,h=>by unfold bQ at h; exact aL.mono hs (fun _ _ _=>rfl) _ h.1
 | .sl es,.O ms,v,d,bs,hG,h=>by
  unfold bQ at h
  obtain ⟨rows,h1,h2,h3,h4⟩:=h
  unfold aL
  rcases h4 with ⟨⟨aa,rfl⟩,rfl,-⟩ | ⟨b,cap,c,el,fz,bs',rfl,rfl,h5,h6,h7,h8,h9⟩
  ·exact ⟨aa,0,[],h1,rfl,Nat.le_refl _,Nat.zero_le _,.inl rfl⟩
  ·refine ⟨some ⟨b,0,none⟩,cap,rows,h1,rfl,h5,h3,.inr ⟨b,0,rfl,fun i hi=>?_⟩⟩
   rw [Nat.zero_add]
   obtain ⟨b',h10,h11⟩:=h9.get i hi
   have h12:=av.leaves hs es (fun b o hb=>hG b o (sO (fun x hx=>by simp [h10 x hx]) b o hb)) h11
   have hl:=h12.len.1
   have hm:(i+1) * es.length<=cap * es.length:=Nat.mul_le_mul_right _ (by omega)
   rw [Nat.add_mul,Nat.one_mul,<-h7] at hm
   refine bY.D8 h12 (bI.of_block h6 _ _ fun j hj=>?_) fun j hj=>hG _ _ ⟨by simp,?_⟩
   ·simp only [List.getElem_take,List.getElem_drop,Array.getElem_toList]
    rw [Array.getElem?_eq_getElem (by omega)]
   ·rw [iA h6]; omega
theorem av.leaves (hs : ∀ b o,I b o->S b o) : ∀ (es:List LT) {ms:List M} {vs:List Value} {ds:List T} {bs:List Nat},(∀ b o,FB w bs b o->S b o)->av w I es ms vs ds bs->aT w S es vs ds
 | [],ms,vs,ds,bs,hG,h=>by unfold av at h; obtain ⟨rfl,rfl,rfl⟩:=h; trivial
 | e::es,ms,vs,ds,bs,hG,h=>by
  unfold av at h
  obtain ⟨v,vs',d,ds',b1,b2,rfl,rfl,rfl,h1,h2⟩:=h
  exact ⟨bQ.leaf hs e (fun b o hb=>hG b o (mU.2 (.inl hb))) h1,av.leaves hs es (fun b o hb=>hG b o (mU.2 (.inr hb))) h2⟩
end
mutual
theorem bQ.blocks : ∀ (lt:LT) {m:M} {v:Value} {d:T} {bs:List Nat},bQ w I lt m v d bs->∀ b∈bs,∃ c el fz,Block w b c el fz
 | .sc s,m,v,d,bs,h=>by unfold bQ at h; rw [h.2]; simp
 | .sl es,.F,v,d,bs,h=>by unfold bQ at h; rw [h.2]; simp
 | .sl es,.O ms,v,d,bs,h=>by
  unfold bQ at h
  obtain ⟨rows,h1,h2,h3,h4⟩:=h
  rcases h4 with ⟨-,rfl,rfl⟩ | ⟨b,cap,c,el,fz,bs',rfl,rfl,h5,h6,h7,h8,h9⟩
  ·simp
  ·intro x hx
   rcases List.mem_cons.1 hx with rfl | hx
   ·exact ⟨c,el,fz,h6⟩
   ·exact oH (fun vs ds bs h=>av.blocks es h) rows h9 x hx
theorem av.blocks : ∀ (es:List LT) {ms:List M} {vs:List Value} {ds:List T} {bs:List Nat},av w I es ms vs ds bs->∀ b∈bs,∃ c el fz,Block w b c el fz
 | [],ms,vs,ds,bs,h=>by unfold av at h; rw [h.2.2]; simp
 | e::es,ms,vs,ds,bs,h=>by
  unfold av at h
  obtain ⟨v,vs',d,ds',b1,b2,rfl,rfl,rfl,h1,h2⟩:=h
  intro x hx
  rcases List.mem_append.1 hx with hx | hx
  ·exact bQ.blocks e h1 x hx
  ·exact av.blocks es h2 x hx
theorem oH {p:List Value->List T->List Nat->Prop} {sz:Nat} (hp : ∀ vs ds bs,p vs ds bs->∀ b∈bs,∃ c el fz,Block w b c el fz) : ∀ (rows:List (List T)) {cs:List Value} {bs:List Nat},aO p sz rows cs bs->∀ b∈bs,∃ c el fz,Block w b c el fz
 | [],cs,bs,h=>by have h:bs=[]:=h; subst h; simp
 | r::rs,cs,bs,h=>by
  obtain ⟨b1,b2,rfl,h1,h2⟩:=h
  intro x hx
  rcases List.mem_append.1 hx with hx | hx
  ·exact hp _ _ _ h1 x hx
  ·exact oH hp rs h2 x hx
end
mutual
theorem bQ.keep (hk:Keeps A w w') (hI : ∀ b o,I b o->I' b o/\cellAt w' b o=cellAt w b o) : ∀ (lt:LT) {m:M} {v:Value} {d:T} {bs:List Nat},(∀ b o,FB w bs b o->A b o)->bQ w I lt m v d bs->bQ w' I' lt m v d bs
 | .sc s,m,v,d,bs,hA,h=>by unfold bQ at *; exact h
 | .sl es,.F,v,d,bs,hA,h=>by unfold bQ at h ⊢; exact ⟨aL.mono (fun b o h=>(hI b o h).1) (fun b o h=>(hI b o h).2) _ h.1,h.2⟩
 | .sl es,.O ms,v,d,bs,hA,h=>by
  unfold bQ at h ⊢
  obtain ⟨rows,h1,h2,h3,h4⟩:=h
  refine ⟨rows,h1,h2,h3,?_⟩
  rcases h4 with h4 | ⟨b,cap,c,el,fz,bs',rfl,rfl,h5,h6,h7,h8,h9⟩
  ·exact .inl h4
  ·right
   obtain ⟨c',hb,hsz,hcc⟩:=hk.block h6
   have e:c'=c:=by
    apply Array.ext hsz
    intro i hi1 hi2
    have:=hcc i (hA _ _ ⟨by simp,by rw [iA h6]; exact hi2⟩)
    rw [Array.getElem?_eq_getElem hi1,Array.getElem?_eq_getElem hi2] at this
    exact Option.some.inj this
   subst e
   refine ⟨b,cap,c',el,fz,bs',rfl,rfl,h5,hb,h7,h8,aO.imp (fun vs ds b' hb' h=>?_) h9⟩
   exact av.keep hk hI es (fun b o hb=>hA b o (sO (fun x hx=>by simp [hb' x hx]) b o hb)) h
theorem av.keep (hk:Keeps A w w') (hI : ∀ b o,I b o->I' b o/\cellAt w' b o=cellAt w b o) : ∀ (es:List LT) {ms:List M} {vs:List Value} {ds:List T} {bs:List Nat},(∀ b o,FB w bs b o->A b o)->av w I es ms vs ds bs->av w' I' es ms vs ds bs
 | [],ms,vs,ds,bs,hA,h=>by unfold av at *; exact h
 | e::es,ms,vs,ds,bs,hA,h=>by
  unfold av at h ⊢
  obtain ⟨v,vs',d,ds',b1,b2,rfl,rfl,rfl,h1,h2⟩:=h
  exact ⟨v,vs',d,ds',b1,b2,rfl,rfl,rfl,bQ.keep hk hI e (fun b o hb=>hA b o (mU.2 (.inl hb))) h1,av.keep hk hI es (fun b o hb=>hA b o (mU.2 (.inr hb))) h2⟩
end
theorem bQ.same {lt:LT} {m:M} {v:Value} {d:T} {bs:List Nat} (hI : ∀ b o,I b o->I' b o) (h:bQ w I lt m v d bs):bQ w I' lt m v d bs :=
 bQ.keep (Keeps.refl (fun _ _=>True) w) (fun b o hb=>⟨hI b o hb,rfl⟩) lt (fun _ _ _=>trivial) h
theorem av.same {es:List LT} {ms:List M} {vs:List Value} {ds:List T} {bs:List Nat} (hI : ∀ b o,I b o->I' b o) (h:av w I es ms vs ds bs):av w I' es ms vs ds bs :=
 av.keep (Keeps.refl (fun _ _=>True) w) (fun b o hb=>⟨hI b o hb,rfl⟩) es (fun _ _ _=>trivial) h
theorem bQ.single {lt:LT} {m:M} {v:Value} {d:T} {bs:List Nat} (h:bQ w I lt m v d bs):Single v :=
 (bQ.leaf (S:=fun _ _=>True) (fun _ _ _=>trivial) lt (fun _ _ _=>trivial) h).single
theorem zB {ms:List M} (j:Nat):ms.tail.getD j .F=ms.getD (j+1) .F:=by cases ms <;> simp [List.getD]
theorem av.each : ∀ {es:List LT} {ms:List M} {vs:List Value} {ds:List T} {bs:List Nat},av w I es ms vs ds bs->∃ Bs:List (List Nat),Bs.length=es.length/\bs=Bs.flatten /\
  ∀ j (h:j<es.length),bQ w I es[j] (ms.getD j .F) (vs.getD j .nilIface) (ds.getD j dflt) (Bs.getD j [])
 | [],ms,_,_,_,h=>by
  unfold av at h
  obtain ⟨rfl,rfl,rfl⟩:=h
  exact ⟨[],rfl,rfl,fun j h=>by simp at h⟩
 | e::es,ms,_,_,_,h=>by
  unfold av at h
  obtain ⟨v,vs',d,ds',b1,b2,rfl,rfl,rfl,h1,h2⟩:=h
  obtain ⟨Bs,h3,rfl,h4⟩:=av.each h2
  refine ⟨b1::Bs,by simp [h3],by simp,fun j hj=>?_⟩
  cases j with
  | zero=>cases ms <;> simpa using h1
  | succ j =>
   have:=h4 j (by simpa using hj)
   rw [zB] at this
   simpa using this
theorem aaT {ms:List M} (h:noO ms):ms.headD .F = .F:=by
 cases ms with
 | nil=>rfl
 | cons m ms=>cases m with
  | F=>rfl
  | O x=>exact absurd rfl (h (.O x) (by simp) x)
theorem aaU {ms:List M} (h:noO ms):noO ms.tail:=fun m hm=>h m (List.mem_of_mem_tail hm)
theorem av.flat : ∀ (es:List LT) {ms:List M} {vs:List Value} {ds:List T} {bs:List Nat},noO ms->av w I es ms vs ds bs->bs=[]/\aT w I es vs ds
 | [],ms,vs,ds,bs,hm,h=>by unfold av at h; obtain ⟨rfl,rfl,rfl⟩:=h; exact ⟨rfl,trivial⟩
 | e::es,ms,vs,ds,bs,hm,h=>by
  unfold av at h
  obtain ⟨v,vs',d,ds',b1,b2,rfl,rfl,rfl,h1,h2⟩:=h
  obtain ⟨rfl,h3⟩:=av.flat es (aaU hm) h2
  rw [aaT hm] at h1
  cases e with
  | sc s=>unfold bQ at h1; obtain ⟨h4,rfl⟩:=h1; exact ⟨rfl,by unfold aL; exact h4,h3⟩
  | sl es'=>unfold bQ at h1; obtain ⟨h4,rfl⟩:=h1; exact ⟨rfl,h4,h3⟩
theorem av.of_flat : ∀ {es:List LT} {ms:List M} {vs:List Value} {ds:List T},noO ms->aT w I es vs ds->av w I es ms vs ds []
 | [],ms,[],[],hm,h=>by unfold av; exact ⟨rfl,rfl,rfl⟩
 | e::es,ms,v::vs,d::ds,hm,h=>by
  unfold av
  refine ⟨v,vs,d,ds,[],[],rfl,rfl,rfl,?_,av.of_flat (aaU hm) h.2⟩
  rw [aaT hm]
  have h1:=h.1
  cases e with
  | sc s=>unfold bQ; unfold aL at h1; exact ⟨h1,rfl⟩
  | sl es'=>unfold bQ; exact ⟨h1,rfl⟩
 | [],_,_::_,_,_,h=>h.elim
 | [],_,[],_::_,_,h=>h.elim
 | _::_,_,[],_,_,h=>h.elim
 | _::_,_,_::_,[],_,h=>h.elim
theorem D9 {es:List LT} {ms:List M} {sz:Nat} (hm:noO ms) : ∀ {rows:List (List T)} {cs:List Value} {bs:List Nat},aO (fun vs ds bs=>av w I es ms vs ds bs) sz rows cs bs->bs=[]
 | [],cs,bs,h=>h
 | r::rs,cs,bs,h=>by
  obtain ⟨b1,b2,rfl,h1,h2⟩:=h
  rw [(av.flat es hm h1).1,D9 hm h2]; rfl
theorem aV.cases {es:List LT} {ms:List M} {rows:List (List T)} {h:Value} {F:aB} (hr:aV w I es ms rows h F):es≠[]/\rows.length<=aW /\
  (((∃ a,h = .slice a 0 0)/\rows=[] /\ ∀ b o,¬ F b o) \/
  ∃ b cap c el fz bs,h = .slice (some ⟨b,0,none⟩) rows.length cap/\rows.length<=cap/\Block w b c el fz/\c.size=cap * es.length/\(∀ o,o<=c.size->¬ (fz.1<=o/\o<fz.2)) /\
   aO (fun vs ds bs=>av w I es ms vs ds bs) es.length rows c.toList bs/\eZ w (b::bs) /\ ∀ b' o,F b' o ↔ (b'=b/\o<c.size)\/FB w bs b' o):=by
 obtain ⟨bs,hn,hc,hF⟩:=hr
 unfold bQ at hc
 obtain ⟨rows',h1,h2,h3,h4⟩:=hc
 cases h1
 refine ⟨h2,h3,?_⟩
 rcases h4 with ⟨h4,rfl,rfl⟩ | ⟨b,cap,c,el,fz,bs',rfl,rfl,h5,h6,h7,h8,h9⟩
 ·exact .inl ⟨h4,rfl,fun b o hb=>by have:=((hF b o).1 hb).1; cases this⟩
 ·exact .inr ⟨b,cap,c,el,fz,bs',rfl,h5,h6,h7,h8,h9,hn,fun b' o=>by rw [hF b' o,aei,iA h6]⟩
theorem aV.nil {es:List LT} {ms:List M} {F:aB} {aa:Option Addr} (hes:es≠[]) (hF : ∀ b o,¬ F b o):aV w I es ms [] (.slice aa 0 0) F :=
 ⟨[],trivial,by unfold bQ; exact ⟨[],rfl,hes,Nat.zero_le _,.inl ⟨⟨_,rfl⟩,rfl,rfl⟩⟩,fun b o=>⟨fun h=>(hF b o h).elim,fun h=>by have:=h.1; cases this⟩⟩
theorem aV.mk' {es:List LT} {ms:List M} {rows:List (List T)} {F:aB} {b cap:Nat} {c:Array Value} {el:TypeId} {fz:Nat×Nat} {bs:List Nat} (hes:es≠[]) (h1:rows.length<=aW) (h2:rows.length<=cap) (h3:Block w b c el fz)
  (h4:c.size=cap * es.length) (h5 : ∀ o,o<=c.size->¬ (fz.1<=o/\o<fz.2)) (h6:aO (fun vs ds bs=>av w I es ms vs ds bs) es.length rows c.toList bs) (h7:eZ w (b::bs))
  (h8 : ∀ b' o,F b' o ↔ (b'=b/\o<c.size)\/FB w bs b' o):aV w I es ms rows (.slice (some ⟨b,0,none⟩) rows.length cap) F :=
 ⟨b::bs,h7,by unfold bQ; exact ⟨rows,rfl,hes,h1,.inr ⟨b,cap,c,el,fz,bs,rfl,rfl,h2,h3,h4,h5,h6⟩⟩,fun b' o=>by rw [h8,aei,iA h3]⟩
theorem aV.leaf {es:List LT} {ms:List M} {rows:List (List T)} {h:Value} {F:aB} (hr:aV w I es ms rows h F) (hs : ∀ b o,I b o->S b o) (hf : ∀ b o,F b o->S b o) :
  aL w S (.sl es) h (.l rows):=by
 obtain ⟨bs,hn,hc,hF⟩:=hr
 exact bQ.leaf hs _ (fun b o hb=>hf b o ((hF b o).2 hb)) hc
theorem aV.keep {es:List LT} {ms:List M} {rows:List (List T)} {h:Value} {F:aB} (hr:aV w I es ms rows h F) (hk:Keeps A w w') (hA : ∀ b o,F b o->A b o)
  (hI : ∀ b o,I b o->I' b o/\cellAt w' b o=cellAt w b o):aV w' I' es ms rows h F:=by
 obtain ⟨bs,hn,hc,hF⟩:=hr
 exact ⟨bs,qL hk (bQ.blocks _ hc) hn,bQ.keep hk hI _ (fun b o hb=>hA b o ((hF b o).2 hb)) hc,fun b o=>(hF b o).trans (Ip hk (bQ.blocks _ hc) b o).symm⟩
theorem aV.same {es:List LT} {ms:List M} {rows:List (List T)} {h:Value} {F:aB} (hs : ∀ b o,I b o->I' b o) (hr:aV w I es ms rows h F):aV w I' es ms rows h F :=
 hr.keep (Keeps.refl (fun _ _=>True) w) (fun _ _ _=>trivial) fun b o hb=>⟨hs b o hb,rfl⟩
theorem aV.cell {es:List LT} {ms:List M} {rows:List (List T)} {h:Value} {F:aB} (hr:aV w I es ms rows h F) {b o:Nat} (hf:F b o) : ∃ v,cellAt w b o=some v:=by
 obtain ⟨bs,hn,hc,hF⟩:=hr
 exact Ze ((hF b o).1 hf)
theorem aV.row {es:List LT} {ms:List M} {rows:List (List T)} {h:Value} {F:aB} (hr:aV w I es ms rows h F) {r:Nat} (h5:r<rows.length) :
  ∃ b cap vs bs,h = .slice (some ⟨b,0,none⟩) rows.length cap/\bI w b (r * es.length) vs/\av w I es ms vs rows[r] bs/\(∀ b' o,FB w bs b' o->F b' o)/\(∀ j,j<es.length->F b (r * es.length+j)):=by
 obtain ⟨-,-,hown⟩:=hr.cases
 rcases hown with ⟨-,rfl,-⟩ | ⟨b,cap,c,el,fz,bs,rfl,h6,h7,h8,h9,h10,h11,h12⟩
 ·simp at h5
 ·obtain ⟨b',h13,h14⟩:=h10.get r h5
  have hl:=av.len es h14
  have hm:(r+1) * es.length<=cap * es.length:=Nat.mul_le_mul_right _ (by omega)
  rw [Nat.add_mul,Nat.one_mul,<-h8] at hm
  refine ⟨b,cap,_,b',rfl,bI.of_block h7 _ _ fun j hj=>?_,h14,fun b'' o hb=>(h12 b'' o).2 (.inr (sO h13 b'' o hb)),fun j hj=>(h12 _ _).2 (.inl ⟨rfl,by omega⟩)⟩
  simp only [List.getElem_take,List.getElem_drop,Array.getElem_toList]
  rw [Array.getElem?_eq_getElem (by omega)]
end
section
variable {w:World}
theorem Ea {Bs:List (List Nat)} {j b:Nat} (h:b∈Bs.getD j []):b∈Bs.flatten:=by
 rw [List.getD] at h
 cases hj:Bs[j]? with
 | none=>rw [hj] at h; cases h
 | some l=>rw [hj] at h; exact List.mem_flatten.2 ⟨l,List.mem_of_getElem? hj,h⟩
theorem Tg : ∀ {Bs:List (List Nat)},eZ w Bs.flatten->∀ j,eZ w (Bs.getD j [])
 | [],_,j=>by simp [eZ]
 | l::Bs,h,j=>by
  simp only [List.flatten_cons] at h
  obtain ⟨h1,h2,-⟩:=kH.1 h
  cases j with
  | zero=>simpa using h1
  | succ j=>simpa using Tg h2 j
theorem Ti : ∀ {Bs:List (List Nat)},eZ w Bs.flatten->∀ i j,i≠j->aB.apart (FB w (Bs.getD i [])) (FB w (Bs.getD j []))
 | [],_,i,j,_=>fun b o h _=>by simp [FB] at h
 | l::Bs,h,i,j,hij=>by
  simp only [List.flatten_cons] at h
  obtain ⟨h1,h2,h3⟩:=kH.1 h
  have key : ∀ j,aB.apart (FB w l) (FB w (Bs.getD j [])):=fun j=>fun b o h4 h5=>wV.2 h3 b o h4 (sO (fun x hx=>Ea hx) b o h5)
  cases i with
  | zero =>
   cases j with
   | zero=>exact absurd rfl hij
   | succ j=>simpa using key j
  | succ i =>
   cases j with
   | zero=>exact fun b o h4 h5=>key i b o (by simpa using h5) (by simpa using h4)
   | succ j=>simpa using Ti h2 i j (by omega)
end
mutual
theorem M.beq_eq : ∀ {a b:M},M.beq a b=true->a=b
 | .F,.F,_=>rfl
 | .O a,.O b,h=>congrArg M.O (M.bJ (a:=a) (b:=b) (by simpa [M.beq] using h))
 | .F,.O _,h=>by simp [M.beq] at h
 | .O _,.F,h=>by simp [M.beq] at h
theorem M.bJ : ∀ {a b:List M},M.dS a b=true->a=b
 | [],[],_=>rfl
 | a::az,b::bs,h=>by
  simp only [M.dS,Bool.and_eq_true] at h
  rw [M.beq_eq h.1,M.bJ h.2]
 | [],_::_,h=>by simp [M.dS] at h
 | _::_,[],h=>by simp [M.dS] at h
end
theorem zO {ms:List M} (h:Sz ms=true):noO ms:=by
 intro m hm x e
 have:=List.all_eq_true.1 h m hm
 subst e
 simp at this
end Go.E

namespace Go.E
open Go
section
variable {w:World} {I S A:aB}
end
section
variable {Γ:Ctx} {P:Program} {cf:FuncId->List Arg->R3 gD}
variable {n:Fr} {σ:S} {g:Gh} {I:aB} {a:Act} {w:World}
variable {o:Oper} {f:FuncId} {tr:Tr} {Q:S->Tr->Prop} {K:Act->World->Prop} {Qm:Exit->Act->World->Prop}
theorem nH (κ:Key->KE) : ∀ b o,I b o->cu κ g I [] b o:=fun _ _ h=>.inl h
theorem M5 (κ:Key->KE):Cur κ []:=fun _ h=>(nomatch h)
theorem uE (κ:Key->KE):Old κ []:=fun _ h=>(nomatch h)
theorem Tj (hR:R n σ g I a w) {l:Leaf} {v:Value} {k:List LT->List (List T)->List EN->Prog} (hl:H6 σ.k g w I l v) (h:(xG l k).wp cf σ tr Q) :
  ∃ es rows deps dw,(k es rows deps).wp cf σ dw Q/\aL w (cu σ.k g I deps) (.sl es) v (.l rows)/\Cur σ.k deps/\Old σ.k deps /\ ∀ d∈deps,d.1∈wS l:=by
 obtain ⟨st,lt,d⟩:=l
 obtain ⟨hs,hl⟩:=hl
 unfold xG at h
 simp only at h hl
 cases lt with
 | sc s=>cases st <;> exact h.elim
 | sl es =>
  cases st with
  | sc=>exact h.elim
  | dead=>exact h.elim
  | nl =>
   obtain ⟨-,rfl,rfl⟩:=hl
   refine ⟨es,[],[],tr,h,?_,M5 _,uE _,fun _ h=>(nomatch h)⟩
   unfold aL
   exact ⟨none,0,[],rfl,rfl,Nat.le_refl _,Nat.zero_le _,.inl rfl⟩
  | sn ds =>
   obtain ⟨-,h1,h2⟩:=hl
   obtain ⟨h3,dw,h4⟩:=tF h
   have h5:=h2 h3
   obtain ⟨x,y,rows,rfl,h6⟩:=by unfold aL at h5; exact h5
   exact ⟨es,_,ds,dw,h4,h2 h3,h3,h1,fun d hd=>List.mem_map.2 ⟨d,hd,rfl⟩⟩
  | sb key m cv r off =>
   obtain ⟨-,-,h1,h2⟩:=hl
   obtain ⟨h3,dw,h4⟩:=tF h
   have h5:=(h2 h3).1
   obtain ⟨x,y,rows,rfl,h6⟩:=by unfold aL at h5; exact h5
   exact ⟨es,_,[(key,cv)],dw,h4,(h2 h3).1,h3,h1,fun d hd=>by rw [List.mem_singleton.1 hd]; exact List.mem_singleton.2 rfl⟩
  | al key m =>
   obtain ⟨-,h1,h2⟩:=hl
   obtain ⟨h3,h⟩:=h
   have h4:=h2 (Nat.eq_of_beq_eq_true h3)
   subst h4
   have hch:=hR.uY key
   split at h
   ·rename_i es' ms rows e
    rw [e] at hch
    refine ⟨es',rows,_,_,h,aV.leaf hch (fun _ _ h=>.inl h) (fun b o' hf=>.inr ⟨_,List.mem_singleton.2 rfl,.inr ⟨by simp only [e]; trivial,hf⟩⟩),?_,?_,fun d hd=>by rw [List.mem_singleton.1 hd]; exact List.mem_singleton.2 rfl⟩
    ·intro d hd; rw [List.mem_singleton.1 hd]
    ·intro d hd; rw [List.mem_singleton.1 hd]; exact Nat.le_refl _
   ·rename_i es' rows e
    rw [e] at hch
    exact ⟨es',rows,[],_,h,aL.mono (nH _) (fun _ _ _=>rfl) _ hch,M5 _,uE _,fun _ h=>(nomatch h)⟩
   ·exact h.elim
theorem qM (hR:R n σ g I a w) {l:Leaf} {v:Value} {k:List LT->List (List T)->List EN->Prog} (hl:H6 σ.k g w I l v) (h:(xG l k).wp cf σ tr Q) :
  ∃ es rows deps dw,(k es rows deps).wp cf σ dw Q/\aL w (cu σ.k g I deps) (.sl es) v (.l rows)/\Cur σ.k deps/\Old σ.k deps:=by
 obtain ⟨es,rows,deps,dw,h1,h2,h3,h4,-⟩:=Tj hR hl h
 exact ⟨es,rows,deps,dw,h1,h2,h3,h4⟩
end
end Go.E

namespace Go.E
open Go
section
variable {P:Program} {w:World} {I S A:aB}
theorem addr_add (b o k:Nat):Addr.add ⟨b,o,none⟩ k=⟨b,o+k,none⟩:=by
 unfold Addr.add
 split
 ·rename_i h; subst h; rfl
 ·rfl
theorem run_load {b o:Nat} {v:Value} (h:cellAt w b o=some v):(load ⟨b,o,none⟩).run P w = .ok v w:=by
 unfold cellAt at h
 simp [load,Sem.run,h]
theorem run_loadCellsFrom {b o:Nat} : ∀ (vs:List Value) (i:Nat) (acc:Array Value),bI w b (o+i) vs ->
  (loadCellsFrom ⟨b,o,none⟩ i vs.length acc).run P w = .ok (acc++vs.toArray) w
 | [],i,acc,h=>by simp [loadCellsFrom]
 | v::vs,i,acc,h=>by
  simp only [List.length_cons,loadCellsFrom,Sem.run_bind,addr_add,run_load h.1,Result.andThen_ok]
  rw [run_loadCellsFrom vs (i+1) (acc.push v) (by have:=h.2; rwa [show o+i+1=o+(i+1) from by omega] at this)]
  simp
theorem run_loadCells {b o:Nat} {vs:List Value} (h:bI w b o vs):(loadCells ⟨b,o,none⟩ vs.length).run P w = .ok vs.toArray w:=by
 unfold loadCells
 rw [run_loadCellsFrom vs 0 #[] (by simpa using h)]
 simp
end
section
variable {Γ:Ctx} {P:Program} {w:World}
theorem J7 {t:TypeId} {ti:TI} (h:vD Γ P t ti):(isAgg t).run P w = .ok (zD ti.kind) w:=by
 obtain ⟨d,h1,h2⟩:=h.und
 simp only [isAgg,Sem.run_bind,run_underlying h1,Result.andThen_ok]
 cases hk:ti.kind with
 | sc s=>rw [hk] at h2; cases s <;> first | (obtain ⟨rfl,-⟩:=h2; rfl) | exact h2.elim
 | slice e=>rw [hk] at h2; obtain ⟨rfl,-⟩:=h2; rfl
 | struct fs=>rw [hk] at h2; obtain ⟨fields,rfl,-⟩:=h2; rfl
 | array m e=>rw [hk] at h2; cases h2; rfl
 | ptr e=>rw [hk] at h2; obtain ⟨rfl,-⟩:=h2; rfl
 | other =>
  rw [hk] at h2
  cases d <;> first | rfl | exact absurd rfl (h2.1 _) | exact absurd rfl (h2.2.1 _ _)
theorem run_sizeOf {t:TypeId} {ti:TI} (h:vD Γ P t ti):(sizeOf t).run P w = .ok ti.aR.length w:=by
 obtain ⟨i,h1,h2,-⟩:=h.info
 simp [sizeOf,typeInfo,h1,h2,go_sem]
theorem Bu {t:TypeId} {ti:TI} (h:vD Γ P t ti) {b o:Nat} {vs:List Value} (hv:bI w b o vs) (hn:vs.length=ti.aR.length) :
  (zD ti.kind=true->(loadVar t ⟨b,o,none⟩).run P w = .ok (.agg vs.toArray) w) /\
  (zD ti.kind=false->∀ v,vs=[v]->(loadVar t ⟨b,o,none⟩).run P w = .ok v w):=by
 constructor
 ·intro ha
  simp only [loadVar,Sem.run_bind,J7 h,ha,Result.andThen_ok,if_true,run_sizeOf h]
  rw [<-hn]
  simp [run_loadCells hv]
 ·rintro ha v rfl
  simp only [loadVar,Sem.run_bind,J7 h,ha,Result.andThen_ok,Bool.false_eq_true,if_false]
  exact run_load hv.1
theorem LP {t:TypeId} {ti:TI} (h:vD Γ P t ti) (ha:zD ti.kind=false):ti.aR.length=1:=by
 obtain ⟨d,h1,h2⟩:=h.und
 cases hk:ti.kind with
 | sc s=>rw [hk] at h2; cases s <;> first | (rw [h2.2]; rfl) | exact h2.elim
 | slice e=>rw [hk] at h2; obtain ⟨-,te,-,h3,-⟩:=h2; rw [h3]; rfl
 | struct fs=>rw [hk] at ha; cases ha
 | array m e=>rw [hk] at ha; cases ha
 | ptr e=>rw [hk] at h2; rw [h2.2]; rfl
 | other=>rw [hk] at h2; rw [h2.2.2]; rfl
theorem Qc {ρ:Operand->Value} {o:Oper} {t:TypeId} {x:Operand} {b o':Nat} {v:Value} (hop:o.op = .load t x) (hx:ρ x = .pointer (some ⟨b,o',none⟩))
  (h:(loadVar t ⟨b,o',none⟩).run P w = .ok v w):(execOp ρ o).run P w = .ok (.value v) w:=by
 have h1:(Instr.loadAt t (ρ x)).run P w = .ok v w:=by
  simp only [Instr.loadAt,hx,Instr.sureAddr,pure_bind]
  exact h
 simp only [execOp,hop]
 rw [Sem.run_bind,h1]
 rfl
end
section
variable {Γ:Ctx} {P:Program} {cf:FuncId->List Arg->R3 gD}
variable {n:Fr} {σ:S} {g:Gh} {I:aB} {a:Act} {w:World}
variable {o:Oper} {f:FuncId} {tr:Tr} {Q:S->Tr->Prop} {K:Act->World->Prop} {Qm:Exit->Act->World->Prop}
theorem bT.drop {κ:Key->KE} : ∀ {ls:List Leaf} {vs:List Value} (k:Nat),bT κ g w I ls vs->bT κ g w I (ls.drop k) (vs.drop k)
 | ls,vs,0,h=>h
 | [],[],k+1,h=>trivial
 | _::ls,_::vs,k+1,h=>bT.drop k h.2
 | [],_::_,_+1,h=>h.elim
 | _::_,[],_+1,h=>h.elim
theorem bT.take {κ:Key->KE} : ∀ {ls:List Leaf} {vs:List Value} (k:Nat),bT κ g w I ls vs->bT κ g w I (ls.take k) (vs.take k)
 | ls,vs,0,h=>trivial
 | [],[],k+1,h=>trivial
 | _::ls,_::vs,k+1,h=>⟨h.1,bT.take k h.2⟩
 | [],_::_,_+1,h=>h.elim
 | _::_,[],_+1,h=>h.elim
theorem bT.len {κ:Key->KE} : ∀ {ls:List Leaf} {vs:List Value},bT κ g w I ls vs->vs.length=ls.length
 | [],[],h=>rfl
 | _::ls,_::vs,h=>by have:=bT.len h.2; simp; omega
 | [],_::_,h=>h.elim
 | _::_,[],h=>h.elim
theorem XG {κ:Key->KE} {deps:List EN} {lt:LT} {v:Value} {d:T} (ho:Old κ deps) (hi : ∀ b o,I b o->cu κ g I deps b o)
  (h:aL w (cu κ g I deps) lt v d):H6 κ g w I (ac6 deps lt d) v:=by
 unfold ac6
 cases lt with
 | sl es=>exact ⟨h.single,trivial,ho,fun _=>h⟩
 | sc s=>refine ⟨h.single,s,rfl,?_⟩; unfold aL at h; exact h
theorem agR {α β:Type} (f:Nat->α) (n:Nat):(List.range n).map f=(List.range' 0 n).map f:=by rw [List.range_eq_range']
theorem LQ {κ:Key->KE} {S:aB} {mk:LT->T->Leaf} (hmk : ∀ lt v d,aL w S lt v d->H6 κ g w I (mk lt d) v) :
  ∀ (size:Nat) {es:List LT} {vs:List Value} {ds:List T},aT w S es vs ds->size<=es.length ->
  bT κ g w I ((List.range size).map fun j=>mk (es.getD j default) (ds.getD j dflt)) (vs.take size)
 | 0,es,vs,ds,h,hn=>trivial
 | size+1,[],_,_,h,hn=>by simp at hn
 | size+1,e::es,[],ds,h,hn=>h.elim
 | size+1,e::es,v::vs,[],h,hn=>h.elim
 | size+1,e::es,v::vs,d::ds,h,hn=>by
  rw [List.range_succ_eq_map,List.map_cons,List.map_map]
  exact ⟨hmk _ _ _ h.1,LQ hmk size h.2 (by simpa using hn)⟩
theorem getD_drop {α:Type} (l:List α) (k j:Nat) (d:α):(l.drop k).getD j d=l.getD (k+j) d:=by
 simp [List.getD,List.getElem?_drop]
theorem aaV {κ:Key->KE} {key:Key} {r off:Nat} {lt:LT} {m:M} {v:Value} {d:T} {bs:List Nat} (hl:Live (κ key).ch) (hb : ∀ b o,FB w bs b o->g.F key b o)
  (hloc : ∃ b o,addrIn (mJ (κ key).ch) (g.h key) r off=some (b,o)/\cellAt w b o=some v/\g.F key b o) (h:bQ w I lt m v d bs) :
  H6 κ g w I (MJ key (κ key).bK (κ key).cv r off lt m d) v:=by
 have hs:=h.single
 unfold MJ
 cases lt with
 | sc s =>
  unfold bQ at h
  cases m <;> exact ⟨hs,s,rfl,h.1⟩
 | sl es =>
  cases m with
  | F =>
   unfold bQ at h
   exact ⟨hs,trivial,uE _,fun _=>aL.mono (nH _) (fun _ _ _=>rfl) _ h.1⟩
  | O x =>
   have aaW : ∀ b o,g.F key b o->cu κ g I [(key,(κ key).cv)] b o:=fun b o hf=>.inr ⟨_,List.mem_singleton.2 rfl,.inr ⟨hl,hf⟩⟩
   refine ⟨hs,trivial,Nat.le_refl _,fun d hd=>by rw [List.mem_singleton.1 hd]; exact Nat.le_refl _,fun _=>⟨bQ.leaf (fun b o hi=>.inl hi) _ (fun b o hf=>aaW b o (hb b o hf)) h,fun _=>?_⟩⟩
   obtain ⟨b,o,h1,h2,h3⟩:=hloc
   exact ⟨b,o,h1,h2,aaW b o h3⟩
theorem amA {ms:List M} (h:noO ms) (j:Nat) : ∀ x,ms.getD j .F ≠ .O x:=by
 intro x
 rw [List.getD]
 cases hj:ms[j]? with
 | none=>simp
 | some m=>simpa using h m (List.mem_of_getElem? hj) x
theorem Zf {κ:Key->KE} {key:Key} {r off size b o0:Nat} {es:List LT} {ms:List M} {row:List T} {vs:List Value} {bs:List Nat} (hl:Live (κ key).ch) (hb : ∀ b o,FB w bs b o->g.F key b o)
  (hloc : ∀ j,j<es.length->addrIn (mJ (κ key).ch) (g.h key) r j=some (b,o0+j)/\g.F key b (o0+j)) (hc:bI w b o0 vs)
  (h:av w I es ms vs row bs) (hn:off+size<=es.length):bT κ g w I (OZ key (κ key).bK (κ key).cv r off size es ms row) ((vs.drop off).take size):=by
 have aux : ∀ (size k:Nat) (es:List LT) (ms:List M) (vs:List Value) (ds:List T) (bs:List Nat),av w I es ms vs ds bs->(∀ b o,FB w bs b o->g.F key b o) ->
   (∀ j v,vs[j]? = some v->∃ b o,addrIn (mJ (κ key).ch) (g.h key) r (k+j)=some (b,o)/\cellAt w b o=some v/\g.F key b o)->size<=es.length ->
   bT κ g w I ((List.range size).map fun j=>MJ key (κ key).bK (κ key).cv r (k+j) (es.getD j default) (ms.getD j .F) (ds.getD j dflt)) (vs.take size):=by
  intro size
  induction size with
  | zero=>intros; trivial
  | succ size ih =>
   intro k es ms vs ds bs h hb hloc hn
   cases es with
   | nil=>simp at hn
   | cons e es =>
    unfold av at h
    obtain ⟨v,vs',d,ds',b1,b2,rfl,rfl,rfl,h1,h2⟩:=h
    rw [List.range_succ_eq_map,List.map_cons,List.map_map]
    refine ⟨?_,?_⟩
    ·have:=aaV (m:=ms.headD .F) hl (fun b o hf=>hb b o (mU.2 (.inl hf))) (hloc 0 v (by simp)) h1
     cases ms <;> simpa using this
    ·have:=ih (k+1) es ms.tail vs' ds' b2 h2 (fun b o hf=>hb b o (mU.2 (.inr hf))) (fun j v hv=>by
      have:=hloc (j+1) v (by simpa using hv)
      rwa [show k+(j+1)=k+1+j from by omega] at this) (by simpa using hn)
     have e1 : ∀ j,ms.tail.getD j .F=ms.getD (j+1) .F:=fun j=>by cases ms <;> simp [List.getD]
     simpa [Function.comp_def,Nat.add_assoc,Nat.add_comm 1,e1] using this
 obtain ⟨b1,b2,rfl,-,h2⟩:=h.split off
 have hl2:=av.len es h
 have:=aux size off (es.drop off) (ms.drop off) (vs.drop off) (row.drop off) b2 h2 (fun b o hf=>hb b o (mU.2 (.inr hf))) (fun j v hv=>by
  rw [List.getElem?_drop] at hv
  obtain ⟨hj,rfl⟩:=List.getElem?_eq_some_iff.1 hv
  obtain ⟨h3,h4⟩:=hloc (off+j) (by omega)
  exact ⟨_,_,h3,hc.get _ hj,h4⟩) (by rw [List.length_drop]; omega)
 simpa only [getD_drop,OZ] using this
theorem ajd (hΓ:eF Γ P) (hd:dA n.np n.nt o=true) (hR:R n σ g I a w) (hK:Post P n I w Q K) {t:TypeId} {x:Operand} (hop:o.op = .load t x)
  (h:(bA Γ f o).wp cf σ tr Q):Goal P o a w K Qm:=by
 simp only [bA,hop] at h
 obtain ⟨ti,-,hty,h⟩:=fK hΓ h
 obtain ⟨e,t1,he,h⟩:=jv hR h
 have fin : ∀ (b o':Nat) (vs:List Value) (ls:List Leaf) (t':Tr),a.eval x = .pointer (some ⟨b,o',none⟩)->bI w b o' vs->vs.length=ti.aR.length ->
   bT σ.k g w I ls vs->(put o.dst (Ic (zD ti.kind) ls)).wp cf σ t' Q->Goal P o a w K Qm:=by
  intro b o' vs ls t' hx hc hn hl hp
  cases ha:zD ti.kind with
  | true =>
   rw [ha] at hp
   exact jN hd hR hK (Qc hop hx ((Bu hty hc hn).1 ha)) (Te (by simpa using hl)) hp
  | false =>
   rw [ha] at hp
   have hn1:=LP hty ha
   rw [hn1] at hn
   match vs,hn with
   | [v],_=>exact jN hd hR hK (Qc hop hx ((Bu hty hc (by simpa using hn1.symm)).2 ha v rfl)) (O9 hl) hp
 split at h
 ·rename_i key m r off
  obtain ⟨hs,h1,h2⟩:=he
  obtain ⟨h3,h⟩:=h
  obtain ⟨b,o',hx,jO⟩:=h2 (Nat.eq_of_beq_eq_true h3)
  have hch:=hR.uY key
  split at h
  ·rename_i ls e
   rw [e] at hch jO
   obtain ⟨h4,h⟩:=h
   obtain ⟨bb,oo,c,el,fz,hh,hblk,hsz,-,-,hls⟩:=hch
   rw [hh] at jO
   simp only [addrIn,Option.some.injEq,Prod.mk.injEq] at jO
   obtain ⟨rfl,rfl⟩:=jO
   have h5:off+ti.aR.length<=ls.length:=Nat.le_of_ble_eq_true h4
   have hcells : ∀ (vs:List Value) (k:Nat),(∀ j (hj:j<vs.length),c[k+j]? = some vs[j])->bI w bb k vs:=by
    intro vs
    induction vs with
    | nil=>intro k _; trivial
    | cons v vs ih =>
     intro k hk
     refine ⟨?_,ih (k+1) fun j hj=>?_⟩
     ·have:=hk 0 (by simp)
      unfold cellAt World.cell?
      rw [hblk]; simpa using this
     ·have:=hk (j+1) (by simpa using hj)
      rwa [show k+(j+1)=k+1+j from by omega] at this
   refine fin bb (oo+off) (((c.toList.drop oo).take ls.length).drop off |>.take ti.aR.length) _ _ hx (hcells _ _ fun j hj=>?_) ?_ (bT.take _ (bT.drop _ hls)) h
   ·have hj':j<ti.aR.length/\off+j<ls.length/\oo+(off+j)<c.size:=by
     simp only [List.length_take,List.length_drop,Array.length_toList] at hj
     omega
    simp only [List.getElem_take,List.getElem_drop,Array.getElem_toList]
    rw [show oo+off+j=oo+(off+j) from by omega]
    exact Array.getElem?_eq_getElem hj'.2.2
   ·simp only [List.length_take,List.length_drop,Array.length_toList]
    omega
  ·rename_i es ms rows e
   rw [e] at hch jO
   obtain ⟨h4,h5,h⟩:=h
   have h4:off+ti.aR.length<=es.length:=Nat.le_of_ble_eq_true h4
   have h5:r<rows.length:=of_decide_eq_true h5
   obtain ⟨bb,cap,vs,bs,hh,h6,h7,h8,h9⟩:=aV.row hch h5
   rw [hh] at jO
   simp only [addrIn,mJ,Option.some.injEq,Prod.mk.injEq,Nat.zero_add] at jO
   obtain ⟨rfl,rfl⟩:=jO
   have e1:rows.getD r []=rows[r]:=by simp [h5]
   rw [e1] at h
   have hid:=Nat.eq_of_beq_eq_true h3
   rw [<-hid] at h
   refine fin bb _ _ _ _ hx ((h6.drop off).take _) ?_ (Zf (by rw [e]; trivial) h8 (fun j hj=>⟨by rw [e,hh]; simp only [addrIn,mJ,Nat.zero_add],h9 j hj⟩) h6 h7 h4) h
   rw [List.length_take,List.length_drop,(av.len es h7).1]
   omega
  ·rename_i es rows e
   rw [e] at hch jO
   obtain ⟨h4,h5,h⟩:=h
   have h4:off+ti.aR.length<=es.length:=Nat.le_of_ble_eq_true h4
   have h5:r<rows.length:=of_decide_eq_true h5
   simp only [KD] at hch
   unfold aL at hch
   obtain ⟨aa,cap,rows',e',hh,-,-,hrows⟩:=hch
   cases e'
   rcases hrows with rfl | ⟨bb,oo,rfl,hrows⟩
   ·simp at h5
   ·rw [hh] at jO
    simp only [addrIn,mJ,Option.some.injEq,Prod.mk.injEq] at jO
    obtain ⟨rfl,rfl⟩:=jO
    obtain ⟨vs,h6,h7⟩:=(hrows r h5).vals
    have e1:rows.getD r []=rows[r]:=by simp [h5]
    rw [e1] at h
    refine fin bb _ _ _ _ hx ((h7.drop off).take _) ?_ (LQ (fun lt v d hl=>XG (uE _) (nH _) (aL.mono (nH _) (fun _ _ _=>rfl) _ hl)) _ (h6.drop off) (by rw [List.length_drop]; omega)) h
    rw [List.length_take,List.length_drop,h6.len.1]
    omega
  ·rename_i es ms rows r' jj e
   rw [e] at hch jO
   obtain ⟨h4,h5,h⟩:=h
   have h4:=Nat.eq_of_beq_eq_true h4
   subst h4
   have h5:=Nat.eq_of_beq_eq_true h5
   obtain ⟨-,-,hrl,bb,cap,c,el,fz,B1,B2,hh,-,-,-,-,-,-,-,-,-,yG⟩:=hch
   have yG:=yG h5
   rw [hh] at jO
   simp only [addrIn,mJ,Option.some.injEq,Prod.mk.injEq,Nat.zero_add] at jO
   obtain ⟨rfl,rfl⟩:=jO
   split at h
   ·rename_i ls eb
    obtain ⟨h6,h⟩:=h
    have h6:off+ti.aR.length<=ls.length:=Nat.le_of_ble_eq_true h6
    have hb:=hR.uY (iG key)
    rw [eb] at hb
    obtain ⟨b2,o2,c2,el2,fz2,hh2,hblk,hsz,-,-,hls⟩:=hb
    rw [yG] at hh2
    cases hh2
    refine fin bb _ ((((c2.toList.drop (r * es.length)).take ls.length).drop off).take ti.aR.length) _ _ hx (bI.of_block hblk _ _ fun j hj=>?_) ?_ (bT.take _ (bT.drop _ hls)) h
    ·simp only [List.length_take,List.length_drop,Array.length_toList] at hj
     simp only [List.getElem_take,List.getElem_drop,Array.getElem_toList]
     rw [show r * es.length+off+j=r * es.length+(off+j) from by omega]
     exact Array.getElem?_eq_getElem (by omega)
    ·simp only [List.length_take,List.length_drop,Array.length_toList]
     omega
   ·exact h.elim
  ·exact h.elim
 ·rename_i deps aR row
  obtain ⟨hs,h1,h2⟩:=he
  obtain ⟨h3,h⟩:=h
  obtain ⟨h4,t',h⟩:=tF h
  obtain ⟨b,o',hx,hrow⟩:=h2 h4
  obtain ⟨vs,h5,h6⟩:=hrow.vals
  have hle:ti.aR.length<=aR.length:=Nat.le_of_ble_eq_true h3
  refine fin b o' (vs.take ti.aR.length) _ _ hx (h6.take _) ?_ (LQ (fun lt v d hl=>XG h1 (fun _ _ h=>.inl h) hl) _ h5 hle) h
  rw [List.length_take,h5.len.1]
  omega
 ·exact h.elim
end
end Go.E

namespace Go.E
open Go
section
variable {Γ:Ctx} {P:Program} {w:World} {ρ:Operand->Value} {o:Oper}
theorem KF {t:TypeId} {x:Operand} {i b o':Nat} {fields:Array Field} {fd:Field} {j:TypeInfo} (hop:o.op = .fieldAddr t x i) (hx:ρ x = .pointer (some ⟨b,o',none⟩))
  (hu:P.underlying t=some (.struct fields)) (hf:fields[i]? = some fd) (hi:P.info? fd.type=some j) (h0:j.size≠0) :
  (execOp ρ o).run P w = .ok (.value (.pointer (some ⟨b,o'+fd.offset,none⟩))) w:=by
 have h1:(Instr.fieldAt t (ρ x) i).run P w = .ok (.pointer (some ⟨b,o'+fd.offset,none⟩)) w:=by
  have h2:(sizeOf fd.type).run P w = .ok j.size w:=by simp [sizeOf,typeInfo,hi,go_sem]
  simp only [Instr.fieldAt,hx,Instr.sureAddr,Sem.run_bind,run_underlying hu,Result.andThen_ok,hf,pure_bind,fieldPlace,h2,h0,if_false,addr_add]
  rfl
 simp only [execOp,hop]
 rw [Sem.run_bind,h1]
 rfl
theorem XH {t:TypeId} {x:Operand} {i:Nat} {fields:Array Field} {fd:Field} {cs:Array Value} {v:Value} (hop:o.op = .field t x i) (hx:ρ x = .agg cs)
  (hu:P.underlying t=some (.struct fields)) (hf:fields[i]? = some fd) (hp:(part fd.type cs fd.offset).run P w = .ok v w) :
  (execOp ρ o).run P w = .ok (.value v) w:=by
 have h1:(Instr.field t (ρ x) i).run P w = .ok v w:=by
  simp only [Instr.field,hx,asAgg,Sem.run_bind,run_underlying hu,Result.andThen_ok,hf,pure_bind]
  exact hp
 simp only [execOp,hop]
 rw [Sem.run_bind,h1]
 rfl
theorem Ww {t e:TypeId} {x ix:Operand} {b o' len cap:Nat} {k:IntKind} {i:Int} {sz:Nat} (hop:o.op = .indexAddr t x ix)
  (hx:ρ x = .slice (some ⟨b,o',none⟩) len cap) (hi:ρ ix = .int k i) (hu:P.underlying t=some (.slice e)) (hs:(sizeOf e).run P w = .ok sz w) (h:0<=i/\i<len) :
  (execOp ρ o).run P w = .ok (.value (.pointer (some ⟨b,o'+i.toNat * sz,none⟩))) w:=by
 have h1:(Instr.indexAt t (ρ x) (ρ ix)).run P w = .ok (.pointer (some ⟨b,o'+i.toNat * sz,none⟩)) w:=by
  simp only [Instr.indexAt,hx,hi,asIntOf,Sem.run_bind,run_underlying hu,Result.andThen_ok,pure_bind,h,and_self,if_true,hs,addr_add,Sem.run_pure]
 simp only [execOp,hop]
 rw [Sem.run_bind,h1]
 rfl
theorem afl {t:TypeId} {x ix:Operand} {k:IntKind} {i:Int} {s:ByteArray} (hop:o.op = .index t x ix)
  (hx:ρ x = .string s) (hi:ρ ix = .int k i) (hu:P.underlying t=some .string) (h:0<=i/\i<s.size) :
  (execOp ρ o).run P w = .ok (.value (.int .u8 (s.data.toList.getD i.toNat 0).toNat)) w:=by
 have hlt:i.toNat<s.size:=by omega
 have hs:s[i.toNat]? = some (s.data.toList.getD i.toNat 0):=by
  rw [getElem?_pos s i.toNat hlt]
  have:i.toNat<s.data.toList.length:=by simpa using hlt
  rw [List.getD,List.getElem?_eq_getElem this]
  rfl
 have h1:(Instr.index t (ρ x) (ρ ix)).run P w = .ok (.int .u8 (s.data.toList.getD i.toNat 0).toNat) w:=by
  simp only [Instr.index,hx,hi,asIntOf,Sem.run_bind,run_underlying hu,Result.andThen_ok,pure_bind,h.1,if_true,hs,Sem.run_pure]
 simp only [execOp,hop]
 rw [Sem.run_bind,h1]
 rfl
theorem Zg {fn:FuncId} {cs:Array Operand} (hop:o.op = .makeFunc (.func fn) #[] cs) :
  (execOp ρ o).run P w = .ok (.value (.func (.func fn) #[] (cs.map ρ))) w:=by
 simp only [execOp,hop]
 rw [Sem.run_bind]
 simp [Instr.makeFunc]
theorem Iq {b:Builtin} {c:Call} {v:Value} (hop:o.op = .call c) (hc:c.callee = .builtin b)
  (h:(builtin b c.argTypes o.type (c.args.map fun | .const _=>true | _=>false) (c.args.map ρ)).run P w = .ok (.value v) w) :
  (execOp ρ o).run P w = .ok (.value v) w:=by
 simp only [execOp,hop]
 rw [Sem.run_bind]
 simp only [resolve,hc]
 exact h
end
section
variable {Γ:Ctx} {P:Program} {cf:FuncId->List Arg->R3 gD}
variable {n:Fr} {σ:S} {g:Gh} {I:aB} {a:Act} {w:World}
variable {o:Oper} {f:FuncId} {tr:Tr} {Q:S->Tr->Prop} {K:Act->World->Prop} {Qm:Exit->Act->World->Prop}
def wW (κ:Key->KE) (g:Gh) (w:World) (I:aB):List eU->List Value->Prop
 | [],[]=>True
 | l::ls,v::vs=>jC κ g w I l v/\wW κ g w I ls vs
 | _,_=>False
theorem zP (hR:R n σ g I a w) : ∀ {xs:List Operand} {k:List eU->Prog} {tr:Tr},(P9 xs k).wp cf σ tr Q ->
  ∃ es dw,wW σ.k g w I es (xs.map a.eval)/\(k es).wp cf σ dw Q
 | [],k,tr,h=>⟨[],tr,trivial,h⟩
 | x::xs,k,tr,h=>by
  obtain ⟨e,t1,he,h⟩:=jv hR h
  obtain ⟨es,t2,hes,h⟩:=zP hR (xs:=xs) h
  exact ⟨e::es,t2,⟨he,hes⟩,h⟩
theorem Qd {t:TypeId} {ti:TI} {fs:List (Nat×TypeId)} (h:vD Γ P t ti) (hk:ti.kind = .struct fs) :
  ∃ fields,P.underlying t=some (.struct fields) /\ ∀ (i off:Nat) (ft:TypeId),fs[i]? = some (off,ft)->∃ fd j,fields[i]? = some fd/\fd.offset=off/\fd.type=ft/\P.info? ft=some j/\j.size≠0:=by
 obtain ⟨d,h1,h2⟩:=h.und
 rw [hk] at h2
 obtain ⟨fields,rfl,rfl,h3⟩:=h2
 refine ⟨fields,h1,fun i off ft hi=>?_⟩
 simp only [List.getElem?_map,Option.map_eq_some_iff,Prod.mk.injEq] at hi
 obtain ⟨fd,hfd,rfl,rfl⟩:=hi
 obtain ⟨j,hj,hj0⟩:=h3 fd (List.mem_of_getElem? hfd)
 exact ⟨fd,j,by simpa using hfd,rfl,rfl,hj,hj0⟩
theorem mg {t e:TypeId} {ti:TI} (h:vD Γ P t ti) (hk:ti.kind = .slice e) :
  P.underlying t=some (.slice e) /\ ∃ te,Γ.ty e=some te/\ti.aR=[.sl te.aR]/\te.aR≠[]:=by
 obtain ⟨d,h1,h2⟩:=h.und
 rw [hk] at h2
 obtain ⟨rfl,h3⟩:=h2
 exact ⟨h1,h3⟩
theorem M6 {t:TypeId} {ti:TI} (h:vD Γ P t ti) (hk:ti.kind = .sc .str):P.underlying t=some .string:=by
 obtain ⟨d,h1,h2⟩:=h.und
 rw [hk] at h2
 rw [h1,h2.1]
theorem Pb {k:TK} (h:Ig k=true):k = .sc .str:=by
 unfold Ig at h
 split at h
 ·rfl
 ·cases h
theorem tK {k:TK} (h:uq k=true) : ∃ e,k = .slice e:=by
 unfold uq at h
 split at h
 ·exact ⟨_,rfl⟩
 ·cases h
theorem Zh (hΓ:eF Γ P) (hd:dA n.np n.nt o=true) (hR:R n σ g I a w) (hK:Post P n I w Q K) {t:TypeId} {x:Operand} {i:Nat} (hop:o.op = .fieldAddr t x i)
  (h:(bA Γ f o).wp cf σ tr Q):Goal P o a w K Qm:=by
 simp only [bA,hop] at h
 obtain ⟨ti,-,hty,h⟩:=fK hΓ h
 obtain ⟨e,t1,he,h⟩:=jv hR h
 split at h
 ·rename_i fs hk
  obtain ⟨⟨off,ft⟩,hfs,h⟩:=dN h
  obtain ⟨fields,hu,hfd⟩:=Qd hty hk
  obtain ⟨fd,j,h1,rfl,rfl,h2,h3⟩:=hfd i off ft hfs
  split at h
  ·rename_i k m r oo _
   obtain ⟨hs,h4,h5⟩:=he
   obtain ⟨h6,h⟩:=h
   obtain ⟨b,o',hx,ha⟩:=h5 (Nat.eq_of_beq_eq_true h6)
   refine jN hd hR hK (KF hop hx hu h1 h2 h3) (e:=.ptr k m r (oo+fd.offset)) ⟨⟨fun _ h=>(nomatch h),fun _ h=>(nomatch h)⟩,h4,fun _=>⟨b,o'+fd.offset,rfl,?_⟩⟩ h
   unfold addrIn at ha ⊢
   split at ha
   ·cases ha; simp [Nat.add_assoc]
   ·cases ha; simp [Nat.add_assoc]
   ·cases ha
  ·rename_i deps aR row _
   obtain ⟨hs,h4,h5⟩:=he
   obtain ⟨h8,h⟩:=h
   obtain ⟨h6,t2,h⟩:=tF h
   obtain ⟨b,o',hx,ha⟩:=h5 h6
   refine jN hd hR hK (KF hop hx hu h1 h2 h3) (e:=.rp deps (aR.drop fd.offset) (row.drop fd.offset)) ⟨⟨fun _ h=>(nomatch h),fun _ h=>(nomatch h)⟩,h4,fun _=>⟨b,o'+fd.offset,rfl,?_⟩⟩ h
   have drop : ∀ (k:Nat) {es:List LT} {o:Nat} {row:List T},k<=es.length->bY w (cu σ.k g I deps) (cu σ.k g I deps) es b o row->bY w (cu σ.k g I deps) (cu σ.k g I deps) (es.drop k) b (o+k) (row.drop k):=by
    intro k
    induction k with
    | zero=>intro es o row _ h; exact h
    | succ k ih =>
     intro es o row hk h
     cases es with
     | nil=>simp at hk
     | cons e es =>
      unfold bY at h
      obtain ⟨d,rest,v,rfl,-,-,-,h⟩:=h
      have:=ih (by simpa using hk) h
      rwa [show o+1+k=o+(k+1) from by omega] at this
   exact drop _ (Nat.le_of_ble_eq_true h8) ha
  ·exact h.elim
 ·exact h.elim
theorem agS (hΓ:eF Γ P) (hd:dA n.np n.nt o=true) (hR:R n σ g I a w) (hK:Post P n I w Q K) {t:TypeId} {x:Operand} {i:Nat} (hop:o.op = .field t x i)
  (h:(bA Γ f o).wp cf σ tr Q):Goal P o a w K Qm:=by
 simp only [bA,hop] at h
 obtain ⟨ti,-,hty,h⟩:=fK hΓ h
 obtain ⟨e,t1,he,h⟩:=jv hR h
 split at h
 ·rename_i fs ls hk
  obtain ⟨⟨off,ft⟩,hfs,h⟩:=dN h
  obtain ⟨tf,-,htf,h⟩:=fK hΓ h
  obtain ⟨fields,hu,hfd⟩:=Qd hty hk
  obtain ⟨fd,j,h1,rfl,rfl,h2,h3⟩:=hfd i off ft hfs
  obtain ⟨cs,hx,hls⟩:=he
  obtain ⟨h4,h⟩:=h
  have h4:fd.offset+tf.aR.length<=ls.length:=Nat.le_of_ble_eq_true h4
  have hlen:=hls.len
  cases ha:zD tf.kind with
  | true =>
   rw [ha] at h
   refine jN hd hR hK (XH hop hx hu h1 (v:=.agg (cs.extract fd.offset (fd.offset+tf.aR.length))) ?_) (Te ?_) h
   ·simp [part,J7 htf,ha,run_sizeOf htf]
   ·have:=(hls.drop fd.offset).take tf.aR.length
    simpa [Array.toList_extract,List.extract_eq_take_drop,Nat.add_sub_cancel_left] using this
  | false =>
   rw [ha] at h
   have h1':=LP htf ha
   have hlt:fd.offset<cs.size:=by simp at hlen; omega
   refine jN hd hR hK (XH hop hx hu h1 (v:=cs[fd.offset]) ?_) (O9 ?_) h
   ·simp [part,J7 htf,ha,hlt]
   ·have:=(hls.drop fd.offset).take tf.aR.length
    rw [h1'] at this ⊢
    have e:(List.drop fd.offset cs.toList).take 1=[cs[fd.offset]]:=by
     rw [List.drop_eq_getElem_cons (by simpa using hlt)]
     rfl
    rwa [e] at this
 ·exact h.elim
theorem Zi (hΓ:eF Γ P) (hd:dA n.np n.nt o=true) (hR:R n σ g I a w) (hK:Post P n I w Q K) {t:TypeId} {x i:Operand} (hop:o.op = .indexAddr t x i)
  (h:(bA Γ f o).wp cf σ tr Q):Goal P o a w K Qm:=by
 simp only [bA,hop] at h
 obtain ⟨ti,-,hty,h⟩:=fK hΓ h
 obtain ⟨e,t1,he,h⟩:=jv hR h
 obtain ⟨ei,t2,hei,h⟩:=jv hR h
 obtain ⟨s,d,rfl,hv,h⟩:=oG hei h
 split at h
 ·rename_i _ el tes l hk Zj _ _
  obtain ⟨ix,hix,rfl,-⟩:=hv
  obtain ⟨hu,te,hte,hl,-⟩:=mg hty hk
  have hsz:=run_sizeOf (w:=w) (hΓ.ty _ _ hte)
  rw [Zj] at hl
  simp only [List.cons.injEq,LT.sl.injEq,and_true] at hl
  subst hl
  have fin : ∀ (es:List LT) (rows:List (List T)) (S:aB),aL w S (.sl es) (a.eval x) (.l rows)->es.length=te.aR.length->0<=ix/\ix<rows.length ->
    ∃ b oo len cap,a.eval x = .slice (some ⟨b,oo,none⟩) len cap/\(execOp a.eval o).run P w = .ok (.value (.pointer (some ⟨b,oo+ix.toNat * es.length,none⟩))) w /\
     ∀ (hi:ix.toNat<rows.length),bY w S S es b (oo+ix.toNat * es.length) rows[ix.toNat]:=by
   intro es rows S o7 hlen hb
   unfold aL at o7
   obtain ⟨aa,cap,rows',e1,hv,-,-,hrows⟩:=o7
   cases e1
   rcases hrows with rfl | ⟨b,oo,rfl,hrows⟩
   ·simp at hb; omega
   ·refine ⟨b,oo,_,_,hv,?_,fun hi=>hrows _ hi⟩
    rw [hlen]
    exact Ww hop hv hix hu hsz hb
  split at h
  ·rename_i key m hst
   obtain ⟨hs,hl⟩:=he
   simp only [hst] at hl
   obtain ⟨-,h1,h2⟩:=hl
   obtain ⟨h3,h⟩:=h
   have hid:=Nat.eq_of_beq_eq_true h3
   have hval:=h2 hid
   have hch:=hR.uY key
   split at h
   ·rename_i es ms rows e
    rw [e] at hch
    obtain ⟨h4,h5,h⟩:=h
    obtain ⟨b,oo,len,cap,hv,hrun,-⟩:=fin es rows (fun _ _=>True) (by rw [hval]; exact aL.mono (fun _ _ _=>trivial) (fun _ _ _=>rfl) _ (aV.leaf (S:=fun _ _=>True) hch (fun _ _ _=>trivial) (fun _ _ _=>trivial)))
     (Nat.eq_of_beq_eq_true h4) (of_decide_eq_true h5)
    refine jN hd hR hK hrun (e:=.ptr key m ix.toNat 0) ⟨⟨fun _ h=>(nomatch h),fun _ h=>(nomatch h)⟩,h1,fun _=>⟨b,_,rfl,?_⟩⟩ h
    rw [<-hval,hv,e]
    simp [addrIn,mJ]
   ·rename_i es rows e
    rw [e] at hch
    obtain ⟨h4,h5,h⟩:=h
    obtain ⟨b,oo,len,cap,hv,hrun,-⟩:=fin es rows I (by rw [hval]; exact hch) (Nat.eq_of_beq_eq_true h4) (of_decide_eq_true h5)
    refine jN hd hR hK hrun (e:=.ptr key m ix.toNat 0) ⟨⟨fun _ h=>(nomatch h),fun _ h=>(nomatch h)⟩,h1,fun _=>⟨b,_,rfl,?_⟩⟩ h
    rw [<-hval,hv,e]
    simp [addrIn,mJ]
   ·exact h.elim
  ·obtain ⟨es,rows,deps,t',h,h1,h2,h3⟩:=qM hR he h
   obtain ⟨h4,h5,h⟩:=h
   have hb:=of_decide_eq_true h5
   simp only [T.int] at hb
   obtain ⟨b,oo,len,cap,hv,hrun,hrow⟩:=fin es rows _ h1 (Nat.eq_of_beq_eq_true h4) hb
   have hlt:ix.toNat<rows.length:=by omega
   refine jN hd hR hK hrun (e:=.rp deps es (rows.getD ix.toNat [])) ⟨⟨fun _ h=>(nomatch h),fun _ h=>(nomatch h)⟩,h3,fun _=>⟨b,_,rfl,?_⟩⟩ h
   have e1:rows.getD ix.toNat []=rows[ix.toNat]:=by simp [hlt]
   rw [e1]
   exact hrow hlt
 ·exact h.elim
theorem agU (hΓ:eF Γ P) (hd:dA n.np n.nt o=true) (hR:R n σ g I a w) (hK:Post P n I w Q K) {t:TypeId} {x i:Operand} (hop:o.op = .index t x i)
  (h:(bA Γ f o).wp cf σ tr Q):Goal P o a w K Qm:=by
 simp only [bA,hop] at h
 obtain ⟨ti,-,hty,h⟩:=fK hΓ h
 obtain ⟨e,t1,he,h⟩:=jv hR h
 obtain ⟨ei,t2,hei,h⟩:=jv hR h
 obtain ⟨s,d,rfl,hv,h⟩:=oG he h
 obtain ⟨s',d',rfl,hv',h⟩:=oG hei h
 split at h
 ·have hk:ti.kind = .sc .str:=by assumption
  obtain ⟨str,hs,rfl,-⟩:=hv
  obtain ⟨ix,hix,rfl,-⟩:=hv'
  obtain ⟨h1,h⟩:=h
  have h1:=of_decide_eq_true h1
  simp only [T.int,T.str] at h1
  refine mR hd hR hK (s:=.int .u8) (afl hop hs hix (M6 hty hk) h1) ⟨_,rfl,rfl,?_⟩ h
  have:=UInt8.toNat_lt (str.data.toList.getD ix.toNat 0)
  simp only [IntKind.min,IntKind.max,IntKind.bits,IntKind.signed]
  constructor
  ·simp
  ·simp only [Bool.false_eq_true,if_false]
   omega
 ·exact h.elim
theorem aaX (hd:dA n.np n.nt o=true) (hR:R n σ g I a w) (hK:Post P n I w Q K) {fn:FuncId} {fs cs:Array Operand} (hop:o.op = .makeFunc (.func fn) fs cs)
  (h:(bA Γ f o).wp cf σ tr Q):Goal P o a w K Qm:=by
 simp only [bA,hop] at h
 cases he:fs.isEmpty with
 | false=>simp only [he,cond_false] at h; exact h.elim
 | true =>
  simp only [he,cond_true] at h
  have hfs:fs = #[]:=by simpa using he
  subst hfs
  obtain ⟨es,t',hes,h⟩:=zP hR h
  obtain ⟨h1,h⟩:=h
  refine jN hd hR hK (Zg hop) (e:=.fn fn es) ⟨_,rfl,?_⟩ h
  have aux : ∀ (es:List eU) (vs:List Value),wW σ.k g w I es vs->es.all Y3=true->pQ σ.k g w I es vs:=by
   intro es
   induction es with
   | nil=>intro vs h _; cases vs with | nil=>trivial | cons=>exact h.elim
   | cons e es ih =>
    intro vs h hf
    cases vs with
    | nil=>exact h.elim
    | cons v vs =>
     simp only [List.all_cons,Bool.and_eq_true] at hf
     refine ⟨?_,ih vs h.2 hf.2⟩
     have h1:=h.1
     cases e <;> first | exact h1 | (simp [Y3] at hf)
  simpa using aux es _ hes h1
end
end Go.E

namespace Go.E
open Go
section
variable {Γ:Ctx} {P:Program} {w:World} {ρ:Operand->Value} {o:Oper}
theorem aaY {t:TypeId} {ts:Array TypeId} {ty:TypeId} {s:ByteArray} (ht:ts[0]? = some t) (hu:P.underlying t=some .string) :
  (Builtin.len_ ts ty #[.string s]).run P w = .ok (.int .i64 s.size) w:=by
 simp [Builtin.len_,ht,run_underlying hu,goInt]
theorem run_len_slice {t e:TypeId} {ts:Array TypeId} {ty:TypeId} {a:Option Addr} {len cap:Nat} (ht:ts[0]? = some t) (hu:P.underlying t=some (.slice e)) :
  (Builtin.len_ ts ty #[.slice a len cap]).run P w = .ok (.int .i64 len) w:=by
 simp [Builtin.len_,ht,run_underlying hu,goInt]
theorem GQ {c:Call} {v:Value} (hop:o.op = .call c) (hc:c.callee = .builtin .len)
  (h:(Builtin.len_ c.argTypes o.type (c.args.map ρ)).run P w = .ok v w) :
  (execOp ρ o).run P w = .ok (.value v) w:=by
 refine Iq hop hc ?_
 simp only [builtin]
 rw [Sem.run_bind,h]
 rfl
theorem qN {v:Value} {k:IntKind} {i:Int} {y:Nat} {code:BoundsCode} (hv:v = .int k i) (h:0<=i/\i<=y) :
  (Instr.sliceBound v y code).run P w = .ok i.toNat w:=by
 subst hv
 simp [Instr.sliceBound,asIntOf,h]
def GR (o:Option Value) (d x:Int):Prop:=(o=none/\x=d) \/ ∃ k,o=some (.int k x)
theorem Tk {sl:Bool} {len cap:Nat} {lo hi:Option Value} {l h:Int} (hlo:GR lo 0 l) (hhi:GR hi len h) (h1:0<=h/\h<=len) (h2:0<=l/\l<=h) (hc:len<=cap) :
  (Instr.sliceBounds sl len cap lo hi none).run P w = .ok (l.toNat,h.toNat,cap) w:=by
 have h3:0<=h/\h<=(cap:Int):=⟨h1.1,by omega⟩
 have h4:0<=l/\l<=(h.toNat:Int):=⟨h2.1,by omega⟩
 rcases hlo with ⟨rfl,rfl⟩ | ⟨k,rfl⟩ <;> rcases hhi with ⟨rfl,rfl⟩ | ⟨k',rfl⟩
 ·simp [Instr.sliceBounds]
 ·simp [Instr.sliceBounds,qN rfl h3]
 ·simp only [Instr.sliceBounds,pure_bind,Sem.run_bind]
  simp only [Sem.run_pure,Result.andThen_ok]
  have h5:0<=l/\l<=(len:Int):=by omega
  simp [qN rfl h5]
 ·simp only [Instr.sliceBounds,pure_bind,Sem.run_bind]
  simp [qN rfl h3,qN rfl h4]
theorem Wx {t:TypeId} {x:Operand} {lo hi:Option Operand} {s:ByteArray} {l h:Int} (hop:o.op = .slice t x lo hi none) (hx:ρ x = .string s)
  (hu:P.underlying t=some .string) (hlo:GR (lo.map ρ) 0 l) (hhi:GR (hi.map ρ) s.size h) (h1:0<=h/\h<=s.size) (h2:0<=l/\l<=h) :
  (execOp ρ o).run P w = .ok (.value (.string (s.extract l.toNat h.toNat))) w:=by
 have h3:(Instr.sliceAt t (ρ x) (lo.map ρ) (hi.map ρ) none).run P w = .ok (.string (s.extract l.toNat h.toNat)) w:=by
  simp only [Instr.sliceAt,Sem.run_bind,run_underlying hu,Result.andThen_ok,Instr.slice,hx]
  simp [Tk (P:=P) (w:=w) (sl:=false) hlo hhi h1 h2 (Nat.le_refl _)]
 simp only [execOp,hop]
 rw [Sem.run_bind,show (none:Option Operand).map ρ=none from rfl,h3]
 rfl
theorem EZ {t e:TypeId} {x:Operand} {lo hi:Option Operand} {aa:Option Addr} {len cap sz:Nat} {l h:Int} (hop:o.op = .slice t x lo hi none) (hx:ρ x = .slice aa len cap)
  (hu:P.underlying t=some (.slice e)) (hs:(sizeOf e).run P w = .ok sz w) (hlo:GR (lo.map ρ) 0 l) (hhi:GR (hi.map ρ) len h) (h1:0<=h/\h<=len) (h2:0<=l/\l<=h) (hc:len<=cap) :
  (execOp ρ o).run P w = .ok (.value (.slice (if cap=l.toNat then aa else aa.map (·.add (l.toNat * sz))) (h.toNat-l.toNat) (cap-l.toNat))) w:=by
 have h3:(Instr.sliceAt t (ρ x) (lo.map ρ) (hi.map ρ) none).run P w = .ok (.slice (if cap=l.toNat then aa else aa.map (·.add (l.toNat * sz))) (h.toNat-l.toNat) (cap-l.toNat)) w:=by
  simp only [Instr.sliceAt,Sem.run_bind,run_underlying hu,Result.andThen_ok,Instr.slice,hx]
  simp [Tk (P:=P) (w:=w) (sl:=true) hlo hhi h1 h2 hc,hs]
 simp only [execOp,hop]
 rw [Sem.run_bind,show (none:Option Operand).map ρ=none from rfl,h3]
 rfl
end
section
variable {Γ:Ctx} {P:Program} {cf:FuncId->List Arg->R3 gD}
variable {n:Fr} {σ:S} {g:Gh} {I:aB} {a:Act} {w:World}
variable {o:Oper} {f:FuncId} {tr:Tr} {Q:S->Tr->Prop} {K:Act->World->Prop} {Qm:Exit->Act->World->Prop}
theorem afm {κ:Key->KE} {e:eU} {vs:List Value} (h:wW κ g w I [e] vs) : ∃ v,vs=[v]/\jC κ g w I e v:=by
 match vs,h with
 | [v],h=>exact ⟨v,rfl,h.1⟩
theorem E5 {S:aB} {es:List LT} {v:Value} {rows:List (List T)} (h:aL w S (.sl es) v (.l rows)) :
  ∃ aa cap,v = .slice aa rows.length cap/\rows.length<=cap/\rows.length<=aW /\
   (rows=[] \/ ∃ b o,aa=some ⟨b,o,none⟩ /\ ∀ i (h:i<rows.length),bY w S S es b (o+i * es.length) rows[i]):=by
 unfold aL at h
 obtain ⟨aa,cap,rows',e1,hv,h1,h2,h3⟩:=h
 cases e1
 exact ⟨aa,cap,hv,h1,h2,h3⟩
theorem J8 {S:aB} {es:List LT} {aa:Option Addr} {cap:Nat} {rows:List (List T)} (h1:rows.length<=cap) (h2:rows.length<=aW)
  (h3:rows=[] \/ ∃ b o,aa=some ⟨b,o,none⟩ /\ ∀ i (h:i<rows.length),bY w S S es b (o+i * es.length) rows[i]):aL w S (.sl es) (.slice aa rows.length cap) (.l rows):=by
 unfold aL
 exact ⟨aa,cap,rows,rfl,rfl,h1,h2,h3⟩
theorem M7 {e:eU} {v:Value} {d0:Nat} (hdst:o.dst=some d0) (hd:dA n.np n.nt o=true) (hR:R n σ g I a w) (hK:Post P n I w Q K)
  (hrun:(execOp a.eval o).run P w = .ok (.value v) w) (he:jC σ.k g w I e v) (h:(Prog.lg d0 e .ret).wp cf σ tr Q):Goal P o a w K Qm :=
 jN hd hR hK hrun he (by unfold put; rw [hdst]; exact h)
theorem ak0 (hΓ:eF Γ P) (hd:dA n.np n.nt o=true) (hR:R n σ g I a w) (hK:Post P n I w Q K) {c:Call} (hop:o.op = .call c) (hc:c.callee = .builtin .len)
  (h:(bA Γ f o).wp cf σ tr Q):Goal P o a w K Qm:=by
 simp only [bA,hop,hc] at h
 obtain ⟨t,ht,h⟩:=dN h
 obtain ⟨ti,-,hty,h⟩:=fK hΓ h
 obtain ⟨es,t1,hes,h⟩:=zP hR h
 split at h
 ·rename_i l _ _
  obtain ⟨v,hv,hl⟩:=afm hes
  have hargs:c.args.map a.eval = #[v]:=by
   apply Array.toList_inj.1; simpa using hv
  split at h
  ·rename_i hst hlt
   obtain ⟨hk,h⟩:=h
   obtain ⟨hs,hl⟩:=hl
   simp only [hst] at hl
   obtain ⟨s,e1,hl⟩:=hl
   rw [hlt] at e1
   cases e1
   obtain ⟨s,rfl,hd',hsz⟩:=hl
   rw [hd'] at h
   refine mR hd hR hK (s:=.int .i64) (GQ hop hc (by rw [hargs]; exact aaY ht (M6 hty (Pb hk)))) ⟨_,rfl,rfl,?_⟩ h
   have e1:IntKind.i64.min = -9223372036854775808:=by decide
   rw [e1,Zd]
   simp only [T.str]
   omega
  ·obtain ⟨hk,h⟩:=h
   obtain ⟨es,rows,deps,t',h,o7,-,-⟩:=qM hR hl h
   obtain ⟨aa,cap,rfl,h1,h2,-⟩:=E5 o7
   obtain ⟨e,hk⟩:=tK hk
   obtain ⟨hu,-⟩:=mg hty hk
   have h:=h (decide_eq_true h2)
   refine mR hd hR hK (s:=.int .i64) (GQ hop hc (by rw [hargs]; exact run_len_slice ht hu)) ⟨_,rfl,rfl,?_⟩ h
   have e1:IntKind.i64.min = -9223372036854775808:=by decide
   unfold aW at h2
   rw [e1,Zd]
   omega
 ·exact h.elim
theorem aaZ (hR:R n σ g I a w) {e:eU} {v:Value} {k:Int->Prog} (he:jC σ.k g w I e v)
  (h:(vB e fun s t=>match s with | .int _=>k t.int | _=>.fail).wp cf σ tr Q) : ∃ kd x,v = .int kd x/\(k x).wp cf σ tr Q:=by
 obtain ⟨s,d,rfl,hv,h⟩:=oG he h
 split at h
 ·obtain ⟨x,hx,rfl,-⟩:=hv
  exact ⟨_,x,hx,h⟩
 ·exact h.elim
theorem vE (hR:R n σ g I a w) (lo hi:Option Operand) {LU Q0:Option eU} {nn:Nat} {k:Int->Int->Prog}
  (hlo : ∀ x,lo=some x->∃ e,LU=some e/\jC σ.k g w I e (a.eval x)) (E8:lo=none->LU=none)
  (hhi : ∀ x,hi=some x->∃ e,Q0=some e/\jC σ.k g w I e (a.eval x)) (Pd:hi=none->Q0=none)
  (h:(sliceBound Q0 nn fun h=>sliceBound LU 0 fun a=>k h a).wp cf σ tr Q) :
  ∃ l hh,GR (lo.map a.eval) 0 l/\GR (hi.map a.eval) nn hh/\(k hh l).wp cf σ tr Q:=by
 have one : ∀ (x:Option Operand) (e:Option eU) (d:Int) (k:Int->Prog),(∀ y,x=some y->∃ e',e=some e'/\jC σ.k g w I e' (a.eval y))->(x=none->e=none) ->
   (sliceBound e d k).wp cf σ tr Q->∃ v,GR (x.map a.eval) d v/\(k v).wp cf σ tr Q:=by
  intro x e d k h1 h2 h
  cases x with
  | none=>rw [h2 rfl] at h; exact ⟨d,.inl ⟨rfl,rfl⟩,h⟩
  | some y =>
   obtain ⟨e',rfl,he⟩:=h1 y rfl
   obtain ⟨kd,v,hv,h⟩:=aaZ hR he h
   exact ⟨v,.inr ⟨kd,by simp [hv]⟩,h⟩
 obtain ⟨hh,h1,h⟩:=one hi Q0 nn _ hhi Pd h
 obtain ⟨l,h2,h⟩:=one lo LU 0 _ hlo E8 h
 exact ⟨l,hh,h2,h1,h⟩
theorem XI {S:aB} {es:List LT} {aa:Option Addr} {cap:Nat} {rows:List (List T)} {l h:Nat} (hl:aL w S (.sl es) (.slice aa rows.length cap) (.l rows)) (h1:h<=rows.length) (h2:l<=h) :
  aL w S (.sl es) (.slice (if cap=l then aa else aa.map (·.add (l * es.length))) (h-l) (cap-l)) (.l ((rows.take h).drop l)):=by
 obtain ⟨aa',cap',e1,h3,h4,h5⟩:=E5 hl
 cases e1
 have hlen:((rows.take h).drop l).length=h-l:=by simp; omega
 rw [<-hlen]
 refine J8 (by omega) (by omega) ?_
 by_cases hz:h=l
 ·left; apply List.length_eq_zero_iff.1; omega
 ·rcases h5 with rfl | ⟨b,o,rfl,h5⟩
  ·simp at h1; omega
  ·right
   have hne:cap≠l:=by omega
   refine ⟨b,o+l * es.length,by simp [hne,addr_add],fun i hi=>?_⟩
   have hi':i+l<rows.length:=by omega
   have:=h5 (l+i) (by omega)
   have e1:(List.drop l (List.take h rows))[i]=rows[l+i]:=by
    simp [List.getElem_drop,List.getElem_take]
   rw [e1,Nat.add_assoc,<-Nat.add_mul]
   exact this
theorem CK (hΓ:eF Γ P) (hd:dA n.np n.nt o=true) (hR:R n σ g I a w) (hK:Post P n I w Q K) {t:TypeId} {ti:TI} {x:Operand} {lo hi:Option Operand} {d0:Nat} (hop:o.op = .slice t x lo hi none)
  (hdst:o.dst=some d0) (hty:vD Γ P t ti) {e:eU} (he:jC σ.k g w I e (a.eval x)) {LU Q0:Option eU}
  (hlo : ∀ x,lo=some x->∃ e,LU=some e/\jC σ.k g w I e (a.eval x)) (E8:lo=none->LU=none)
  (hhi : ∀ x,hi=some x->∃ e,Q0=some e/\jC σ.k g w I e (a.eval x)) (Pd:hi=none->Q0=none)
  (h:(nS ti 0 d0 e LU Q0).wp cf σ tr Q):Goal P o a w K Qm:=by
 unfold nS at h
 obtain ⟨l,rfl,hl,h⟩:=EX he h
 simp only at h
 split at h
 ·rename_i hst hlt
  obtain ⟨hk,h⟩:=h
  obtain ⟨hs,hl⟩:=hl
  simp only [hst] at hl
  obtain ⟨s,e1,hl⟩:=hl
  rw [hlt] at e1
  cases e1
  obtain ⟨s,hx,hd',hsz⟩:=hl
  rw [hd'] at h
  obtain ⟨lv,hv,h1,h2,h3,h4,h⟩:=vE hR lo hi hlo E8 hhi Pd h
  have h3:=of_decide_eq_true h3
  have h4:=of_decide_eq_true h4
  have hrun:=Wx (w:=w) hop hx (M6 hty (Pb hk)) h1 h2 h3 h4
  rw [<-hdst] at h
  refine mR hd hR hK (s:=.str) hrun ⟨_,rfl,rfl,?_⟩ h
  simp only [ByteArray.size_extract]
  omega
 ·obtain ⟨es,rows,deps,t',h,o7,h1,h2⟩:=qM hR hl h
  obtain ⟨hk,h⟩:=h
  split at hk
  ·rename_i tes Zj
   simp only [Bool.and_eq_true] at hk
   obtain ⟨hk,hlen⟩:=hk
   have hlen:=Nat.eq_of_beq_eq_true hlen
   obtain ⟨el,hk⟩:=tK hk
   obtain ⟨hu,te,hte,hl',-⟩:=mg hty hk
   rw [Zj] at hl'
   simp only [List.cons.injEq,LT.sl.injEq,and_true] at hl'
   subst hl'
   obtain ⟨aa,cap,hv,hcap,-,-⟩:=E5 o7
   obtain ⟨lv,hv',hb1,hb2,hb3,hb4,h⟩:=vE hR lo hi hlo E8 hhi Pd h
   have hb3:=of_decide_eq_true hb3
   have hb4:=of_decide_eq_true hb4
   have hrun:=EZ hop hv hu (run_sizeOf (w:=w) (hΓ.ty _ _ hte)) hb1 hb2 hb3 hb4 hcap
   rw [<-hlen] at hrun
   rw [hv] at o7
   have hfin:=XI (l:=lv.toNat) (h:=hv'.toNat) o7 (by omega) (by omega)
   exact M7 (e:=.one ⟨.sn deps,.sl es,.l ((rows.take hv'.toNat).drop lv.toNat)⟩) hdst hd hR hK hrun ⟨hfin.single,trivial,h2,fun _=>hfin⟩ h
  ·cases hk
theorem Bv {ρ:Operand->Value} {s t:TypeId} {x:Operand} {v:Value} {w':World} (hop:o.op = .convert s t x) (h:(convert s t (ρ x)).run P w = .ok v w') :
  (execOp ρ o).run P w = .ok (.value v) w':=by
 simp only [execOp,hop]
 rw [Sem.run_bind,h]
 rfl
theorem M8 {S:aB} : ∀ (rows:List (List T)) (b o:Nat),(∀ i (h:i<rows.length),bY w S S [.sc (.int .u8)] b (o+i * 1) rows[i]) ->
  ∃ ns:List Int,bI w b o (ns.map (Value.int .u8))/\ns.length=rows.length/\qI rows=⟨(ns.map fun n=>UInt8.ofNat n.toNat).toArray⟩
 | [],b,o,_=>⟨[],trivial,rfl,rfl⟩
 | r::rs,b,o,h=>by
  have h0:=h 0 (by simp)
  unfold bY at h0
  obtain ⟨d,rest,v,e1,-,hc,hl,-⟩:=h0
  unfold aL at hl
  obtain ⟨x,rfl,rfl,-⟩:=hl
  obtain ⟨ns,h1,h2,h3⟩:=M8 rs b (o+1) fun i hi=>by
   have:=h (i+1) (by simpa using hi)
   rw [show o+1+i * 1=o+(i+1) * 1 from by omega]
   simpa using this
  refine ⟨x::ns,⟨by simpa using hc,h1⟩,by simp [h2],?_⟩
  simp only [List.getElem_cons_zero] at e1
  unfold qI at h3 ⊢
  have h3:=List.toArray_inj (ByteArray.mk.inj h3)
  rw [List.map_cons,List.map_cons,h3,e1]
  rfl
theorem foldl_push (ns:List Int) : ∀ (acc:ByteArray),ns.foldl (fun r n=>r.push (UInt8.ofNat n.toNat)) acc=⟨(acc.data.toList++ns.map fun n=>UInt8.ofNat n.toNat).toArray⟩:=by
 induction ns with
 | nil=>intro acc; simp
 | cons n ns ih =>
  intro acc
  simp only [List.foldl_cons,ih]
  obtain ⟨data⟩:=acc
  simp [ByteArray.push]
theorem Zk {S:aB} {v:Value} {rows:List (List T)} (h:aL w S (.sl [.sc (.int .u8)]) v (.l rows)) :
  (Conv.bytesToString v).run P w = .ok (.string (qI rows)) w/\(qI rows).size=rows.length:=by
 obtain ⟨aa,cap,rfl,h1,h2,h3⟩:=E5 h
 have hsz:(qI rows).size=rows.length:=by simp [qI,ByteArray.size]
 refine ⟨?_,hsz⟩
 rcases h3 with rfl | ⟨b,o,rfl,h3⟩
 ·cases aa with
  | none=>simp [Conv.bytesToString,qI]; rfl
  | some aa =>
   have:=run_bytesToString (P:=P) w aa 0 cap [] (by simp [loadCells,loadCellsFrom])
   exact this.trans rfl
 ·obtain ⟨ns,h4,h5,h6⟩:=M8 rows b o (by simpa using h3)
  have:=run_bytesToString (P:=P) w ⟨b,o,none⟩ rows.length cap ns (by
   have:=run_loadCells (P:=P) h4
   simpa [h5] using this)
  rw [this,h6,foldl_push]
  simp
theorem Tm {k:TK} (h:RY k=true):k = .sc (.int .u8):=by
 unfold RY at h
 split at h
 ·rfl
 ·cases h
theorem Q5 (hΓ:eF Γ P) (hd:dA n.np n.nt o=true) (hR:R n σ g I a w) (hK:Post P n I w Q K) {s t:TypeId} {ts tt:TI} {x:Operand} {d0:Nat} (hop:o.op = .convert s t x)
  (hdst:o.dst=some d0) (hts:vD Γ P s ts) (htt:vD Γ P t tt) {e:eU} (he:jC σ.k g w I e (a.eval x)) (hno : ¬ (ts.kind = .sc .str /\ ∃ el,tt.kind = .slice el))
  (h:(Ih Γ d0 ts tt e).wp cf σ tr Q):Goal P o a w K Qm:=by
 obtain ⟨ds,hus,hks⟩:=hts.und
 obtain ⟨dt,hut,hkt⟩:=htt.und
 unfold Ih at h
 split at h
 ·rename_i k k' e1 e2
  rw [e1] at hks; rw [e2] at hkt
  obtain ⟨rfl,-⟩:=hks
  obtain ⟨rfl,-⟩:=hkt
  obtain ⟨st,d,rfl,hv,h⟩:=oG he h
  split at h
  ·rw [<-hdst] at h
   obtain ⟨i,hv,rfl,-⟩:=hv
   exact mR hd hR hK (s:=.int k') (v:=.int k' (k'.wrap i)) (Bv hop (by rw [hv]; simp [convert,run_underlying hus,run_underlying hut,Conv.intToInt])) xM h
  ·exact h.elim
 ·rename_i e1 e2
  rw [e1] at hks; rw [e2] at hkt
  obtain ⟨rfl,-⟩:=hks
  obtain ⟨rfl,-⟩:=hkt
  obtain ⟨st,d,rfl,hv,h⟩:=oG he h
  split at h
  ·rw [<-hdst] at h
   have hv':=hv
   obtain ⟨i,hv,rfl,-⟩:=hv
   exact mR hd hR hK (s:=.str) (v:=.string i) (Bv hop (by rw [hv]; simp [convert,run_underlying hus,run_underlying hut])) (by rw [<-hv]; exact hv') h
  ·exact h.elim
 ·rename_i e1 e2; exact absurd ⟨e1,_,e2⟩ hno
 ·rename_i el e1 e2
  rw [e1] at hks; rw [e2] at hkt
  obtain ⟨rfl,-⟩:=hks
  obtain ⟨rfl,-⟩:=hkt
  obtain ⟨te,-,hte,h⟩:=fK hΓ h
  obtain ⟨hb,h⟩:=h
  obtain ⟨de,hue,hke⟩:=hte.und
  rw [Tm hb] at hke
  obtain ⟨rfl,-⟩:=hke
  obtain ⟨l,rfl,hl,h⟩:=EX he h
  obtain ⟨es,rows,deps,t',h,o7,-,-⟩:=qM hR hl h
  split at h
  ·rw [<-hdst] at h
   obtain ⟨h1,h2⟩:=Zk (P:=P) o7
   obtain ⟨aa,cap,hv,hc1,hc2,-⟩:=E5 o7
   refine mR hd hR hK (s:=.str) (Bv hop (v:=.string (qI rows)) ?_) ⟨_,rfl,rfl,?_⟩ h
   ·rw [hv] at h1 ⊢
    rw [run_convert_bytes_string (P:=P) w s t el aa _ _ hus hue hut]
    exact h1
   ·unfold aW at hc2
    omega
  ·exact h.elim
 ·exact h.elim
end
end Go.E

namespace Go.E
open Go
theorem Keeps.weaken {A B:aB} {w w':World} (h:Keeps A w w') (hab : ∀ b o,B b o->A b o):Keeps B w w' :=
 ⟨h.size,fun b x hx=>by
  obtain ⟨y,hy,hk⟩:=h.obj b x hx
  refine ⟨y,hy,?_⟩
  cases x <;> simp only [pY] at hk ⊢ <;> try exact hk
  obtain ⟨c',h1,h2,h3⟩:=hk
  exact ⟨c',h1,h2,fun o ho=>h3 o (hab b o ho)⟩,h.os,h.output,h.tape⟩
def Gh.set (g:Gh) (k:Key) (h:Value) (F:aB):Gh:=⟨fun u=>if u=k then h else g.h u,fun u=>if u=k then F else g.F u,g.D⟩
@[simp] theorem Gh.nT (g:Gh) (k:Key) (h:Value) (F:aB):(g.set k h F).h k=h:=by simp [Gh.set]
@[simp] theorem Gh.jw (g:Gh) (k:Key) (h:Value) (F:aB):(g.set k h F).F k=F:=by simp [Gh.set]
theorem Gh.xO (g:Gh) {k u:Key} (h:Value) (F:aB) (hu:u≠k):(g.set k h F).h u=g.h u:=by simp [Gh.set,hu]
theorem Gh.uF (g:Gh) {k u:Key} (h:Value) (F:aB) (hu:u≠k):(g.set k h F).F u=g.F u:=by simp [Gh.set,hu]
theorem aQ (σ:S) (k:Key) (e:KE):(σ.bq k e).k k=e:=by simp [S.bq,fG]
theorem aP (σ:S) {k u:Key} (e:KE) (h:u≠k):(σ.bq k e).k u=σ.k u:=by
 have:dH u k=false:=by
  cases hb:dH u k
  ·rfl
  ·exact absurd ((dY _ _).1 hb) h
 simp [S.bq,this]
section
variable {P:Program} {w w':World} {I I' A:aB} {κ κ':Key->KE} {g g':Gh}
theorem tL {n:Fr} {σ:S} {a:Act} (hR:R n σ g I a w) {k:Key} (hl:Live (σ.k k).ch) {b o:Nat} (hf:g.F k b o) : ∃ v,cellAt w b o=some v:=by
 have h:=hR.uY k
 cases hc:(σ.k k).ch with
 | gone=>rw [hc] at hl; exact hl.elim
 | fz es rows=>rw [hc] at hl; exact hl.elim
 | box ls =>
  rw [hc] at h
  obtain ⟨b',o',c,el,fz,-,h1,h2,-,h3,-⟩:=h
  obtain ⟨rfl,h4,h5⟩:=(h3 b o).1 hf
  rw [l5 h1]
  exact ⟨_,Array.getElem?_eq_getElem (by omega)⟩
 | row es ms rows =>
  rw [hc] at h
  exact aV.cell h hf
 | Ib m j ls =>
  rw [hc] at h
  obtain ⟨⟨b',o',c,el,fz,-,h1,h2,-,h3,-⟩,-⟩:=h
  obtain ⟨rfl,h4,h5⟩:=(h3 b o).1 hf
  rw [l5 h1]
  exact ⟨_,Array.getElem?_eq_getElem (by omega)⟩
 | hol es ms rows r j =>
  rw [hc] at h
  obtain ⟨-,-,-,b',cap,c,el,fz,B1,B2,-,-,h1,-,-,-,-,-,h3,-⟩:=h
  rcases (h3 b o).1 hf with ⟨rfl,h4,-⟩ | h4
  ·rw [l5 h1]
   exact ⟨_,Array.getElem?_eq_getElem h4⟩
  ·exact Ze h4
theorem mF {b o:Nat} (h : ∃ v,cellAt w b o=some v):b<w.heap.size:=by
 obtain ⟨v,h⟩:=h
 unfold cellAt World.cell? at h
 simp only at h
 split at h
 ·rename_i hb
  exact (Array.getElem?_eq_some_iff.1 hb).1
 ·cases h
theorem mQ.keep {ls:List Leaf} {h:Value} {F:aB} (e:fQ κ g w I κ' g' w' I') (hr:mQ κ g w I ls h F) (hk:Keeps A w w') (hA : ∀ b o,F b o->A b o) :
  mQ κ' g' w' I' ls h F:=by
 obtain ⟨b,o,c,el,fz,h1,h2,h3,h4,h5,h6⟩:=hr
 obtain ⟨c',h7,h8,h9⟩:=hk.block h2
 refine ⟨b,o,c',el,fz,h1,h7,by omega,h4,h5,?_⟩
 have:(c'.toList.drop o).take ls.length=(c.toList.drop o).take ls.length:=by
  apply List.ext_getElem?
  intro i
  by_cases hi:i<ls.length
  ·rw [List.getElem?_take_of_lt hi,List.getElem?_take_of_lt hi,List.getElem?_drop,List.getElem?_drop,Array.getElem?_toList,Array.getElem?_toList]
   exact h9 _ (hA _ _ ((h5 b (o+i)).2 ⟨rfl,by omega,by omega⟩))
  ·rw [List.getElem?_eq_none (by simp; omega),List.getElem?_eq_none (by simp; omega)]
 rw [this]
 exact e.lfs h6
theorem SY.keep {k:Key} {m j:Nat} {ls:List Leaf} {h:Value} {F:aB} (e:fQ κ g w I κ' g' w' I') (hr:SY κ g w I k m j ls h F) (hk:Keeps A w w') (hA : ∀ b o,F b o->A b o) :
  SY κ' g' w' I' k m j ls h F:=by
 obtain ⟨⟨b,o,c,el,fz,h1,h2,h3,h4,h5,h6⟩,h7,h8⟩:=hr
 obtain ⟨c',h9,h10,h11⟩:=hk.block h2
 refine ⟨⟨b,o,c',el,fz,h1,h9,by omega,h4,h5,?_⟩,Nat.le_trans h7 (e.bK _),fun hi=>?_⟩
 ·have:(c'.toList.drop (o+m)).take ls.length=(c.toList.drop (o+m)).take ls.length:=by
   apply List.ext_getElem?
   intro i
   by_cases hi:i<ls.length
   ·rw [List.getElem?_take_of_lt hi,List.getElem?_take_of_lt hi,List.getElem?_drop,List.getElem?_drop,Array.getElem?_toList,Array.getElem?_toList]
    exact h11 _ (hA _ _ ((h5 b (o+m+i)).2 ⟨rfl,by omega,by omega⟩))
   ·rw [List.getElem?_eq_none (by simp; omega),List.getElem?_eq_none (by simp; omega)]
  rw [this]
  exact e.lfs h6
 ·have h12:(κ (nM k)).bK=j:=by have:=e.bK (nM k); omega
  rw [(e.head _ (hi.trans h12.symm)).1]; exact h8 h12
theorem S9.keep {k:Key} {es:List LT} {ms:List M} {rows:List (List T)} {r j:Nat} {h:Value} {F:aB} (e:fQ κ g w I κ' g' w' I') (hr:S9 κ g w I k es ms rows r j h F) (hk:Keeps A w w') (hA : ∀ b o,F b o->A b o) :
  S9 κ' g' w' I' k es ms rows r j h F:=by
 obtain ⟨h0,h1,h2,b,cap,c,el,fz,B1,B2,h3,h4,h5,h6,h7,h8,h9,h10,h11,h12,h13⟩:=hr
 obtain ⟨c',hb,hsz,hcc⟩:=hk.block h5
 have hb1 : ∀ b∈B1++B2,∃ c el fz,Block w b c el fz:=fun x hx=>(List.mem_append.1 hx).elim (oH (I:=I) (fun vs ds bs h=>av.blocks es h) _ h8 x) (oH (I:=I) (fun vs ds bs h=>av.blocks es h) _ h9 x)
 have hcell : ∀ o,o<c.size->¬ (r * es.length<=o/\o<(r+1) * es.length)->c'[o]? = c[o]?:=fun o ho hn=>hcc o (hA _ _ ((h11 b o).2 (.inl ⟨rfl,ho,hn⟩)))
 have hF : ∀ x∈[B1,B2],∀ b o,FB w x b o->A b o:=fun x hx b o hf=>hA b o ((h11 b o).2 (.inr (sO (fun y hy=>by
  rcases List.mem_cons.1 hx with rfl | hx
  ·simp [hy]
  ·rw [List.mem_singleton.1 hx] at hy; simp [hy]) b o hf)))
 have hm:(r+1) * es.length<=cap * es.length:=Nat.mul_le_mul_right _ (by omega)
 have hr1:(rows.take r).length=r:=by rw [List.length_take]; omega
 refine ⟨h0,h1,h2,b,cap,c',el,fz,B1,B2,h3,h4,hb,hsz.trans h6,by rw [hsz]; exact h7,?_,?_,qL hk (fun x hx=>by
  rcases List.mem_cons.1 hx with rfl | hx
  ·exact ⟨c,el,fz,h5⟩
  ·exact hb1 x hx) h10,fun b' o'=>?_,Nat.le_trans h12 (e.bK _),fun hi=>?_⟩
 ·refine aO.cells (aO.imp (fun vs ds b' hb' h=>av.keep hk e.jr es (fun b o hf=>hF B1 (by simp) b o (sO hb' b o hf)) h) h8) ?_
  rw [hr1]
  apply List.ext_getElem?
  intro i
  by_cases hi:i<r * es.length
  ·rw [List.getElem?_take_of_lt hi,List.getElem?_take_of_lt hi,Array.getElem?_toList,Array.getElem?_toList]
   exact hcell i (by rw [Nat.add_mul,Nat.one_mul] at hm; omega) (by omega)
  ·rw [List.getElem?_eq_none (by simp; omega),List.getElem?_eq_none (by simp; omega)]
 ·refine aO.cells (aO.imp (fun vs ds b' hb' h=>av.keep hk e.jr es (fun b o hf=>hF B2 (by simp) b o (sO hb' b o hf)) h) h9) ?_
  congr 1
  apply List.ext_getElem?
  intro i
  rw [List.getElem?_drop,List.getElem?_drop,Array.getElem?_toList,Array.getElem?_toList]
  by_cases hi:(r+1) * es.length+i<c.size
  ·exact hcell _ hi (by omega)
  ·rw [Array.getElem?_eq_none (by omega),Array.getElem?_eq_none (by omega)]
 ·rw [h11,hsz,Ip hk hb1]
 ·have h14:(κ (iG k)).bK=j:=by have:=e.bK (iG k); omega
  rw [(e.head _ (hi.trans h14.symm)).1]; exact h13 h14
theorem KD.keep {k:Key} {ch:Ch} (e:fQ κ g w I κ' g' w' I') (hk:Keeps A w w') (hA:Live ch->∀ b o,g.F k b o->A b o) (h1:g'.h k=g.h k) (h2:g'.F k=g.F k)
  (h:KD κ g w I k ch):KD κ' g' w' I' k ch:=by
 cases ch with
 | gone=>trivial
 | fz es rows=>simp only [KD] at h ⊢; rw [h1]; exact e.leaf h
 | box ls=>simp only [KD] at h ⊢; rw [h1,h2]; exact h.keep e hk (hA trivial)
 | row es ms rows=>simp only [KD] at h ⊢; rw [h1,h2]; exact h.keep hk (hA trivial) e.jr
 | Ib m j ls=>simp only [KD] at h ⊢; rw [h1,h2]; exact h.keep e hk (hA trivial)
 | hol es ms rows r j=>simp only [KD] at h ⊢; rw [h1,h2]; exact h.keep e hk (hA trivial)
end
section
variable {n:Fr} {σ:S} {g:Gh} {I:aB} {a:Act} {w w':World}
theorem Keeps.rU {w w':World} (h:Keeps (fun _ _=>True) w w') {b o:Nat} (hv : ∃ v,cellAt w b o=some v):cellAt w' b o=cellAt w b o:=h.cell trivial hv
theorem aje (hR:R n σ g I a w) (k:Key) (e:KE) (h:Value) (F:aB) (h1:(σ.k k).bK<e.bK) (h2:(σ.k k).cv<e.cv) (hk:Keeps (fun _ _=>True) w w') :
  fQ σ.k g w I (σ.bq k e).k (g.set k h F) w' I where
 cv u:=by by_cases hu:u=k; subst hu; rw [aQ]; omega; rw [aP _ _ hu]; exact Nat.le_refl _
 bK u:=by by_cases hu:u=k; subst hu; rw [aQ]; omega; rw [aP _ _ hu]; exact Nat.le_refl _
 foot u hc hl b o hf:=by
  by_cases hu:u=k
  ·subst hu; rw [aQ] at hc; omega
  ·rw [aP _ _ hu,Gh.uF _ _ _ hu]
   exact ⟨.inl ⟨hl,hf⟩,hk.rU (tL hR hl hf)⟩
 head u hc:=by
  by_cases hu:u=k
  ·subst hu; rw [aQ] at hc; omega
  ·rw [aP _ _ hu,Gh.xO _ _ _ hu]
   exact ⟨rfl,rfl⟩
 jr b o h:=⟨h,hk.rU (hR.zM b o h)⟩
 dd b o h:=⟨h,hk.rU (hR.x.awf b o (hR.x.da b o h))⟩
theorem R.touch (hR:R n σ g I a w) {σ':S} {g':Gh} {I':aB} (T:Key->Prop) (Z:aB) (hs:σ'.s=σ.s) (hD:g'.D=g.D)
  (hsame : ∀ k,¬ T k->σ'.k k=σ.k k/\g'.h k=g.h k/\g'.F k=g.F k)
  (hT : ∀ k,T k->(σ.k k).cv<(σ'.k k).cv/\(σ.k k).bK<=(σ'.k k).bK/\((σ'.k k).bK=(σ.k k).bK->g'.h k=g.h k/\mJ (σ'.k k).ch=mJ (σ.k k).ch))
  (hpar : ∀ k,T k->fU n.np k->Live (σ'.k k).ch->g'.h k=n.H k)
  (hF : ∀ k,T k->Live (σ'.k k).ch->∀ b o,g'.F k b o->Z b o\/w.heap.size<=b)
  (hsep : ∀ k k',T k->T k'->Live (σ'.k k).ch->Live (σ'.k k').ch->k≠k'->aB.apart (g'.F k) (g'.F k'))
  (hZ : ∀ u,¬ T u->Live (σ.k u).ch->aB.apart (g.F u) Z) (hZI:aB.apart Z I) (hZA:aB.apart Z n.A)
  (hk:Keeps (fun b o=>¬ Z b o) w w')
  (hi1 : ∀ b o,I b o->I' b o) (hi2 : ∀ b o,I' b o->I b o\/Z b o\/w.heap.size<=b) (hi3 : ∀ k,T k->Live (σ'.k k).ch->aB.apart (g'.F k) I') (hi4 : ∀ b o,I' b o->∃ v,cellAt w' b o=some v)
  (hch:fQ σ.k g w I σ'.k g' w' I'->∀ k,T k->KD σ'.k g' w' I' k (σ'.k k).ch):R n σ' g' I' a w'/\fQ σ.k g w I σ'.k g' w' I':=by
 have ev:fQ σ.k g w I σ'.k g' w' I':=by
  refine ⟨fun k=>?_,fun k=>?_,fun k hc hl b o hf=>?_,fun k hc=>?_,fun b o h=>⟨hi1 b o h,hk.cell (fun hz=>hZI b o hz h) (hR.zM b o h)⟩,fun b o h=>⟨hD ▸ h,hk.cell (fun hz=>hZA b o hz (hR.x.da b o h)) (hR.x.awf b o (hR.x.da b o h))⟩⟩
  ·by_cases ht:T k
   ·exact Nat.le_of_lt (hT k ht).1
   ·rw [(hsame k ht).1]; exact Nat.le_refl _
  ·by_cases ht:T k
   ·exact (hT k ht).2.1
   ·rw [(hsame k ht).1]; exact Nat.le_refl _
  ·by_cases ht:T k
   ·have:=(hT k ht).1; omega
   ·rw [(hsame k ht).1,(hsame k ht).2.2]
    exact ⟨.inl ⟨hl,hf⟩,hk.cell (fun hz=>hZ k ht hl b o hf hz) (tL hR hl hf)⟩
  ·by_cases ht:T k
   ·exact (hT k ht).2.2 hc
   ·rw [(hsame k ht).1]; exact ⟨(hsame k ht).2.1,rfl⟩
 have hap : ∀ u,¬ T u->Live (σ.k u).ch->∀ k,T k->Live (σ'.k k).ch->∀ b o,g.F u b o->g'.F k b o->False:=fun u hu hl k hk' hlk b o hfu hf=>by
  rcases hF k hk' hlk b o hf with hh | hh
  ·exact hZ u hu hl b o hfu hh
  ·have:=mF (tL hR hl hfu); omega
 refine ⟨⟨hR.size,hR.nd,fun t=>by rw [hs]; exact ev.ent (hR.slots t),fun u=>?_,fun u v hu hv huv=>?_,fun u hu=>?_,hi4,hR.x.step (hk.weaken fun b o ha hz=>hZA b o hz ha) hD (fun u hu=>?_) (fun b o hi=>?_)⟩,ev⟩
 ·by_cases ht:T u
  ·exact hch ev u ht
  ·obtain ⟨h1,h2,h3⟩:=hsame u ht
   rw [h1]
   exact KD.keep ev hk (fun hl b o hf hz=>hZ u ht hl b o hf hz) h2 h3 (hR.uY u)
 ·by_cases ht:T u
  ·by_cases hv':T v
   ·exact hsep u v ht hv' hu hv huv
   ·rw [(hsame v hv').1] at hv
    rw [(hsame v hv').2.2]
    exact fun b o h1 h2=>hap v hv' hv u ht hu b o h2 h1
  ·rw [(hsame u ht).1] at hu
   rw [(hsame u ht).2.2]
   by_cases hv':T v
   ·exact hap u ht hu v hv' hv
   ·rw [(hsame v hv').1] at hv
    rw [(hsame v hv').2.2]
    exact hR.sep u v hu hv huv
 ·by_cases ht:T u
  ·exact hi3 u ht hu
  ·rw [(hsame u ht).1] at hu
   rw [(hsame u ht).2.2]
   intro b o hf hi
   rcases hi2 b o hi with hi | hi | hi
   ·exact hR.jr u hu b o hf hi
   ·exact hZ u ht hu b o hf hi
   ·have:=mF (tL hR hu hf); omega
 ·by_cases ht:T u
  ·refine ⟨fun hp=>.inr (hpar u ht hp hu),fun b o hf ha=>?_⟩
   rcases hF u ht hu b o hf with hz | hz
   ·exact hZA b o hz ha
   ·have:=mF (hR.x.awf b o ha); omega
  ·rw [(hsame u ht).1] at hu
   rw [(hsame u ht).2.1,(hsame u ht).2.2]
   exact ⟨fun _=>.inl ⟨hu,rfl⟩,hR.x.wT u hu⟩
 ·rcases hi2 b o hi with hi | hi | hi
  ·exact .inl hi
  ·exact .inr fun ha=>hZA b o hi ha
  ·exact .inr fun ha=>by have:=mF (hR.x.awf b o ha); omega
theorem R.agV (hR:R n σ g I a w) (k:Key) (e:KE) (h:Value) (F:aB) (h1:(σ.k k).bK<e.bK) (h2:(σ.k k).cv<e.cv) (hk:Keeps (fun _ _=>True) w w')
  (hkp : ¬ fU n.np k) (hF : ∀ b o,F b o->w.heap.size<=b) (hch:KD (σ.bq k e).k (g.set k h F) w' I k e.ch):R n (σ.bq k e) (g.set k h F) I a w':=by
 refine (hR.touch (σ':=σ.bq k e) (g':=g.set k h F) (I':=I) (w':=w') (fun u=>u=k) (fun _ _=>False) rfl rfl (fun u hu=>⟨aP _ _ hu,Gh.xO _ _ _ hu,Gh.uF _ _ _ hu⟩) (fun u hu=>?_) (fun u hu hp=>?_) (fun u hu _ b o hf=>?_) (fun u v hu hv _ _ hne=>?_)
  (fun _ _ _ _ _ _ h=>h) (fun _ _ h _=>h) (fun _ _ h _=>h) (hk.weaken fun _ _ _=>trivial) (fun _ _ h=>h) (fun _ _ h=>.inl h) (fun u hu _ b o hf hi=>?_) (fun b o hi=>?_) (fun _ u hu=>?_)).1
 ·subst hu; rw [aQ]; exact ⟨h2,Nat.le_of_lt h1,fun h=>by omega⟩
 ·subst hu; exact absurd hp hkp
 ·subst hu; rw [Gh.jw] at hf; exact .inr (hF b o hf)
 ·exact absurd (hu.trans hv.symm) hne
 ·subst hu; rw [Gh.jw] at hf
  have:=mF (hR.zM b o hi); have:=hF b o hf; omega
 ·obtain ⟨v,hv⟩:=hR.zM b o hi
  exact ⟨v,(hk.rU ⟨v,hv⟩).trans hv⟩
 ·subst hu; rw [aQ]; exact hch
theorem R.world (hR:R n σ g I a w) (hk:Keeps (fun _ _=>True) w w'):R n σ g I a w':=by
 have ev:fQ σ.k g w I σ.k g w' I:=⟨fun _=>Nat.le_refl _,fun _=>Nat.le_refl _,fun u _ hl b o hf=>⟨.inl ⟨hl,hf⟩,hk.rU (tL hR hl hf)⟩,fun _ _=>⟨rfl,rfl⟩,
  fun b o h=>⟨h,hk.rU (hR.zM b o h)⟩,fun b o h=>⟨h,hk.rU (hR.x.awf b o (hR.x.da b o h))⟩⟩
 refine ⟨hR.size,hR.nd,fun t=>ev.ent (hR.slots t),fun u=>KD.keep ev hk (fun _ _ _ _=>trivial) rfl rfl (hR.uY u),hR.sep,hR.jr,fun b o hi=>?_,hR.x.step (hk.weaken fun _ _ _=>trivial) rfl (fun k h=>⟨fun _=>.inl ⟨h,rfl⟩,hR.x.wT k h⟩) (fun _ _ h=>.inl h)⟩
 obtain ⟨v,hv⟩:=hR.zM b o hi
 exact ⟨v,(hk.rU ⟨v,hv⟩).trans hv⟩
theorem tN (w:World) (m:Nat):Keeps (fun _ _=>True) w { w with drawn:=m }:=⟨Nat.le_refl _,fun b x h=>⟨x,h,.refl _ _ _⟩,rfl,rfl,rfl⟩
def World.pushed (w:World) (o:Obj):World:={ w with heap:=w.heap.push o }
theorem qh (w:World) (o:Obj):Keeps (fun _ _=>True) w (World.pushed w o) :=
 ⟨by simp [World.pushed],fun b x h=>⟨x,by
  have hlt:=(Array.getElem?_eq_some_iff.1 h).1
  simp only [World.pushed,Array.getElem?_push_lt hlt]
  rw [<-h,Array.getElem?_eq_getElem hlt],.refl _ _ _⟩,rfl,rfl,rfl⟩
theorem uG (w:World) (c:Array Value) (el:TypeId) (fz:Nat×Nat):Block (World.pushed w (.cells c el fz)) w.heap.size c el fz:=by
 unfold Block World.pushed
 simp only [Array.getElem?_push_size]
theorem sP {P:Program} {el:TypeId} {c:Array Value} : (newRow el c).run P w = .ok ⟨w.heap.size,0,none⟩ (World.pushed w (.cells c el)):=by
 simp only [newRow,newObj]
 rfl
end
end Go.E

namespace Go.E
open Go
section
variable {n:Fr} {σ:S} {g:Gh} {I:aB} {a:Act} {w w':World}
theorem R.freeze (hR:R n σ g I a w) {key:Key} {es:List LT} {ms:List M} {rows:List (List T)} (hc:(σ.k key).ch = .row es ms rows) :
  R n (σ.bq key { σ.k key with ch:=.fz es rows }) g (fun b o=>I b o\/g.F key b o) a w /\
  fQ σ.k g w I (σ.bq key { σ.k key with ch:=.fz es rows }).k g w (fun b o=>I b o\/g.F key b o):=by
 have ev:fQ σ.k g w I (σ.bq key { σ.k key with ch:=.fz es rows }).k g w (fun b o=>I b o\/g.F key b o):=by
  refine ⟨fun u=>?_,fun u=>?_,fun u hcv hl b o hf=>?_,fun u hid=>?_,fun b o h=>⟨.inl h,rfl⟩,fun b o h=>⟨h,rfl⟩⟩
  ·by_cases hu:u=key
   ·subst hu; rw [aQ]; exact Nat.le_refl _
   ·rw [aP _ _ hu]; exact Nat.le_refl _
  ·by_cases hu:u=key
   ·subst hu; rw [aQ]; exact Nat.le_refl _
   ·rw [aP _ _ hu]; exact Nat.le_refl _
  ·by_cases hu:u=key
   ·subst hu; exact ⟨.inr (.inr hf),rfl⟩
   ·rw [aP _ _ hu]; exact ⟨.inl ⟨hl,hf⟩,rfl⟩
  ·by_cases hu:u=key
   ·subst hu; rw [aQ,hc]; exact ⟨rfl,rfl⟩
   ·rw [aP _ _ hu]; exact ⟨rfl,rfl⟩
 refine ⟨⟨hR.size,hR.nd,fun t=>ev.ent (hR.slots t),fun u=>?_,fun u v hu hv huv=>?_,fun u hu=>?_,fun b o hi=>?_,hR.x.step (Keeps.refl _ _) rfl (fun u hu=>?_) (fun b o hb=>?_)⟩,ev⟩
 ·by_cases XJ:u=key
  ·subst XJ
   rw [aQ]
   have:=hR.uY u
   rw [hc] at this
   exact aV.leaf this (fun _ _ h=>.inl h) (fun _ _ h=>.inr h)
  ·rw [aP _ _ XJ]
   exact KD.keep ev (Keeps.refl (fun _ _=>True) w) (fun _ _ _ _=>trivial) rfl rfl (hR.uY u)
 ·have hu':u≠key:=by rintro rfl; rw [aQ] at hu; exact hu
  have hv':v≠key:=by rintro rfl; rw [aQ] at hv; exact hv
  rw [aP _ _ hu'] at hu
  rw [aP _ _ hv'] at hv
  exact hR.sep u v hu hv huv
 ·have hu':u≠key:=by rintro rfl; rw [aQ] at hu; exact hu
  rw [aP _ _ hu'] at hu
  intro b o hf hi
  rcases hi with hi | hi
  ·exact hR.jr u hu b o hf hi
  ·exact hR.sep u key hu (by rw [hc]; trivial) hu' b o hf hi
 ·rcases hi with hi | hi
  ·exact hR.zM b o hi
  ·exact tL hR (by rw [hc]; trivial) hi
 ·have hu':u≠key:=by rintro rfl; rw [aQ] at hu; exact hu
  rw [aP _ _ hu'] at hu
  exact ⟨fun _=>.inl ⟨hu,rfl⟩,hR.x.wT u hu⟩
 ·exact hb.imp id fun hf ha=>hR.x.wT key (by rw [hc]; trivial) b o hf ha
variable {cf:FuncId->List Arg->R3 gD} {Q:S->Tr->Prop}
theorem amD {m:M} {ms:List M} (h : ∀ x,m ≠ .O x) (h':noO ms):noO (m::ms):=by
 intro y hy x
 rcases List.mem_cons.1 hy with rfl | hy
 ·exact h x
 ·exact h' y hy x
structure ER (n:Fr) (σ:S) (g:Gh) (I:aB) (Z:aB):Prop where
 live : ∀ u,Live (σ.k u).ch->aB.apart (g.F u) Z
 jr:aB.apart Z I
 wT:aB.apart Z n.A
theorem ER.none:ER n σ g I (fun _ _=>False):=⟨fun _ _ _ _ _ h=>h,fun _ _ h _=>h,fun _ _ h _=>h⟩
theorem ER.sub {Z Z':aB} (h:ER n σ g I Z) (hs : ∀ b o,Z' b o->Z b o):ER n σ g I Z' :=
 ⟨fun u hu b o h1 h2=>h.live u hu b o h1 (hs b o h2),fun b o h1 h2=>h.jr b o (hs b o h1) h2,fun b o h1 h2=>h.wT b o (hs b o h1) h2⟩
theorem ER.frz {Z:aB} (h:ER n σ g I Z) {key:Key} {es:List LT} {ms:List M} {rows:List (List T)} (hc:(σ.k key).ch = .row es ms rows):ER n (σ.bq key { σ.k key with ch:=.fz es rows }) g (fun b o=>I b o\/g.F key b o) Z:=by
 refine ⟨fun u hu=>?_,fun b o h1 h2=>?_,h.wT⟩
 ·by_cases XJ:u=key
  ·subst XJ; rw [aQ] at hu; exact hu.elim
  ·rw [aP _ _ XJ] at hu; exact h.live u hu
 ·rcases h2 with h2 | h2
  ·exact h.jr b o h1 h2
  ·exact h.live key (by rw [hc]; trivial) b o h2 h1
theorem R.gone (hR:R n σ g I a w) (k:Key):R n (σ.bq k ⟨.gone,(σ.k k).bK+1,(σ.k k).cv+1⟩) g I a w /\
  fQ σ.k g w I (σ.bq k ⟨.gone,(σ.k k).bK+1,(σ.k k).cv+1⟩).k g w I:=by
 have nl : ¬ Live ((σ.bq k ⟨.gone,(σ.k k).bK+1,(σ.k k).cv+1⟩).k k).ch:=by rw [aQ]; exact id
 refine hR.touch (σ':=σ.bq k ⟨.gone,(σ.k k).bK+1,(σ.k k).cv+1⟩) (g':=g) (I':=I) (w':=w) (fun u=>u=k) (fun _ _=>False) rfl rfl (fun u hu=>⟨aP _ _ hu,rfl,rfl⟩) (fun u hu=>?_) (fun u hu _ hl=>?_) (fun u hu hl=>?_) (fun u v hu _ hl=>?_)
  (fun _ _ _ _ _ _ h=>h) (fun _ _ h _=>h) (fun _ _ h _=>h) (Keeps.refl _ _) (fun _ _ h=>h) (fun _ _ h=>.inl h) (fun u hu hl=>?_) hR.zM (fun _ u hu=>?_)
 ·subst hu; rw [aQ]; exact ⟨Nat.lt_succ_self _,Nat.le_succ _,fun h=>by have h:(σ.k u).bK+1=(σ.k u).bK:=h; omega⟩
 ·subst hu; exact (nl hl).elim
 ·subst hu; exact (nl hl).elim
 ·subst hu; exact (nl hl).elim
 ·subst hu; exact (nl hl).elim
 ·subst hu; rw [aQ]; trivial
theorem ER.gone (hR:R n σ g I a w) {Z:aB} (h:ER n σ g I Z) {key:Key} (hl:Live (σ.k key).ch):ER n (σ.bq key ⟨.gone,(σ.k key).bK+1,(σ.k key).cv+1⟩) g I (fun b o=>Z b o\/g.F key b o):=by
 refine ⟨fun u hu=>?_,fun b o h1 h2=>?_,fun b o h1 h2=>?_⟩
 ·by_cases XJ:u=key
  ·subst XJ; rw [aQ] at hu; exact hu.elim
  ·rw [aP _ _ XJ] at hu
   exact fun b o h1 h2=>h2.elim (h.live u hu b o h1) (hR.sep u key hu hl XJ b o h1)
 ·exact h1.elim (fun h1=>h.jr b o h1 h2) fun h1=>hR.jr key hl b o h1 h2
 ·exact h1.elim (fun h1=>h.wT b o h1 h2) fun h1=>hR.x.wT key hl b o h1 h2
theorem J9 : ∀ {es:List LT} {ms:List M} {ls:List Leaf} {vs:List Value} {σ:S} {I Z:aB} {k:List T->Prog} {tr:Tr},R n σ g I a w->ER n σ g I Z->bT σ.k g w I ls vs ->
  (xH es ms ls k).wp cf σ tr Q->∃ σ' I' dw ds bs,R n σ' g I' a w/\fQ σ.k g w I σ'.k g w I'/\av w I' es ms vs ds bs/\eZ w bs/\ER n σ' g I' (fun b o=>Z b o\/FB w bs b o)/\aB.apart Z (FB w bs)/\σ'.s=σ.s /\
   (k ds).wp cf σ' dw Q
 | [],ms,[],[],σ,I,Z,k,tr,hR,hZ,hl,h=>⟨σ,I,tr,[],[],hR,fQ.refl,by unfold av; exact ⟨rfl,rfl,rfl⟩,by unfold eZ; trivial,hZ.sub (fun b o h=>h.elim id fun h=>(nomatch h.1)),(fun b o _ h=>(nomatch h.1)),rfl,h⟩
 | [],_,[],_::_,σ,I,Z,k,tr,hR,hZ,hl,h=>hl.elim
 | [],_,_::_,vs,σ,I,Z,k,tr,hR,hZ,hl,h=>h.elim
 | _::_,_,[],vs,σ,I,Z,k,tr,hR,hZ,hl,h=>h.elim
 | e::es,_,l::ls,[],σ,I,Z,k,tr,hR,hZ,hl,h=>hl.elim
 | e::es,ms,l::ls,v::vs,σ,I,Z,k,tr,hR,hZ,hl,h=>by
  obtain ⟨st,lt,d⟩:=l
  have step : ∀ (d:T) (b1:List Nat) (σ₁:S) (I₁:aB) (aj8:Tr),R n σ₁ g I₁ a w->fQ σ.k g w I σ₁.k g w I₁->σ₁.s=σ.s->bQ w I₁ e (ms.headD .F) v d b1->eZ w b1->ER n σ₁ g I₁ (fun b o=>Z b o\/FB w b1 b o)->aB.apart Z (FB w b1) ->
    (xH es ms.tail ls fun ds=>k (d::ds)).wp cf σ₁ aj8 Q ->
    ∃ σ' I' dw ds bs,R n σ' g I' a w/\fQ σ.k g w I σ'.k g w I'/\av w I' (e::es) ms (v::vs) ds bs/\eZ w bs/\ER n σ' g I' (fun b o=>Z b o\/FB w bs b o)/\aB.apart Z (FB w bs)/\σ'.s=σ.s/\(k ds).wp cf σ' dw Q:=by
   intro d b1 σ₁ I₁ aj8 amE ev hs hc hn hz hza h
   obtain ⟨σ',I',dw,ds,b2,h1,h2,h3,h4,h5,h6,h7,h8⟩:=J9 amE hz (ev.lfs hl.2) h
   refine ⟨σ',I',dw,d::ds,b1++b2,h1,ev.trans h2,?_,kH.2 ⟨hn,h4,wV.1 fun b o h9 h10=>h6 b o (.inr h9) h10⟩,h5.sub fun b o h9=>?_,fun b o h9 h10=>?_,h7.trans hs,h8⟩
   ·unfold av
    exact ⟨v,vs,d,ds,b1,b2,rfl,rfl,rfl,bQ.same (fun b o hb=>(h2.jr b o hb).1) hc,h3⟩
   ·rw [mU] at h9
    rcases h9 with h9 | h9 | h9
    ·exact .inl (.inl h9)
    ·exact .inl (.inr h9)
    ·exact .inr h9
   ·rcases mU.1 h10 with h10 | h10
    ·exact hza b o h9 h10
    ·exact h6 b o (.inl h9) h10
  have hzn : ∀ {σ₁:S} {I₁:aB},ER n σ₁ g I₁ Z->ER n σ₁ g I₁ (fun b o=>Z b o\/FB w [] b o):=fun hz=>hz.sub fun b o h=>h.elim id fun h=>(nomatch h.1)
  have agW:aB.apart Z (FB w []):=fun b o _ h=>(nomatch h.1)
  obtain ⟨hs,hl1⟩:=hl.1
  unfold xH at h
  simp only at h hl1
  split at h
  ·rename_i s s' _ _ _
   split at h
   ·rename_i hss
    subst hss
    obtain ⟨s',e1,hv⟩:=hl1
    cases e1
    exact step d [] σ I tr hR fQ.refl rfl (by unfold bQ; exact ⟨hv,rfl⟩) trivial (hzn hZ) agW h
   ·exact h.elim
  ·obtain ⟨-,rfl,-⟩:=hl1
   rename_i es'
   have hnil:aL w I (.sl es') (.slice none 0 0) (.l []):=by unfold aL; exact ⟨none,0,[],rfl,rfl,Nat.le_refl _,Nat.zero_le _,.inl rfl⟩
   obtain ⟨hne,h⟩:=h
   refine step (.l []) [] σ I tr hR fQ.refl rfl ?_ trivial (hzn hZ) agW h
   cases hm:ms.headD .F with
   | F=>unfold bQ; exact ⟨hnil,rfl⟩
   | O x =>
    rw [hm] at hne
    unfold bQ
    exact ⟨[],rfl,by intro e; subst e; simp at hne,Nat.zero_le _,.inl ⟨⟨_,rfl⟩,rfl,rfl⟩⟩
  ·rename_i es'
   cases hm:ms.headD .F with
   | O x=>rw [hm] at h; exact h.elim
   | F =>
    rw [hm] at h
    simp only at h
    cases hb:LT.beq (.sl es') lt with
    | false=>rw [hb] at h; exact h.elim
    | true =>
     rw [hb] at h
     have hlt:=LT.beq_eq hb
     subst hlt
     obtain ⟨-,-,h1⟩:=hl1
     have h2:=h1 (M5 _)
     refine step d [] σ I tr hR fQ.refl rfl ?_ trivial (hzn hZ) agW h
     rw [hm]; unfold bQ
     exact ⟨aL.mono (fun b o hb=>hb.elim id (fun ⟨d,hd,_⟩=>(nomatch hd))) (fun _ _ _=>rfl) _ h2,rfl⟩
  ·rename_i es' key m
   obtain ⟨-,h1,h2⟩:=hl1
   obtain ⟨h3,h⟩:=h
   have hv:=h2 (Nat.eq_of_beq_eq_true h3)
   subst hv
   have hch:=hR.uY key
   split at h
   ·rename_i es'' rows e1
    rw [e1] at hch
    cases hm:ms.headD .F with
    | O x=>rw [hm] at h; exact h.elim
    | F =>
     rw [hm] at h
     simp only at h
     cases hb:LT.dS es' es'' with
     | false=>rw [hb] at h; exact h.elim
     | true =>
      rw [hb] at h
      have:=LT.bJ hb
      subst this
      refine step (.l rows) [] σ I _ hR fQ.refl rfl ?_ trivial (hzn hZ) agW h
      rw [hm]; unfold bQ
      exact ⟨hch,rfl⟩
   ·rename_i es'' akW rows e1
    rw [e1] at hch
    cases hm:ms.headD .F with
    | F =>
     rw [hm] at h
     simp only at h
     cases hb:LT.dS es' es'' with
     | false=>rw [hb] at h; exact h.elim
     | true =>
      rw [hb] at h
      have:=LT.bJ hb
      subst this
      obtain ⟨h4,h5⟩:=hR.freeze e1
      refine step (.l rows) [] _ _ _ h4 h5 rfl ?_ trivial (hzn (hZ.frz e1)) agW h
      rw [hm]; unfold bQ
      exact ⟨aV.leaf hch (fun _ _ h=>.inl h) (fun _ _ h=>.inr h),rfl⟩
    | O ms' =>
     rw [hm] at h
     simp only at h
     cases hb:(LT.dS es' es''&&M.dS ms' akW) with
     | false=>rw [hb] at h; exact h.elim
     | true =>
      rw [hb] at h
      simp only [Bool.and_eq_true] at hb
      have:=LT.bJ hb.1
      subst this
      have:=M.bJ hb.2
      subst this
      obtain ⟨h4,h5⟩:=hR.gone key
      obtain ⟨bs,hn,hc,hF⟩:=hch
      have hlive:Live (σ.k key).ch:=by rw [e1]; trivial
      refine step (.l rows) bs _ _ _ h4 h5 rfl (by rw [hm]; exact hc) hn ((hZ.gone hR hlive).sub fun b o h=>h.imp id fun h=>(hF b o).2 h) (fun b o h9 h10=>hZ.live key hlive b o ((hF b o).2 h10) h9) h
   ·exact h.elim
  ·exact h.elim
end
end Go.E

namespace Go.E
open Go
section
variable {w:World} {I S A:aB}
def dB (w:World) (I:aB) (es:List LT):List (List T)->List Value->Prop
 | [],_=>True
 | r::rs,cs=>aT w I es (cs.take es.length) r/\dB w I es rs (cs.drop es.length)
theorem dB.row {b:Nat} {c:Array Value} {el:TypeId} {fz:Nat×Nat} {es:List LT} (hb:Block w b c el fz) : ∀ (rows:List (List T)) (k:Nat),dB w I es rows (c.toList.drop k)->k+rows.length * es.length<=c.size ->
  ∀ i (hi:i<rows.length),bY w (fun _ _=>True) I es b (k+i * es.length) rows[i]
 | [],_,_,_,i,hi=>by simp at hi
 | r::rs,k,h,hn,i,hi=>by
  have hn':k+es.length+rs.length * es.length<=c.size:=by simp only [List.length_cons,Nat.add_mul] at hn; omega
  cases i with
  | zero =>
   refine bY.aeh (vs:=(c.toList.drop k).take es.length) (by simpa using h.1) (bI.of_block hb _ _ fun j hj=>?_)
   simp only [List.length_take,List.length_drop,Array.length_toList] at hj
   simp only [List.getElem_take,List.getElem_drop,Array.getElem_toList,Nat.zero_mul,Nat.add_zero]
   exact Array.getElem?_eq_getElem (by omega)
  | succ i =>
   have h2:=h.2
   rw [List.drop_drop] at h2
   have:=dB.row hb rs (k+es.length) h2 hn' i (by simpa using hi)
   rw [show k+(i+1) * es.length=k+es.length+i * es.length from by rw [Nat.add_mul]; omega]
   simpa using this
theorem dB.mono {w w':World} {I I':aB} (h : ∀ b o,I b o->I' b o/\cellAt w' b o=cellAt w b o) {es:List LT} : ∀ {rows:List (List T)} {cs:List Value},dB w I es rows cs->dB w' I' es rows cs
 | [],_,_=>trivial
 | _::_,_,hh=>⟨hh.1.mono h,dB.mono h hh.2⟩
theorem dB.toM {es:List LT} {ms:List M} (hm:noO ms) : ∀ {rows:List (List T)} {cs:List Value},dB w I es rows cs->aO (fun vs ds bs=>av w I es ms vs ds bs) es.length rows cs []
 | [],cs,_=>rfl
 | r::rs,cs,h=>⟨[],[],rfl,av.of_flat hm h.1,dB.toM hm h.2⟩
theorem aO.toV {es:List LT} {ms:List M} {S:aB} (hs : ∀ b o,I b o->S b o) : ∀ {rows:List (List T)} {cs:List Value} {bs:List Nat},(∀ b o,FB w bs b o->S b o)->aO (fun vs ds bs=>av w I es ms vs ds bs) es.length rows cs bs->dB w S es rows cs
 | [],cs,bs,_,_=>trivial
 | r::rs,cs,bs,hb,h=>by
  obtain ⟨b1,b2,rfl,h1,h2⟩:=h
  exact ⟨av.leaves hs es (fun b o h=>hb b o (mU.2 (.inl h))) h1,aO.toV hs (fun b o h=>hb b o (mU.2 (.inr h))) h2⟩
theorem dB.app {es:List LT} : ∀ {rows rows':List (List T)} {cs cs':List Value},dB w I es rows cs->cs.length=rows.length * es.length->dB w I es rows' cs'->dB w I es (rows++rows') (cs++cs')
 | [],rows',cs,cs',h,hn,h'=>by
  have:cs=[]:=List.length_eq_zero_iff.1 (by simpa using hn)
  subst this; exact h'
 | r::rs,rows',cs,cs',h,hn,h'=>by
  simp only [List.length_cons,Nat.add_mul,Nat.one_mul] at hn
  have hle:es.length<=cs.length:=by omega
  refine ⟨?_,?_⟩
  ·rw [List.take_append_of_le_length hle]; exact h.1
  ·rw [List.drop_append_of_le_length hle]
   exact dB.app h.2 (by rw [List.length_drop]; omega) h'
theorem dB.tail {es:List LT} : ∀ {rows:List (List T)} {cs cs':List Value},dB w I es rows cs->dB w I es rows (cs++cs')
 | [],cs,cs',h=>trivial
 | r::rs,cs,cs',h=>by
  have hlen:=h.1.len.1
  have hle:es.length<=cs.length:=by rw [List.length_take] at hlen; omega
  refine ⟨?_,?_⟩
  ·rw [List.take_append_of_le_length hle]; exact h.1
  ·rw [List.drop_append_of_le_length hle]; exact dB.tail h.2
end
section
variable {Γ:Ctx} {P:Program} {cf:FuncId->List Arg->R3 gD}
variable {n:Fr} {σ:S} {g:Gh} {I:aB} {a:Act} {w w':World}
variable {o:Oper} {f:FuncId} {tr:Tr} {Q:S->Tr->Prop} {K:Act->World->Prop} {Qm:Exit->Act->World->Prop}
theorem aek {d0:Nat} {c:Array Value} {el:TypeId} {ls:List Leaf} (hdst:o.dst=some d0) (hd:dA n.np n.nt o=true) (hR:R n σ g I a w) (hK:Post P n I w Q K)
  (hrun:(execOp a.eval o).run P w = .ok (.value (.pointer (some ⟨w.heap.size,0,none⟩))) (World.pushed w (.cells c el))) (hl:bT σ.k g w I ls c.toList)
  (h:(agD d0 ls).wp cf σ tr Q):Goal P o a w K Qm:=by
 refine zN hrun ?_
 rw [hdst]
 obtain ⟨hdn,hkp⟩:=Io hd hdst
 let F:aB:=fun b o'=>b=w.heap.size/\o'<c.size
 have hk:=qh w (.cells c el)
 have ev:=aje hR [d0+2000000] ⟨.box ls,(σ.k [d0+2000000]).bK+1,(σ.k [d0+2000000]).cv+1⟩ (.pointer (some ⟨w.heap.size,0,none⟩)) F (by simp) (by simp) hk
 have hlen:=hl.len
 have agX:mQ (σ.bq [d0+2000000] ⟨.box ls,(σ.k [d0+2000000]).bK+1,(σ.k [d0+2000000]).cv+1⟩).k (g.set [d0+2000000] (.pointer (some ⟨w.heap.size,0,none⟩)) F) (World.pushed w (.cells c el)) I ls (.pointer (some ⟨w.heap.size,0,none⟩)) F:=by
  refine ⟨w.heap.size,0,c,el,(0,0),rfl,uG w c el (0,0),by simp at hlen; omega,fun j hj=>by omega,fun b' o'=>?_,?_⟩
  ·simp only [F,Nat.zero_le,true_and,Nat.zero_add]
   simp at hlen
   rw [hlen]
  ·rw [List.drop_zero,<-hlen,List.take_length]
   exact ev.lfs hl
 have hR':=hR.agV [d0+2000000] ⟨.box ls,(σ.k [d0+2000000]).bK+1,(σ.k [d0+2000000]).cv+1⟩ (.pointer (some ⟨w.heap.size,0,none⟩)) F (by simp) (by simp) hk (hkp n.big _) (fun b o' hf=>by rw [hf.1]; exact Nat.le_refl _)
  (by simp only [KD,Gh.nT,Gh.jw]; exact agX)
 refine hK _ _ _ I _ _ h (hR'.put hdn (e:=.ptr [d0+2000000] ((σ.k [d0+2000000]).bK+1) 0 0) ⟨⟨fun _ h=>(nomatch h),fun _ h=>(nomatch h)⟩,?_,fun _=>⟨w.heap.size,0,rfl,?_⟩⟩) (fun _ _ h=>h) (hk.weaken fun _ _ _=>trivial)
 ·rw [aQ]; exact Nat.le_refl _
 ·rw [Gh.nT]; rfl
theorem M9 {d0:Nat} {c:Array Value} {el:TypeId} {fz:Nat×Nat} {es:List LT} {ms:List M} {rows:List (List T)} {b cap:Nat} {bs:List Nat} {p:Prog} {Q:S->Tr->Prop} (hdst:o.dst=some d0) (hd:dA n.np n.nt o=true) (hR:R n σ g I a w) (hK:Post P n I w Q K)
  (hk:Keeps (fun _ _=>True) w w') (hb:w.heap.size<=b) (hblk:Block w' b c el fz) (hfz : ∀ o',o'<=c.size->¬ (fz.1<=o'/\o'<fz.2))
  (hrun:(execOp a.eval o).run P w = .ok (.value (.slice (some ⟨b,0,none⟩) rows.length cap)) w') (hes:es≠[]) (h1:rows.length<=aW) (h2:rows.length<=cap)
  (h4:c.size=cap * es.length) (hn:eZ w bs) (hz:ER n σ g I (FB w bs)) (hrows:aO (fun vs ds bs=>av w I es ms vs ds bs) es.length rows c.toList bs) (h:(MI d0 es ms rows).wp cf σ tr Q):Goal P o a w K Qm:=by
 refine zN hrun ?_
 rw [hdst]
 obtain ⟨hdn,hkp⟩:=Io hd hdst
 have hbs : ∀ x∈bs,∃ c el fz,Block w x c el fz:=oH (I:=I) (fun vs ds bs h=>av.blocks es h) _ hrows
 have hlt : ∀ x∈bs,x<w.heap.size:=fun x hx=>by
  obtain ⟨c,el,fz,h⟩:=hbs x hx
  exact (Array.getElem?_eq_some_iff.1 h).1
 let F:aB:=fun b' o'=>(b'=b/\o'<c.size)\/FB w bs b' o'
 let e:KE:=⟨.row es ms rows,(σ.k [d0+2000000]).bK+1,(σ.k [d0+2000000]).cv+1⟩
 have hiI : ∀ b o,I b o->I b o/\cellAt w' b o=cellAt w b o:=fun b o hi=>⟨hi,hk.rU (hR.zM b o hi)⟩
 have hrow:aV w' I es ms rows (.slice (some ⟨b,0,none⟩) rows.length cap) F:=by
  refine aV.mk' hes h1 h2 hblk h4 hfz (aO.imp (fun vs ds b' _ h=>av.keep hk hiI es (fun _ _ _=>trivial) h) hrows) ⟨fun hm=>?_,qL hk hbs hn⟩ (fun b' o'=>?_)
  ·have:=hlt b hm; omega
  ·rw [Ip hk hbs]
 obtain ⟨hR',-⟩:=hR.touch (σ':=σ.bq [d0+2000000] e) (g':=g.set [d0+2000000] (.slice (some ⟨b,0,none⟩) rows.length cap) F) (I':=I) (w':=w') (fun u=>u=[d0+2000000]) (FB w bs) rfl rfl
  (fun u hu=>⟨aP _ _ hu,Gh.xO _ _ _ hu,Gh.uF _ _ _ hu⟩) (fun u hu=>by subst hu; rw [aQ]; exact ⟨Nat.lt_succ_self _,Nat.le_succ _,fun h=>by have h:(σ.k [d0+2000000]).bK+1=(σ.k [d0+2000000]).bK:=h; omega⟩)
  (fun u hu hp=>by subst hu; exact absurd hp (hkp n.big _)) (fun u hu _ b' o' hf=>by subst hu; rw [Gh.jw] at hf; exact hf.elim (fun h=>.inr (by rw [h.1]; exact hb)) .inl)
  (fun u v hu hv _ _ hne=>absurd (hu.trans hv.symm) hne) (fun u _ hl=>hz.live u hl) hz.jr hz.wT (hk.weaken fun _ _ _=>trivial) (fun _ _ h=>h) (fun _ _ h=>.inl h)
  (fun u hu _ b' o' hf hi=>by
   subst hu; rw [Gh.jw] at hf
   rcases hf with hf | hf
   ·have:=mF (hR.zM b' o' hi); rw [hf.1] at this; omega
   ·exact hz.jr b' o' hf hi)
  (fun b' o' hi=>by obtain ⟨v,hv⟩:=hR.zM b' o' hi; exact ⟨v,(hk.rU ⟨v,hv⟩).trans hv⟩)
  (fun _ u hu=>by subst hu; rw [aQ]; simp only [e,KD,Gh.nT,Gh.jw]; exact hrow)
 refine hK _ _ _ I _ _ h (hR'.put hdn (e:=.one ⟨.al [d0+2000000] ((σ.k [d0+2000000]).bK+1),.sl es,.l []⟩) ⟨⟨fun _ h=>(nomatch h),fun _ h=>(nomatch h)⟩,trivial,?_,fun _=>?_⟩) (fun _ _ h=>h) (hk.weaken fun _ _ _=>trivial)
 ·rw [aQ]; exact Nat.le_refl _
 ·rw [Gh.nT]
theorem aod {d0:Nat} {c:Array Value} {el:TypeId} {fz:Nat×Nat} {es:List LT} {ms:List M} {rows:List (List T)} {b cap:Nat} (hdst:o.dst=some d0) (hd:dA n.np n.nt o=true) (hR:R n σ g I a w) (hK:Post P n I w Q K)
  (hk:Keeps (fun _ _=>True) w w') (hb:w.heap.size<=b) (hblk:Block w' b c el fz) (hfz : ∀ o',o'<=c.size->¬ (fz.1<=o'/\o'<fz.2))
  (hrun:(execOp a.eval o).run P w = .ok (.value (.slice (some ⟨b,0,none⟩) rows.length cap)) w') (hes:es≠[]) (h1:rows.length<=aW) (h2:rows.length<=cap) (h3:True)
  (h4:c.size=cap * es.length) (hm:noO ms) (hrows:dB w I es rows c.toList) (h:(MI d0 es ms rows).wp cf σ tr Q):Goal P o a w K Qm :=
 M9 (cf:=cf) (p:=.ret) hdst hd hR hK hk hb hblk hfz hrun hes h1 h2 h4 (bs:=[]) trivial (ER.none.sub fun b o h=>(nomatch h.1)) (hrows.toM hm) h
theorem Ir {κ:Key->KE} : ∀ {aR:List LT} {vs:List Value},EW aR vs->bT κ g w I (aR.map MH) vs
 | [],[],_=>trivial
 | lt::aR,v::vs,h=>by
  refine ⟨?_,Ir h.2⟩
  have h1:=h.1
  cases lt with
  | sl es=>cases h1; exact ⟨⟨fun _ h=>(nomatch h),fun _ h=>(nomatch h)⟩,trivial,rfl,rfl⟩
  | sc s =>
   cases s with
   | int k=>cases h1; exact ⟨⟨fun _ h=>(nomatch h),fun _ h=>(nomatch h)⟩,.int k,rfl,0,rfl,rfl,M0 k⟩
   | bool=>cases h1; exact ⟨⟨fun _ h=>(nomatch h),fun _ h=>(nomatch h)⟩,.bool,rfl,false,rfl,rfl⟩
   | str=>cases h1; exact ⟨⟨fun _ h=>(nomatch h),fun _ h=>(nomatch h)⟩,.str,rfl,.empty,rfl,rfl,by decide⟩
   | any=>exact ⟨h1,trivial⟩
 | [],_::_,h=>h.elim
 | _::_,[],h=>h.elim
theorem Iu : ∀ {aR:List LT} {vs:List Value},EW aR vs->aR.all (fun l=>match l with | .sc .any=>false | _=>true)=true->aT w I aR vs (aR.map GL)
 | [],[],_,_=>trivial
 | lt::aR,v::vs,h,ha=>by
  simp only [List.all_cons,Bool.and_eq_true] at ha
  refine ⟨?_,Iu h.2 ha.2⟩
  have h1:=h.1
  unfold aL
  cases lt with
  | sl es=>cases h1; exact ⟨none,0,[],rfl,rfl,Nat.le_refl _,Nat.zero_le _,.inl rfl⟩
  | sc s =>
   cases s with
   | int k=>cases h1; exact ⟨0,rfl,rfl,M0 k⟩
   | bool=>cases h1; exact ⟨false,rfl,rfl⟩
   | str=>cases h1; exact ⟨.empty,rfl,rfl,by decide⟩
   | any=>simp at ha
 | [],_::_,h,_=>h.elim
 | _::_,[],h,_=>h.elim
theorem rV {t:TypeId} {ti:TI} (h:vD Γ P t ti) : ∃ z,(zeroValue t).run P w = .ok z w/\EW ti.aR z.cells.toList:=by
 obtain ⟨i,h1,-,-,-,-,z,hz,h2⟩:=h.info
 exact ⟨z,by simp [zeroValue,typeInfo,h1,hz,go_sem],h2⟩
theorem Na {κ:Key->KE} {e:eU} {v:Value} {ls:List Leaf} (he:jC κ g w I e v) (h:DZ e=some ls):bT κ g w I ls v.cells.toList:=by
 cases e with
 | one l =>
  cases h
  have h1:H6 κ g w I l v:=he
  rw [h1.1.cells]
  exact ⟨h1,trivial⟩
 | agg ls' =>
  cases h
  obtain ⟨cs,rfl,h1⟩:=he
  exact h1
 | _=>cases h
end
end Go.E

