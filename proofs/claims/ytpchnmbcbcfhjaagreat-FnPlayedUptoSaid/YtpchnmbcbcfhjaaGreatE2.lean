/- A part of the proof: texts EOps11, EOps12, EOps13, EOps14, EOps15, EOps16, EOpen, EStore, ECast, EOps17, EOps18, EOps19, EOps20, ECall1, ECall2, ECall3: see the last part's opening words. -/
import Derived.Test.YtpchnmbcbcfhjaaGreatE1
import Derived.Room.AppendAny
set_option linter.unusedVariables false
set_option linter.unusedSimpArgs false
set_option linter.unnecessarySimpa false
namespace Go.E
open Go
theorem X5 (off:Nat) : ∀ (vs:List Value) (k:Nat) (cs:Array Value),off+k+vs.length<=cs.size ->
  ((vs.zipIdx k).foldl (fun cs (x:Value×Nat)=>cs.setIfInBounds (off+x.2) x.1) cs).toList=cs.toList.take (off+k)++vs++cs.toList.drop (off+k+vs.length)
 | [],k,cs,h=>by simp
 | v::vs,k,cs,h=>by
  simp only [List.length_cons] at h
  rw [List.zipIdx_cons,List.foldl_cons,X5 off vs (k+1) _ (by simp; omega)]
  have hlt:off+k<cs.toList.length:=by rw [Array.length_toList]; omega
  simp only [Array.toList_setIfInBounds,List.length_cons]
  rw [show off+(k+1)=off+k+1 from by omega]
  rw [List.take_add_one,List.take_set_of_le (by omega),List.getElem?_set_self hlt,List.drop_set_of_lt (by omega),show off+k+(vs.length+1)=off+k+1+vs.length from by omega]
  simp
theorem Uk {place:Nat->Option (Nat×Nat)} {cells:Array Value} {i off:Nat} {v:Value} {rest:List (Nat×Value)} (hp:place i=some (off,v.cells.size)) (h:off+v.cells.size<=cells.size) :
  Instr.fill place cells ((i,v)::rest)=Instr.fill place (cells.toList.take off++v.cells.toList++cells.toList.drop (off+v.cells.size)).toArray rest:=by
 have h1 : ¬ ((v.cells.size≠v.cells.size||decide (off+v.cells.size > cells.size))=true):=by simp; omega
 simp only [Instr.fill,hp]
 rw [if_neg (by simpa using h1)]
 congr 1
 apply Array.toList_inj.1
 rw [<-Array.foldl_toList,Array.toList_zipIdx]
 have:=X5 off v.cells.toList 0 cells (by simpa using h)
 simpa using this
section
variable {Γ:Ctx} {P:Program} {cf:FuncId->List Arg->R3 fV}
variable {n:Fr} {σ:S} {g:Gh} {I:aB} {a:Act} {w w':World}
variable {o:Oper} {f:FuncId} {tr:Tr} {Q:S->Tr->Prop} {K:Act->World->Prop} {Qm:Exit->Act->World->Prop}
theorem cu.app {κ:Key->KE} : ∀ {ls ls':List Leaf} {vs vs':List Value},cu κ g w I ls vs->cu κ g w I ls' vs'->cu κ g w I (ls++ls') (vs++vs')
 | [],ls',[],vs',_,h=>h
 | _::_,ls',_::_,vs',h,h'=>⟨h.1,cu.app h.2 h'⟩
 | [],_,_::_,_,h,_=>h.elim
 | _::_,_,[],_,h,_=>h.elim
def aaO (κ:Key->KE) (g:Gh) (w:World) (I:aB):List (Nat×List Leaf)->List (Nat×Value)->Prop
 | [],[]=>True
 | p::ps,q::qs=>p.1=q.1/\cu κ g w I p.2 q.2.cells.toList/\aaO κ g w I ps qs
 | _,_=>False
theorem BP (hR:R n σ g I a w) : ∀ {ps:List (Nat×Operand)} {k:List (Nat×List Leaf)->Prog} {tr:Tr},(Dt ps k).wp cf σ tr Q ->
  ∃ r dI,aaO σ.k g w I r (ps.map fun p=>(p.1,a.eval p.2))/\(k r).wp cf σ dI Q
 | [],k,tr,h=>⟨[],tr,trivial,h⟩
 | (i,x)::ps,k,tr,h=>by
  obtain ⟨e,t1,he,h⟩:=jQ hR h
  obtain ⟨ls,hls,h⟩:=dX h
  obtain ⟨r,t2,hr,h⟩:=BP hR (ps:=ps) h
  exact ⟨(i,ls)::r,t2,⟨rfl,JH he hls,hr⟩,h⟩
theorem BQ (hΓ:fE Γ P) {κ:Key->KE} {fs:List (Nat×TypeId)} {places:Nat->Option (Nat×Nat)}
  (hfs : ∀ (i off:Nat) (ft:TypeId),fs[i]? = some (off,ft)->∀ tf,Γ.ty ft=some tf->places i=some (off,tf.aR.length)) :
  ∀ (r:List (Nat×List Leaf)) (vs:List (Nat×Value)) (acc out:List Leaf) (cells:Array Value),aaO κ g w I r vs->cu κ g w I acc cells.toList->zm Γ fs r acc=some out ->
   ∃ cells',Instr.fill places cells vs=some cells'/\cu κ g w I out cells'.toList
 | [],[],acc,out,cells,_,hl,h=>by cases h; exact ⟨cells,rfl,hl⟩
 | [],_::_,_,_,_,h,_,_=>h.elim
 | _::_,[],_,_,_,h,_,_=>h.elim
 | (i,ls)::r,(i',v)::vs,acc,out,cells,hp,hl,h=>by
  obtain ⟨rfl,hv,hp⟩:=hp
  unfold zm at h
  split at h
  ·rename_i off ft hf
   split at h
   ·rename_i tf htf
    cases hb:(Nat.beq ls.length tf.aR.length&&Nat.ble (off+ls.length) acc.length) with
    | false=>rw [hb] at h; cases h
    | true =>
     rw [hb] at h
     simp only [Bool.and_eq_true] at hb
     have h1:ls.length=tf.aR.length:=Nat.eq_of_beq_eq_true hb.1
     have h2:off+ls.length<=acc.length:=Nat.le_of_ble_eq_true hb.2
     have hlen:=hl.len
     have hvl:=hv.len
     simp only [Array.length_toList] at hlen hvl
     have hpl:=hfs i off ft hf tf htf
     rw [Uk (off:=off) (by rw [hpl,hvl,h1]) (by omega)]
     refine BQ hΓ hfs r vs _ out _ hp ?_ h
     rw [List.toList_toArray]
     rw [hvl]
     exact ((hl.take off).app hv).app (hl.drop _)
   ·cases h
  ·cases h
theorem run_places : ∀ (l:List Field),(∀ f∈l,∃ i,P.info? f.type=some i) ->
  (l.mapM fun f=>do pure (f.offset,<-sizeOf f.type):Sem (List (Nat×Nat))).run P w = .ok (l.map fun f=>(f.offset,P.cellsOf f.type)) w
 | [],_=>by simp
 | f::l,h=>by
  obtain ⟨i,hi⟩:=h f (by simp)
  have h1:(sizeOf f.type).run P w = .ok (P.cellsOf f.type) w:=by simp [sizeOf,typeInfo,hi,Program.cellsOf,go_sem]
  rw [List.mapM_cons]
  simp only [Sem.run_bind,h1,Result.andThen_ok,Sem.run_pure]
  rw [run_places l fun f hf=>h f (by simp [hf])]
  simp
end
end Go.E

namespace Go.E
open Go
section
variable {w:World} {I:aB}
theorem dR.set {es:List LT} {vs:List Value} {ds:List T} (hv:aW w I es vs ds) : ∀ {rows:List (List T)} {cs:List Value} (i:Nat),dR w I es rows cs->cs.length=rows.length * es.length->i<rows.length ->
  dR w I es (rows.set i ds) (cs.take (i * es.length)++vs++cs.drop (i * es.length+es.length))
 | [],cs,i,_,_,hi=>by simp at hi
 | r::rs,cs,0,h,hn,hi=>by
  have hl:=hv.len.1
  refine ⟨?_,?_⟩
  ·simp only [Nat.zero_mul,List.take_zero,List.nil_append]
   rw [List.take_append_of_le_length (by omega),<-hl,List.take_length]
   exact hv
  ·simp only [Nat.zero_mul,List.take_zero,List.nil_append,Nat.zero_add]
   rw [List.drop_append_of_le_length (by omega),<-hl,List.drop_length,List.nil_append]
   rw [hl]; exact h.2
 | r::rs,cs,i+1,h,hn,hi=>by
  simp only [List.length_cons,Nat.add_mul,Nat.one_mul] at hn
  have hle:es.length<=cs.length:=by omega
  have e1:(i+1) * es.length=i * es.length+es.length:=by rw [Nat.add_mul,Nat.one_mul]
  have ih:=dR.set hv (rows:=rs) (cs:=cs.drop es.length) i h.2 (by rw [List.length_drop]; omega) (by simpa using hi)
  have hi':i+1<=rs.length:=by simp at hi; omega
  have hm:i * es.length+es.length<=rs.length * es.length:=by rw [<-e1]; exact Nat.mul_le_mul_right _ hi'
  refine ⟨?_,?_⟩
  ·rw [List.append_assoc,List.take_append_of_le_length (by rw [List.length_take]; omega),List.take_take,Nat.min_eq_left (by omega)]
   exact h.1
  ·rw [List.append_assoc,List.drop_append_of_le_length (by rw [List.length_take]; omega),<-List.append_assoc,List.drop_take]
   rw [show (i+1) * es.length-es.length=i * es.length from by omega]
   rw [List.drop_drop] at ih
   rw [show (i+1) * es.length+es.length=es.length+(i * es.length+es.length) from by omega]
   exact ih
end
section
variable {Γ:Ctx} {P:Program} {cf:FuncId->List Arg->R3 fV}
variable {n:Fr} {σ:S} {g:Gh} {I:aB} {a:Act} {w w':World}
variable {o:Oper} {f:FuncId} {tr:Tr} {Q:S->Tr->Prop} {K:Act->World->Prop} {Qm:Exit->Act->World->Prop}
theorem Post.mono {I':aB} (h:Post P n I w Q K) (hi : ∀ b o,I b o->I' b o):Post P n I' w Q K :=
 fun σ' dI g' I'' a' w' h1 h2 h3 h4=>h σ' dI g' I'' a' w' h1 h2 (fun b o hb=>h3 b o (hi b o hb)) (h4.weaken fun b o hb=>hb.imp (hi b o) id)
def aaP (w:World) (I:aB) (es:List LT) (ms:List M):List (Nat×List T)->List (Nat×Value)->List Nat->Prop
 | [],[],bs=>bs=[]
 | p::ps,q::qs,bs=>∃ b1 b2,bs=b1++b2/\p.1=q.1/\au w I es ms q.2.cells.toList p.2 b1/\aaP w I es ms ps qs b2
 | _,_,_=>False
theorem Pw {es:List LT} {ms:List M} : ∀ {ps:List (Nat×Operand)} {σ:S} {I Z:aB} {k:List (Nat×List T)->Prog} {tr:Tr},R n σ g I a w->DF n σ g I Z->(partsOf es ms ps k).wp cf σ tr Q ->
  ∃ σ' I' r bs dI,R n σ' g I' a w/\gM σ.k g w I σ'.k g w I'/\aaP w I' es ms r (ps.map fun p=>(p.1,a.eval p.2)) bs/\fP w bs/\DF n σ' g I' (fun b o=>Z b o\/FB w bs b o)/\aB.apart Z (FB w bs)/\(k r).wp cf σ' dI Q
 | [],σ,I,Z,k,tr,hR,hZ,h=>⟨σ,I,[],[],tr,hR,gM.refl,rfl,by unfold fP; trivial,hZ.sub (fun b o h=>h.elim id fun h=>(nomatch h.1)),(fun b o _ h=>(nomatch h.1)),h⟩
 | (i,x)::ps,σ,I,Z,k,tr,hR,hZ,h=>by
  obtain ⟨e,t1,he,h⟩:=jQ hR h
  obtain ⟨ls,hls,h⟩:=dX h
  obtain ⟨σ1,I1,t2,ds,b1,mE,pE,hl,hn1,hz1,ha1,-,h⟩:=Gm hR hZ (JH he hls) h
  obtain ⟨σ2,I2,r,b2,t3,hR2,zA,hr,hn2,hz2,ha2,h⟩:=Pw mE hz1 h
  refine ⟨σ2,I2,(i,ds)::r,b1++b2,t3,hR2,pE.trans zA,⟨b1,b2,rfl,rfl,au.same (fun b o hb=>(zA.jP b o hb).1) hl,hr⟩,kY.2 ⟨hn1,hn2,wY.1 fun b o h1 h2=>ha2 b o (.inr h1) h2⟩,hz2.sub fun b o h1=>?_,fun b o h1 h2=>?_,h⟩
  ·rw [ni] at h1
   rcases h1 with h1 | h1 | h1
   ·exact .inl (.inl h1)
   ·exact .inl (.inr h1)
   ·exact .inr h1
  ·rcases ni.1 h2 with h2 | h2
   ·exact ha1 b o h1 h2
   ·exact ha2 b o (.inl h1) h2
theorem MB {es:List LT} {ms:List M} : ∀ (r:List (Nat×List T)) (vs:List (Nat×Value)) (rows rows':List (List T)) (cells:Array Value) (bs Bs:List Nat),aaP w I es ms r vs Bs->aN (fun vs ds bs=>au w I es ms vs ds bs) es.length rows cells.toList bs ->
  cells.size=rows.length * es.length->Js es.length r rows=some rows' ->
   ∃ cells' bs',Instr.fill (fun i=>some (i * es.length,es.length)) cells vs=some cells'/\aN (fun vs ds bs=>au w I es ms vs ds bs) es.length rows' cells'.toList bs'/\cells'.size=rows'.length * es.length/\rows'.length=rows.length /\
    JC bs' (bs++Bs)
 | [],[],rows,rows',cells,bs,Bs,hB,hl,hn,h=>by
  cases h
  have hB:Bs=[]:=hB
  subst hB
  exact ⟨cells,bs,rfl,hl,hn,rfl,by rw [List.append_nil]; exact JC.refl _⟩
 | [],_::_,_,_,_,_,_,h,_,_,_=>h.elim
 | _::_,[],_,_,_,_,_,h,_,_,_=>h.elim
 | (i,ds)::r,(i',v)::vs,rows,rows',cells,bs,Bs,hp,hl,hn,h=>by
  obtain ⟨bn,B2,rfl,rfl,hv,hp⟩:=hp
  unfold Js at h
  split at h
  ·rename_i hc
   simp only [Bool.and_eq_true,decide_eq_true_eq] at hc
   have hvl:=(au.len es hv).1
   simp only [Array.length_toList] at hvl
   have hlt:(i+1) * es.length<=rows.length * es.length:=Nat.mul_le_mul_right _ hc.1
   rw [Nat.add_mul,Nat.one_mul] at hlt
   rw [Uk (off:=i * es.length) (by rw [hvl]) (by omega)]
   obtain ⟨b1,bo,b2,rfl,h1⟩:=aN.set (p:=fun vs ds bs=>au w I es ms vs ds bs) hv (by simpa using hvl) i hl (by simp; omega) hc.1
   rw [hvl]
   obtain ⟨c',bs',h2,h3,h4,h5,h6⟩:=MB r vs (rows.set i ds) rows' _ _ B2 hp (by rw [List.toList_toArray]; exact h1) (by
    simp only [List.size_toArray,List.length_append,List.length_take,List.length_drop,Array.length_toList,List.length_set]
    omega) h
   refine ⟨c',bs',h2,h3,h4,by rw [h5,List.length_set],h6.trans ?_⟩
   intro b
   simp only [List.count_append]
   omega
  ·cases h
theorem DI : ∀ {es:List LT} {ms:List M} {vs:List Value},Fq es vs->O1 es=true->adQ es ms=true->au w I es ms vs (es.map E8) []
 | [],ms,[],h,hs,hm=>by unfold au; exact ⟨rfl,rfl,rfl⟩
 | e::es,ms,v::vs,h,hs,hm=>by
  have h0:=Mx (w:=w) (I:=I) h hs
  unfold O1 at hs
  simp only [List.all_cons,Bool.and_eq_true] at hs
  unfold adQ at hm
  simp only [Bool.and_eq_true] at hm
  unfold au
  refine ⟨v,vs,E8 e,es.map E8,[],[],rfl,rfl,rfl,?_,DI h.2 hs.2 hm.2⟩
  have h1:=h0.1
  cases e with
  | sc s=>unfold aJ at h1; unfold bU; exact ⟨h1,rfl⟩
  | sl es' =>
   cases hh:ms.headD .F with
   | F=>unfold bU; exact ⟨h1,rfl⟩
   | O x =>
    have h2:=h.1
    have hm1:=hm.1
    rw [hh] at hm1
    unfold zeroV at h2
    subst h2
    unfold bU
    exact ⟨[],rfl,by intro e; subst e; simp at hm1,Nat.zero_le _,.inl ⟨⟨_,rfl⟩,rfl,rfl⟩⟩
 | [],_,_::_,h,_,_=>h.elim
 | _::_,_,[],h,_,_=>h.elim
theorem afG {es:List LT} {ms:List M} {zs:List Value} {z:List T} (hz:au w I es ms zs z []) : ∀ (n k:Nat),
  aN (fun vs ds bs=>au w I es ms vs ds bs) es.length (List.replicate n z) ((List.range' (k * es.length) (n * es.length)).map fun p=>zs.toArray[p % es.length]!) []
 | 0,k=>rfl
 | n+1,k=>by
  have hl:=(au.len es hz).1
  rw [show (n+1) * es.length=es.length+n * es.length from by rw [Nat.add_mul]; omega,<-List.range'_append_1,List.map_append,List.replicate_succ]
  have aqu:(List.range' (k * es.length) es.length).map (fun p=>zs.toArray[p % es.length]!)=zs:=by
   apply List.ext_getElem (by simp [hl])
   intro j hj1 hj2
   have hjl:j<es.length:=by simpa using hj1
   simp only [List.getElem_map,List.getElem_range',Nat.one_mul]
   rw [Nat.mul_comm k,Nat.mul_add_mod,Nat.mod_eq_of_lt hjl]
   simp [hj2]
  refine ⟨[],[],rfl,?_,?_⟩
  ·rw [List.take_append_of_le_length (by simp),List.take_of_length_le (by simp),aqu]
   exact hz
  ·rw [List.drop_append_of_le_length (by simp),List.drop_of_length_le (by simp),List.nil_append]
   have:=afG hz n (k+1)
   rwa [Nat.add_mul,Nat.one_mul] at this
theorem acs {es:List LT} {ms:List M} {zs:List Value} {z:List T} (hz:au w I es ms zs z []) (n:Nat) :
  aN (fun vs ds bs=>au w I es ms vs ds bs) es.length (List.replicate n z) ((Array.range (n * es.length)).map fun p=>zs.toArray[p % es.length]!).toList []:=by
 have:=afG hz n 0
 simpa [List.range_eq_range'] using this
theorem an8 (es:List LT):noO (es.map fun _=>M.F):=by
 intro m hm x
 simp at hm
 obtain ⟨-,-,rfl⟩:=hm
 exact fun h=>(nomatch h)
theorem Post.freeze {key:Key} {b:Bool} (hK:Post P n I w Q K):Post P n I w (fun σ tr=>(cond b (VK key .ret) .ret).wp cf σ tr Q) K:=by
 intro σ' dI g' I' a' w' hq hR' hi hk
 cases b with
 | false=>exact hK _ _ _ _ _ _ hq hR' hi hk
 | true =>
  simp only [cond_true,VK,Prog.wp] at hq
  cases hc:(σ'.k key).ch with
  | row es ms rows =>
   rw [hc] at hq
   exact hK _ _ _ _ _ _ hq (hR'.freeze hc).1 (fun b o h=>.inl (hi b o h)) hk
  | _=>rw [hc] at hq; exact hq.elim
theorem DJ {σ:S} : ∀ {es:List LT} {ls:List Leaf} {k:List M->Prog} {tr:Tr},(qW es ls k).wp cf σ tr Q->∃ ms dI,(k ms).wp cf σ dI Q
 | [],ls,k,tr,h=>by unfold qW at h; exact ⟨_,_,h⟩
 | e::es,[],k,tr,h=>by unfold qW at h; exact ⟨_,_,h⟩
 | e::es,l::ls,k,tr,h=>by
  unfold qW at h
  split at h
  ·simp only [Prog.wp] at h
   split at h
   all_goals
    obtain ⟨ms,t1,h⟩:=DJ (σ:=σ) (k:=fun r=>k (_::r)) h
    exact ⟨_,_,h⟩
  all_goals
   obtain ⟨ms,t1,h⟩:=DJ (σ:=σ) (k:=fun r=>k (_::r)) h
   exact ⟨_,_,h⟩
theorem X6 (hR:R n σ g I a w) {ms:List M} {es:List LT} {ps:List (Nat×Operand)} {k:List M->Prog} {tr:Tr} (h:(O3 ms es ps k).wp cf σ tr Q) : ∃ ms dI,(k ms).wp cf σ dI Q:=by
 unfold O3 at h
 split at h
 ·obtain ⟨e,t1,-,h⟩:=jQ hR h
  obtain ⟨ls,-,h⟩:=dX h
  exact DJ (σ:=σ) h
 ·exact ⟨_,_,h⟩
 ·exact ⟨_,_,h⟩
theorem Tg (hΓ:fE Γ P) (hd:dM n.np n.nt o=true) (hR:R n σ g I a w) (hK:Post P n I w Q K) {t:TypeId} {m:Nat} {ps:Array (Nat×Operand)} (hop:o.op = .buildSlice t m ps)
  (h:(bH Γ f o).wp cf σ tr Q):Goal P o a w K Qm:=by
 simp only [bH,hop] at h
 obtain ⟨d0,hdst,h⟩:=dX h
 obtain ⟨ti,-,hty,h⟩:=gD hΓ h
 split at h
 ·rename_i el es hk hlts
  obtain ⟨hc,h⟩:=h
  simp only [Bool.and_eq_true] at hc
  obtain ⟨hc1,hc2⟩:=hc
  have hc2:m * es.length<=16777216:=Nat.le_of_ble_eq_true hc2
  obtain ⟨hu,te,hte,hl,hne⟩:=mI hty hk
  rw [hlts] at hl
  simp only [List.cons.injEq,LT.sl.injEq,and_true] at hl
  subst hl
  obtain ⟨msL,t0,h⟩:=X6 hR h
  obtain ⟨hmo,h⟩:=h
  obtain ⟨σ1,I1,r,Bs,t1,mE,pE,hr,hnB,hzB,-,h⟩:=Pw hR DF.none h
  obtain ⟨rows,hfr,h9⟩:=dX h
  have Il:=hΓ.ty _ _ hte
  obtain ⟨z,hz,hzs⟩:=sM (w:=w) Il
  have hz1:=DI (w:=w) (I:=I1) hzs hc1 hmo
  have hzl:=(au.len _ hz1).1
  simp only [Array.length_toList] at hzl
  let Io:Array Value:=(Array.range (m * te.aR.length)).map fun p=>z.cells[p % z.cells.size]!
  have hcells0:aN (fun vs ds bs=>au w I1 te.aR msL vs ds bs) te.aR.length (List.replicate m (te.aR.map E8)) Io.toList []:=by
   have:=acs hz1 m
   simp only [Array.toArray_toList] at this
   simpa [Io,hzl] using this
  obtain ⟨cells,bs',Ul,hrows,hsz,hlen,hsub⟩:=MB r _ _ rows Io [] Bs hr hcells0 (by simp [Io]) hfr
  rw [List.nil_append] at hsub
  simp only [List.length_replicate] at hlen
  have hpos:0<te.aR.length:=List.length_pos_iff.2 hne
  have aui:m<=16777216:=Nat.le_trans (Nat.le_mul_of_pos_right m hpos) hc2
  refine Pv (cf:=cf) (p:=.ret) (bs:=bs') (b:=w.heap.size) (cap:=m) (c:=cells) (el:=el) (fz:=(0,0)) (w':=World.pushed w (.cells cells el)) hdst hd mE (hK.freeze.mono fun b o h=>(pE.jP b o h).1) (qz _ _) (Nat.le_refl _) (u6 _ _ _ _) (fun o' ho'=>by omega) ?_ hne (by unfold bG; omega) (by omega) (by rw [hsz,hlen]) (Dx hsub hnB) (hzB.sub fun b o h=>.inr (tZ (fun x hx=>hsub.mem hx) b o h)) hrows h9
  have h1:(Instr.buildSlice t m (ps.map fun (i,x)=>(i,a.eval x))).run P w = .ok (.slice (some ⟨w.heap.size,0,none⟩) m m) (World.pushed w (.cells cells el)):=by
   have hgt : ¬ (m * te.aR.length > 2 ^ 24):=by omega
   simp only [Instr.buildSlice,Sem.run_bind,run_underlying hu,Result.andThen_ok,run_sizeOf Il,hgt,if_false,pure_bind]
   have e1:(ps.map fun (i,x)=>(i,a.eval x)).toList=ps.toList.map fun p=>(p.1,a.eval p.2):=by simp
   by_cases h0:m * te.aR.length=0
   ·rw [if_pos h0,e1]
    have e2:((Array.range (m * te.aR.length)).map fun x=>(#[]:Array Value)[x % (#[]:Array Value).size]!)=Io:=by simp [Io,h0]
    rw [e2,Ul]
    simp only [Sem.run_bind,uf,Result.andThen_ok]
    rfl
   ·rw [if_neg h0]
    simp only [Sem.run_bind,hz,Result.andThen_ok,e1]
    have e2:((Array.range (m * te.aR.length)).map fun x=>z.cells[x % z.cells.size]!)=Io:=rfl
    rw [e2,Ul]
    simp only [Sem.run_bind,uf,Result.andThen_ok]
    rfl
  rw [hlen]
  simp only [execOp,hop]
  rw [Sem.run_bind,h1]
  rfl
 ·exact h.elim
end
end Go.E

namespace Go.E
open Go
theorem acu {x:Int} (h:IntKind.i64.min<=x/\x<=IntKind.i64.max):IntKind.i64.wrap x=x:=by
 have e1:IntKind.i64.min = -9223372036854775808:=by decide
 rw [e1,V9] at h
 have e64:(2:Int) ^ 64=18446744073709551616:=by decide
 have e63:(2:Int) ^ 63=9223372036854775808:=by decide
 simp only [IntKind.wrap,IntKind.bits,IntKind.signed,Bool.true_and,Nat.reduceSub,e64,e63,decide_eq_true_eq]
 split <;> omega
section
variable {Γ:Ctx} {P:Program} {cf:FuncId->List Arg->R3 fV}
variable {n:Fr} {σ:S} {g:Gh} {I:aB} {a:Act} {w w':World}
variable {o:Oper} {f:FuncId} {tr:Tr} {Q:S->Tr->Prop} {K:Act->World->Prop} {Qm:Exit->Act->World->Prop}
theorem Wo (hΓ:fE Γ P) (hd:dM n.np n.nt o=true) (hR:R n σ g I a w) (hK:Post P n I w Q K) {t:TypeId} {xl xc:Operand} (hop:o.op = .makeSlice t xl xc)
  (h:(bH Γ f o).wp cf σ tr Q):Goal P o a w K Qm:=by
 simp only [bH,hop] at h
 obtain ⟨d0,hdst,h⟩:=dX h
 obtain ⟨ti,-,hty,h⟩:=gD hΓ h
 obtain ⟨SQ,t1,aqv,h⟩:=jQ hR h
 obtain ⟨ec',t2,aqw,h⟩:=jQ hR h
 obtain ⟨sl,l,rfl,hl,h⟩:=oP aqv h
 obtain ⟨sc,c,rfl,hc,h⟩:=oP aqw h
 split at h
 ·have hk : ∃ el es,ti.kind = .slice el/\ti.aR=[.sl es]/\(vJ Γ el fun te =>
     .ig (O1 es&&adQ es (Gf (Γ.ms f) d0 es)&&decide (0<=l.int/\l.int<=c.int)) (.ig (decide (c.int * te.bytes<=bG)) (Mq d0 es (Gf (Γ.ms f) d0 es) (List.replicate l.int.toNat (es.map E8))))).wp cf σ t2 Q:=⟨_,_,by assumption,by assumption,h⟩
  clear h
  obtain ⟨el,es,hk,hlts,h⟩:=hk
  obtain ⟨lv,hlv,rfl,hl1⟩:=hl
  obtain ⟨cv,hcv,rfl,hc1⟩:=hc
  obtain ⟨hu,te,hte,hl',hne⟩:=mI hty hk
  rw [hlts] at hl'
  simp only [List.cons.injEq,LT.sl.injEq,and_true] at hl'
  subst hl'
  obtain ⟨te',an9,Il,h⟩:=gD hΓ h
  rw [hte] at an9
  cases an9
  obtain ⟨hb,h⟩:=h
  simp only [Bool.and_eq_true] at hb
  obtain ⟨⟨hb1,hmo⟩,hb2⟩:=hb
  have hb2:=of_decide_eq_true hb2
  obtain ⟨hb3,h⟩:=h
  have hb3:=of_decide_eq_true hb3
  simp only [T.int] at hb2 hb3 h
  obtain ⟨z,hz,hzs⟩:=sM (w:=w) Il
  obtain ⟨inf,hi1,hi2,hi3,hi4,-⟩:=Il.info
  generalize Gf (Γ.ms f) d0 te.aR=msL at h hmo
  have hz1:=DI (w:=w) (I:=I) hzs hb1 hmo
  have hzl:=(au.len _ hz1).1
  simp only [Array.length_toList] at hzl
  let cells:Array Value:=(Array.range (cv.toNat * te.aR.length)).map fun p=>z.cells[p % z.cells.size]!
  have hcells:aN (fun vs ds bs=>au w I te.aR msL vs ds bs) te.aR.length (List.replicate cv.toNat (te.aR.map E8)) cells.toList []:=by
   have:=acs hz1 cv.toNat
   simp only [Array.toArray_toList] at this
   simpa [cells,hzl] using this
  have hrows:aN (fun vs ds bs=>au w I te.aR msL vs ds bs) te.aR.length (List.replicate lv.toNat (te.aR.map E8)) cells.toList []:=by
   obtain ⟨b1,b2,e1,h6,-⟩:=hcells.split lv.toNat
   have e2:b1=[]:=(List.append_eq_nil_iff.1 e1.symm).1
   rw [e2,List.take_replicate,Nat.min_eq_left (by omega)] at h6
   exact h6
  have hpos:0<te.aR.length:=List.length_pos_iff.2 hne
  have hcb:cv.toNat * te.bytes<=bG:=by
   have:((cv.toNat * te.bytes:Nat):Int)=cv * te.bytes:=by rw [Int.natCast_mul,Int.toNat_of_nonneg (by omega)]
   omega
  have hcl:cv.toNat * te.aR.length<=bG:=Nat.le_trans (Nat.mul_le_mul_left _ (by omega)) hcb
  have hcc:cv.toNat<=cv.toNat * te.aR.length:=Nat.le_mul_of_pos_right _ hpos
  refine Pv (cf:=cf) (p:=.ret) (bs:=[]) (b:=w.heap.size) (cap:=cv.toNat) (c:=cells) (el:=el) (fz:=(0,0)) (w':=World.pushed w (.cells cells el)) hdst hd hR hK (qz _ _) (Nat.le_refl _) (u6 _ _ _ _) (fun o' ho'=>by omega) ?_ hne (by rw [List.length_replicate]; omega) (by rw [List.length_replicate]; omega) (by simp [cells]) trivial (DF.none.sub fun b o h=>(nomatch h.1)) hrows h
  rw [List.length_replicate]
  have h1:(Instr.makeSlice t (a.eval xl) (a.eval xc)).run P w = .ok (.slice (some ⟨w.heap.size,0,none⟩) lv.toNat cv.toNat) (World.pushed w (.cells cells el)):=by
   have hti:(typeInfo el).run P w = .ok inf w:=by simp [typeInfo,hi1,go_sem]
   have hroom : ¬ (cv.toNat * inf.bytes > roomBytes):=by rw [<-hi3]; unfold roomBytes; unfold bG at hcb; omega
   have hbig : ¬ ((inf.bytes:Int) * cv > 2 ^ 48):=by
    rw [<-hi3,Int.mul_comm]; unfold bG at hb3; omega
   simp only [Instr.makeSlice,Sem.run_bind,run_underlying hu,Result.andThen_ok,hlv,hcv,asInt,asIntOf,pure_bind,hti,acu hl1,acu hc1]
   rw [if_neg (by simp [hbig]; omega)]
   simp only [askRoom,hroom,if_false,pure_bind,run_sizeOf Il,Sem.run_bind,Result.andThen_ok]
   by_cases h0:cv.toNat * te.aR.length=0
   ·rw [if_pos h0]
    have e2:((Array.range (cv.toNat * te.aR.length)).map fun x=>(#[]:Array Value)[x % (#[]:Array Value).size]!)=cells:=by simp [cells,h0]
    rw [e2]
    simp only [Sem.run_bind,uf,Result.andThen_ok]
    rfl
   ·rw [if_neg h0]
    simp only [Sem.run_bind,hz,Result.andThen_ok]
    have e2:((Array.range (cv.toNat * te.aR.length)).map fun x=>z.cells[x % z.cells.size]!)=cells:=rfl
    rw [e2]
    simp only [Sem.run_bind,uf,Result.andThen_ok]
    rfl
  simp only [execOp,hop]
  rw [Sem.run_bind,h1]
  rfl
 ·exact h.elim
end
end Go.E

namespace Go.E
open Go
section
variable {Γ:Ctx} {P:Program} {cf:FuncId->List Arg->R3 fV}
variable {n:Fr} {σ:S} {g:Gh} {I:aB} {a:Act} {w w':World}
variable {o:Oper} {f:FuncId} {tr:Tr} {Q:S->Tr->Prop} {K:Act->World->Prop} {Qm:Exit->Act->World->Prop}
theorem R.grow (hR:R n σ g I a w) {b:Nat} (hb:w.heap.size<=b) (hk:Keeps (fun _ _=>True) w w') {c:Array Value} {el:TypeId} {fz:Nat×Nat} (hblk:Block w' b c el fz) :
  R n σ g (fun b' o'=>I b' o'\/(b'=b/\o'<c.size)) a w':=by
 have h1:=hR.world hk
 have ev:gM σ.k g w' I σ.k g w' (fun b' o'=>I b' o'\/(b'=b/\o'<c.size)) :=
  ⟨fun _=>Nat.le_refl _,fun _=>Nat.le_refl _,fun u _ hl b o hf=>⟨.inl ⟨hl,hf⟩,rfl⟩,fun _ _=>⟨rfl,rfl⟩,fun _ _ h=>⟨.inl h,rfl⟩,fun _ _ h=>⟨h,rfl⟩⟩
 refine ⟨h1.size,h1.nd,fun t=>ev.ent (h1.slots t),fun k=>Hf.keep ev (Keeps.refl (fun _ _=>True) w') (fun _ _ _ _=>trivial) rfl rfl (h1.vI k),h1.sep,fun k hl b' o' hf hi=>?_,fun b' o' hi=>?_,h1.x.step (Keeps.refl _ _) rfl (fun k h=>⟨fun _=>.inl ⟨h,rfl⟩,h1.x.wW k h⟩) (fun b' o' hi=>?_)⟩
 ·rcases hi with hi | ⟨rfl,hi⟩
  ·exact h1.jP k hl b' o' hf hi
  ·have:=nO (uI hR hl hf)
   omega
 ·rcases hi with hi | ⟨rfl,hi⟩
  ·exact h1.zu b' o' hi
  ·rw [mH hblk]
   exact ⟨_,Array.getElem?_eq_getElem hi⟩
 ·refine hi.imp id ?_
  rintro ⟨rfl,hi⟩ ha
  have:=nO (hR.x.awf _ _ ha)
  omega
theorem Px {S:aB} {b:Nat} {c:Array Value} {el:TypeId} {fz:Nat×Nat} (hblk:Block w b c el fz) (hS : ∀ o',o'<c.size->S b o') : ∀ (l:List UInt8) (k:Nat),k+l.length<=c.size ->
  (∀ j (hj:j<l.length),c[k+j]? = some (.int .u8 l[j].toNat))->∀ i (hi:i<(l.map fun x=>[T.i x.toNat]).length),dK w S S [.sc (.int .u8)] b (k+i * 1) (l.map fun x=>[T.i x.toNat])[i]:=by
 intro l k hk hc i hi
 simp only [List.length_map] at hi
 simp only [List.getElem_map]
 unfold dK
 have hlt:=UInt8.toNat_lt l[i]
 refine ⟨_,[],.int .u8 l[i].toNat,rfl,hS _ (by omega),?_,?_,by unfold dK; rfl⟩
 ·rw [mH hblk,Nat.mul_one]; exact hc i hi
 ·unfold aJ
  refine ⟨_,rfl,rfl,?_⟩
  simp only [IntKind.min,IntKind.max,IntKind.bits,IntKind.signed]
  constructor
  ·simp
  ·simp only [Bool.false_eq_true,if_false]; omega
def World.strs (w:World) (s:ByteArray) (cap:Nat) (el:TypeId):World :=
 World.pushed { w with drawn:=w.drawn+1 } (.cells (s.data.map (fun b=>Value.int .u8 b.toNat)++Array.replicate (cap-s.size) (.int .u8 0)) el (cap,cap+1))
theorem Py (hΓ:fE Γ P) (hd:dM n.np n.nt o=true) (hR:R n σ g I a w) (hK:Post P n I w Q K) {s t:TypeId} {ts tt:TI} {x:Operand} {d0:Nat} (hop:o.op = .convert s t x)
  (hdst:o.dst=some d0) (hts:vQ Γ P s ts) (htt:vQ Γ P t tt) {e:fC} (he:jY σ.k g w I e (a.eval x)) {el:TypeId} (hk1:ts.kind = .sc .str) (hk2:tt.kind = .slice el)
  (h:(Fg Γ d0 ts tt e).wp cf σ tr Q):Goal P o a w K Qm:=by
 obtain ⟨ds,hus,hks⟩:=hts.und
 unfold Fg at h
 rw [hk1,hk2] at h
 rw [hk1] at hks
 obtain ⟨rfl,-⟩:=hks
 simp only at h
 obtain ⟨hut,-⟩:=mI htt hk2
 obtain ⟨te,-,hte,h⟩:=gD hΓ h
 obtain ⟨hb,h⟩:=h
 obtain ⟨de,hue,hke⟩:=hte.und
 rw [Pt hb] at hke
 obtain ⟨rfl,-⟩:=hke
 obtain ⟨st,d,rfl,hv,h⟩:=oP he h
 split at h
 ·obtain ⟨str,hv,rfl,hsz⟩:=hv
  obtain ⟨h1,h⟩:=h
  have h1:=of_decide_eq_true h1
  simp only [T.str] at h1 h
  obtain ⟨hdn,hkp⟩:=Fu hd hdst
  let cap:=(Question.appendCap str.size 0 el).cut (w.tape w.drawn (.appendCap str.size 0 el))
  have hcap:str.size<=cap:=by simp only [cap,Question.cut]; omega
  let c:Array Value:=str.data.map (fun b=>Value.int .u8 b.toNat)++Array.replicate (cap-str.size) (.int .u8 0)
  have hcs:c.size=cap:=by
   have:str.data.size=str.size:=rfl
   simp only [c,Array.size_append,Array.size_map,Array.size_replicate]
   omega
  have hrun:(execOp a.eval o).run P w = .ok (.value (.slice (some ⟨w.heap.size,0,none⟩) str.size cap)) (World.strs w str cap el):=by
   refine AO hop ?_
   rw [hv]
   simp only [convert,Sem.run_bind,run_underlying hus,run_underlying hut,run_underlying hue,Result.andThen_ok]
   unfold Conv.stringToBytes
   simp only [Sem.run_bind]
   have hch:(choose (.appendCap str.size 0 el)).run P w = .ok cap { w with drawn:=w.drawn+1 }:=by
    simp [choose,Sem.run,Question.forced,cap]
   rw [hch]
   simp only [Result.andThen_ok,uf]
   have hms:(markStringish ⟨w.heap.size,0,none⟩).run P (World.pushed { w with drawn:=w.drawn+1 } (.cells c el)) = .ok () (World.strs w str cap el):=by
    have hsh:(shape w.heap.size).run P (World.pushed { w with drawn:=w.drawn+1 } (.cells c el)) = .ok (some (el,cap)) (World.pushed { w with drawn:=w.drawn+1 } (.cells c el)):=by
     simp only [shape,Sem.run,World.shape?,World.pushed,Array.getElem?_push_size,hcs]
    unfold markStringish
    simp only [Sem.run_bind,hsh,Result.andThen_ok]
    simp only [freeze,Sem.run,World.freeze,World.pushed,World.strs]
    rw [if_neg (by omega)]
    congr 1
    simp only [World.mk.injEq,and_true]
    apply Array.ext
    ·simp
    ·intro i hi1 hi2
     simp only [Array.size_modify,Array.size_push] at hi1
     rw [Array.getElem_modify]
     split
     ·rename_i hi
      subst hi
      simp [c]
     ·rename_i hi
      rw [Array.getElem_push_lt (by omega),Array.getElem_push_lt (by omega)]
   rw [hms]
   rfl
  have hk:Keeps (fun _ _=>True) w (World.strs w str cap el):=Keeps.trans (fun _ _ h=>h) (uJ w (w.drawn+1)) (qz _ _)
  have hblk:Block (World.strs w str cap el) w.heap.size c el (cap,cap+1):=u6 { w with drawn:=w.drawn+1 } c el (cap,cap+1)
  have hR':=hR.grow (Nat.le_refl _) hk hblk
  refine zw hrun ?_
  rw [hdst]
  refine hK _ _ _ _ _ _ h (hR'.put hdn (e:=.one ⟨.sn [],.sl [.sc (.int .u8)],.l (iI str)⟩) ⟨⟨fun _ h=>(nomatch h),fun _ h=>(nomatch h)⟩,trivial,uY _,fun _=>?_⟩) (fun _ _ h=>.inl h) (hk.weaken fun _ _ _=>trivial)
  have hl0:str.data.toList.length=str.size:=rfl
  have hlen:(iI str).length=str.size:=by unfold iI; rw [List.length_map]; exact hl0
  have hrows : ∀ i (hi:i<(iI str).length),dK (World.strs w str cap el) (dF σ.k g (fun b' o'=>I b' o'\/(b'=w.heap.size/\o'<c.size)) []) (dF σ.k g (fun b' o'=>I b' o'\/(b'=w.heap.size/\o'<c.size)) []) [.sc (.int .u8)] w.heap.size (0+i * 1) (iI str)[i]:=by
   refine Px hblk (fun o' ho'=>.inl (.inr ⟨rfl,ho'⟩)) str.data.toList 0 (by omega) ?_
   intro j hj
   have hj':j<str.data.size:=hj
   simp only [c,Nat.zero_add]
   rw [Array.getElem?_append_left (by rw [Array.size_map]; exact hj'),Array.getElem?_map,Array.getElem?_eq_getElem hj']
   rfl
  have:=Gl (w:=World.strs w str cap el) (S:=dF σ.k g (fun b' o'=>I b' o'\/(b'=w.heap.size/\o'<c.size)) []) (es:=[.sc (.int .u8)]) (aa:=some ⟨w.heap.size,0,none⟩) (cap:=cap) (rows:=iI str)
   (by omega) (by omega) (.inr ⟨w.heap.size,0,rfl,hrows⟩)
  rw [hlen] at this
  exact this
 ·exact h.elim
end
end Go.E

namespace Go.E
open Go
section
variable {Γ:Ctx} {P:Program} {cf:FuncId->List Arg->R3 fV}
variable {n:Fr} {σ:S} {g:Gh} {I:aB} {a:Act} {w w':World}
variable {o:Oper} {f:FuncId} {tr:Tr} {Q:S->Tr->Prop} {K:Act->World->Prop} {Qm:Exit->Act->World->Prop}
theorem Um {fm:Int->Int->Int} (hr : ∀ x y,fm x y=x\/fm x y=y) {es:List fC} {vs:List Value} {k:IntKind} {m:Int} (hes:wZ σ.k g w I es vs) (h:VT fm es=some (k,m)) :
  ∃ x y,vs=[.int k x,.int k y]/\m=fm x y/\k.min<=m/\m<=k.max:=by
 unfold VT at h
 split at h
 ·rename_i k1 x k2 y
  split at h
  ·rename_i hk
   subst hk
   cases h
   cases vs with
   | nil=>exact hes.elim
   | cons v1 vs =>
    cases vs with
    | nil=>exact hes.2.elim
    | cons v2 vs =>
     cases vs with
     | cons _ _=>exact hes.2.2.elim
     | nil =>
      have h1:Ms (.int k) v1 x:=by obtain ⟨-,s1,e1,h1⟩:=hes.1; cases e1; exact h1
      have h2:Ms (.int k) v2 y:=by obtain ⟨-,s1,e1,h1⟩:=hes.2.1; cases e1; exact h1
      obtain ⟨x,rfl,rfl,hx⟩:=h1
      obtain ⟨y,rfl,rfl,hy⟩:=h2
      refine ⟨x,y,rfl,rfl,?_⟩
      simp only [T.int]
      rcases hr x y with e | e <;> rw [e]
      ·exact hx
      ·exact hy
  ·cases h
 ·cases h
theorem aly (hΓ:fE Γ P) (hd:dM n.np n.nt o=true) (hR:R n σ g I a w) (hK:Post P n I w Q K) {c:Call} (hop:o.op = .call c) (hc:c.callee = .builtin .min)
  (h:(bH Γ f o).wp cf σ tr Q):Goal P o a w K Qm:=by
 simp only [bH,hop,hc] at h
 obtain ⟨es,t1,hes,h⟩:=zy hR h
 obtain ⟨⟨k,m⟩,hm,h⟩:=dX h
 obtain ⟨x,y,hv,rfl,hr⟩:=Um (fun x y=>by unfold ow; split <;> simp) hes hm
 have hargs:c.args.map a.eval = #[.int k x,.int k y]:=by apply Array.toList_inj.1; simpa using hv
 refine ng hd hR hK (s:=.int k) (v:=.int k (ow x y)) (Fw hop hc ?_) ⟨_,rfl,rfl,hr⟩ h
 rw [hargs]
 simp [builtin,Builtin.min_,Builtin.min2,ow]
theorem alz (hΓ:fE Γ P) (hd:dM n.np n.nt o=true) (hR:R n σ g I a w) (hK:Post P n I w Q K) {c:Call} (hop:o.op = .call c) (hc:c.callee = .builtin .max)
  (h:(bH Γ f o).wp cf σ tr Q):Goal P o a w K Qm:=by
 simp only [bH,hop,hc] at h
 obtain ⟨es,t1,hes,h⟩:=zy hR h
 obtain ⟨⟨k,m⟩,hm,h⟩:=dX h
 obtain ⟨x,y,hv,rfl,hr⟩:=Um (fun x y=>by unfold qX; split <;> simp) hes hm
 have hargs:c.args.map a.eval = #[.int k x,.int k y]:=by apply Array.toList_inj.1; simpa using hv
 refine ng hd hR hK (s:=.int k) (v:=.int k (qX x y)) (Fw hop hc ?_) ⟨_,rfl,rfl,hr⟩ h
 rw [hargs]
 simp [builtin,Builtin.max_,Builtin.max2,qX]
def World.put (w:World) (b:Nat) (c:Array Value) (el:TypeId) (fz:Nat×Nat):World:={ w with heap:=w.heap.setIfInBounds b (.cells c el fz) }
theorem kI {b:Nat} {c c':Array Value} {el:TypeId} {fz:Nat×Nat} (h:Block w b c el fz):Block (World.put w b c' el fz) b c' el fz:=by
 have hlt:=(Array.getElem?_eq_some_iff.1 h).1
 unfold Block World.put
 simp only
 rw [Array.getElem?_setIfInBounds_self_of_lt hlt]
theorem vS {b:Nat} {c c':Array Value} {el:TypeId} {fz:Nat×Nat} (h:Block w b c el fz) (hs:c'.size=c.size) {A:aB} (hA : ∀ o,A b o->c'[o]? = c[o]?):Keeps A w (World.put w b c' el fz):=by
 refine ⟨by simp [World.put],fun b' x hx=>?_,rfl,rfl,rfl⟩
 by_cases hb:b'=b
 ·subst hb
  have hx':x = .cells c el fz:=by
   have h1:w.heap[b']? = some (.cells c el fz):=h
   rw [h1] at hx; exact (Option.some.inj hx).symm
  subst hx'
  exact ⟨_,kI h,c',rfl,hs,hA⟩
 ·refine ⟨x,?_,qc.refl _ _ _⟩
  unfold World.put
  simp only
  rw [Array.getElem?_setIfInBounds_ne (Ne.symm hb)]
  exact hx
theorem qA {b:Nat} {el:TypeId} {fz:Nat×Nat} : ∀ (vs:List Value) (i o:Nat) (c:Array Value) (w:World),Block w b c el fz->o+i+vs.length<=c.size->(∀ v∈vs,Single v)->(∀ j,j<vs.length->¬ (fz.1<=o+i+j/\o+i+j<fz.2)) ->
  ∃ c',(storeCells ⟨b,o,none⟩ vs i).run P w = .ok () (World.put w b c' el fz)/\c'.toList=c.toList.take (o+i)++vs++c.toList.drop (o+i+vs.length)
 | [],i,o,c,w,hb,hn,hs,hf=>by
  refine ⟨c,?_,by simp⟩
  have:World.put w b c el fz=w:=by
   unfold World.put
   have h1:w.heap[b]? = some (.cells c el fz):=hb
   have h2:w.heap.setIfInBounds b (.cells c el fz)=w.heap:=by
    apply Array.ext (by simp)
    intro j hj1 hj2
    rw [Array.getElem_setIfInBounds (by simpa using hj1)]
    split
    ·rename_i e; subst e
     rw [Array.getElem?_eq_getElem hj2] at h1
     exact (Option.some.inj h1).symm
    ·rfl
   rw [h2]
  rw [this]
  simp [storeCells]
 | v::vs,i,o,c,w,hb,hn,hs,hf=>by
  simp only [List.length_cons] at hn
  have hv:=hs v (by simp)
  have hcell:w.cell? ⟨b,o+i,none⟩=some c[o+i]:=by
   have:=mH (o:=o+i) hb
   rw [Array.getElem?_eq_getElem (by omega)] at this
   exact this
  have hfr:w.frozen? ⟨b,o+i,none⟩=false:=by
   have h1:w.heap[b]? = some (.cells c el fz):=hb
   have h2:=hf 0 (by simp)
   simp only [World.frozen?,h1]
   simp only [Nat.add_zero] at h2
   simpa using h2
  have hset:w.setCell ⟨b,o+i,none⟩ v=World.put w b (c.setIfInBounds (o+i) v) el fz:=by
   have h1:w.heap[b]? = some (.cells c el fz):=hb
   unfold World.setCell World.put
   congr 1
   apply Array.ext (by simp)
   intro j hj1 hj2
   rw [Array.getElem_modify,Array.getElem_setIfInBounds (by simpa using hj2)]
   split
   ·rename_i e
    subst e
    have h2:w.heap[b]'(by simpa using hj1) = .cells c el fz:=by
     rw [Array.getElem?_eq_getElem (by simpa using hj1)] at h1
     exact Option.some.inj h1
    rw [h2]
    simp
   ·rfl
  have hb':Block (World.put w b (c.setIfInBounds (o+i) v) el fz) b (c.setIfInBounds (o+i) v) el fz:=kI hb
  obtain ⟨c',h1,h2⟩:=qA vs (i+1) o (c.setIfInBounds (o+i) v) _ hb' (by simp; omega) (fun u hu=>hs u (by simp [hu])) (fun j hj=>by
   have:=hf (j+1) (by simp; omega)
   rwa [show o+i+(j+1)=o+(i+1)+j from by omega] at this)
  refine ⟨c',?_,?_⟩
  ·simp only [storeCells,Sem.run_bind,addr_add]
   have hst:(store ⟨b,o+i,none⟩ v).run P w = .ok () (World.put w b (c.setIfInBounds (o+i) v) el fz):=by
    unfold store
    cases v with
    | agg cs=>exact absurd rfl (hv.1 cs)
    | tuple cs=>exact absurd rfl (hv.2 cs)
    | _=>simp only [Sem.run,hcell,hfr,Bool.false_eq_true,if_false,hset]
   rw [hst]
   simp only [Result.andThen_ok]
   rw [h1]
   congr 1
   unfold World.put
   simp
  ·rw [h2]
   have hlt:o+i<c.toList.length:=by rw [Array.length_toList]; omega
   simp only [Array.toList_setIfInBounds,List.length_cons]
   rw [show o+(i+1)=o+i+1 from by omega]
   rw [List.take_add_one,List.take_set_of_le (by omega),List.getElem?_set_self hlt,List.drop_set_of_lt (by omega),show o+i+(vs.length+1)=o+i+1+vs.length from by omega]
   simp
theorem cu.single {κ:Key->KE} : ∀ {ls:List Leaf} {vs:List Value},cu κ g w I ls vs->∀ v∈vs,Single v
 | [],[],_,v,hv=>(nomatch hv)
 | _::ls,u::vs,h,v,hv=>by
  rcases List.mem_cons.1 hv with rfl | hv
  ·exact h.1.1
  ·exact cu.single h.2 v hv
 | [],_::_,h,_,_=>h.elim
 | _::_,[],h,_,_=>h.elim
theorem JJ {ρ:Operand->Value} {t:TypeId} {ti:TI} {x y:Operand} {b o':Nat} {el:TypeId} {fz:Nat×Nat} {c:Array Value} (hty:vQ Γ P t ti) (hop:o.op = .store t x y) (hx:ρ x = .pointer (some ⟨b,o',none⟩))
  (hb:Block w b c el fz) (hn:o'+(ρ y).cells.size<=c.size) (hsz:(ρ y).cells.size=ti.aR.length) (hs : ∀ v∈(ρ y).cells.toList,Single v) (hf : ∀ j,j<(ρ y).cells.size->¬ (fz.1<=o'+j/\o'+j<fz.2)) :
  ∃ c',(execOp ρ o).run P w = .ok .skip (World.put w b c' el fz)/\c'.toList=c.toList.take o'++(ρ y).cells.toList++c.toList.drop (o'+(ρ y).cells.size):=by
 obtain ⟨c',h1,h2⟩:=qA (P:=P) (ρ y).cells.toList 0 o' c w hb (by simpa using hn) hs (by simpa using hf)
 refine ⟨c',?_,by simpa using h2⟩
 have h3:(Instr.storeAt t (ρ x) (ρ y)).run P w = .ok () (World.put w b c' el fz):=by
  simp only [Instr.storeAt,hx,Instr.sureAddr,pure_bind,storeVar,Sem.run_bind,run_sizeOf hty,Result.andThen_ok,hsz,ne_eq,not_true_eq_false,if_false]
  exact h1
 simp only [execOp,hop]
 rw [Sem.run_bind,h3]
 rfl
end
end Go.E

namespace Go.E
open Go
theorem Ip : ∀ (ds:List T) (row:List T) (off:Nat),off+ds.length<=row.length->setMany row off ds=row.take off++ds++row.drop (off+ds.length)
 | [],row,off,h=>by simp [setMany]
 | d::ds,row,off,h=>by
  simp only [List.length_cons] at h
  unfold setMany
  rw [Ip ds (row.set off d) (off+1) (by simp; omega)]
  rw [List.take_add_one,List.take_set_of_le (by omega),List.getElem?_set_self (by omega),List.drop_set_of_lt (by omega),List.length_cons,show off+(ds.length+1)=off+1+ds.length from by omega]
  simp
section
variable {w:World} {I S:aB}
theorem aW.set {es:List LT} {vs us:List Value} {row ds:List T} {off:Nat} (h:aW w S es vs row) (h':aW w S ((es.drop off).take ds.length) us ds) (hn:off+ds.length<=es.length) :
  aW w S es (vs.take off++us++vs.drop (off+ds.length)) (setMany row off ds):=by
 have hl:=h.len
 rw [Ip ds row off (by omega)]
 have:=((h.take off).app h').app (h.drop (off+ds.length))
 have e:es.take off++(es.drop off).take ds.length++es.drop (off+ds.length)=es:=by
  rw [List.append_assoc,<-List.drop_drop,List.take_append_drop,List.take_append_drop]
 rwa [e] at this
end
section
variable {Γ:Ctx} {P:Program} {cf:FuncId->List Arg->R3 fV}
variable {n:Fr} {σ:S} {g:Gh} {I:aB} {a:Act} {w w':World}
variable {o:Oper} {f:FuncId} {tr:Tr} {Q:S->Tr->Prop} {K:Act->World->Prop} {Qm:Exit->Act->World->Prop}
theorem R.Wp (hR:R n σ g I a w) {key:Key} {e:KE} (hl:Live (σ.k key).ch) (h1:e.bQ=(σ.k key).bQ) (h2:(σ.k key).cv<e.cv) (h3:mW e.ch=mW (σ.k key).ch)
  (hk:Keeps (fun b o=>¬ g.F key b o) w w') (hch:gM σ.k g w I (σ.bK key e).k g w' I->Hf (σ.bK key e).k g w' I key e.ch):R n (σ.bK key e) g I a w'/\gM σ.k g w I (σ.bK key e).k g w' I:=by
 refine hR.touch (σ':=σ.bK key e) (g':=g) (I':=I) (w':=w') (fun u=>u=key) (g.F key) rfl rfl (fun u hu=>⟨aO _ _ hu,rfl,rfl⟩) (fun u hu=>?_) (fun u hu hp _=>?_) (fun u hu _ b o hf=>?_) (fun u v hu hv _ _ hne=>absurd (hu.trans hv.symm) hne)
  (fun u hu hlu=>hR.sep u key hlu hl hu) (hR.jP key hl) (hR.x.wW key hl) hk (fun _ _ h=>h) (fun _ _ h=>.inl h) (fun u hu _=>?_) (fun b o hi=>?_) (fun ev u hu=>?_)
 ·subst hu; rw [aP]; exact ⟨h2,Nat.le_of_eq h1.symm,fun _=>⟨rfl,h3⟩⟩
 ·subst hu; exact hR.x.par u hp hl
 ·subst hu; exact .inl hf
 ·subst hu; exact hR.jP u hl
 ·obtain ⟨v,hv⟩:=hR.zu b o hi
  exact ⟨v,(hk.cell (fun hh=>hR.jP key hl b o hh hi) ⟨v,hv⟩).trans hv⟩
 ·subst hu; rw [aP]; exact hch ev
theorem Pz {tr:Tr} (hd:dM n.np n.nt o=true) (hR:R n σ g I a w') (hK : ∀ σ' dI g' I' a' w'',Q σ' dI->R n σ' g' I' a' w''->(∀ b o,I b o->I' b o)->Keeps (Im n I) w' w''->K a' w'')
  (hrun:(execOp a.eval o).run P w = .ok .skip w') (h:(put o.dst .und).wp cf σ tr Q):Goal P o a w K Qm:=by
 refine adS hrun ?_
 unfold put at h
 cases hds:o.dst with
 | none =>
  simp only [hds] at h ⊢
  exact hK _ _ g I _ _ h hR (fun _ _ h=>h) (Keeps.refl _ _)
 | some d =>
  simp only [hds] at h ⊢
  exact hK _ _ g I _ _ h (hR.put (Fu hd hds).1 (e:=.und) rfl) (fun _ _ h=>h) (Keeps.refl _ _)
end
end Go.E

namespace Go.E
open Go
theorem Wq (k:Key):jc k≠k:=fun h=>by have:=congrArg List.length h; simp [jc] at this
theorem OC (k:Key) (j:Nat):nZ k j≠k:=fun h=>by have:=congrArg List.length h; simp [nZ] at this; omega
theorem OD (k:Key):og k≠k:=fun h=>by have:=congrArg List.length h; simp [og] at this
theorem Un (k:Key) (j:Nat):nZ k j≠jc k:=fun h=>by simp [nZ,jc] at h
theorem X7 {k:Key} {i j:Nat} (h:nZ k i=nZ k j):i=j:=by simpa [nZ] using h
theorem yA {np c:Nat} (hb:np<=1000000) (hc:1000000<=c) (r:Key) : ¬ gN np (c::r):=fun h=>by simp only [gN] at h; omega
section
variable {cf:FuncId->List Arg->R3 fV} {Q:S->Tr->Prop}
variable {n:Fr} {σ:S} {g:Gh} {I:aB} {a:Act} {w:World} {tr:Tr}
def adZ:LT->M->Bool
 | .sl _,.O _=>true
 | _,_=>false
def nT (κ:Key->KE) (key:Key):Nat->List LT->List M->List T->List Leaf
 | _,[],_,_=>[]
 | j,e::es,ms,ds=>(match e,ms.headD .F with
  | .sl es',.O _=>⟨.al (nZ key j) ((κ (nZ key j)).bQ+1),.sl es',.l []⟩
  | .sl es',.F=>⟨.sn [],.sl es',ds.headD dflt⟩
  | .sc s,_=>⟨.sc,.sc s,ds.headD dflt⟩)::nT κ key (j+1) es ms.tail ds.tail
theorem DK {κ κ':Key->KE} {key:Key} : ∀ (es:List LT) (ms:List M) (ds:List T) (j:Nat),(∀ i,j<=i->(κ (nZ key i)).bQ=(κ' (nZ key i)).bQ)->nT κ key j es ms ds=nT κ' key j es ms ds
 | [],ms,ds,j,h=>rfl
 | e::es,ms,ds,j,h=>by
  simp only [nT]
  rw [DK es ms.tail ds.tail (j+1) fun i hi=>h i (by omega),h j (Nat.le_refl _)]
theorem BR {key:Key} : ∀ {es:List LT} {ms:List M} {ds:List T} {j:Nat} {σ:S} {k:List Leaf->Prog} {tr:Tr},(tV key j es ms ds k).wp cf σ tr Q ->
  ∃ σ' dI,(k (nT σ.k key j es ms ds)).wp cf σ' dI Q/\σ'.s=σ.s/\(∀ u,(∀ i,j<=i->i<j+es.length->adZ (es.getD (i-j) default) (ms.getD (i-j) .F)=true->u≠nZ key i)->σ'.k u=σ.k u) /\
   ∀ i (hi:i<es.length),∀ es' ms',es[i] = .sl es'->ms.getD i .F = .O ms'->σ'.k (nZ key (j+i))=⟨.row es' ms' (ds.getD i dflt).rows,(σ.k (nZ key (j+i))).bQ+1,(σ.k (nZ key (j+i))).cv+1⟩
 | [],ms,ds,j,σ,k,tr,h=>⟨σ,tr,h,rfl,fun _ _=>rfl,fun i hi=>by simp at hi⟩
 | e::es,ms,ds,j,σ,k,tr,h=>by
  have plain : ∀ (l:Leaf),nT σ.k key j (e::es) ms ds=l::nT σ.k key (j+1) es ms.tail ds.tail->(∀ es' ms',e = .sl es'->ms.headD .F ≠ .O ms')->(tV key (j+1) es ms.tail ds.tail fun ls=>k (l::ls)).wp cf σ tr Q ->
    ∃ σ' dI,(k (nT σ.k key j (e::es) ms ds)).wp cf σ' dI Q/\σ'.s=σ.s/\(∀ u,(∀ i,j<=i->i<j+(e::es).length->adZ ((e::es).getD (i-j) default) (ms.getD (i-j) .F)=true->u≠nZ key i)->σ'.k u=σ.k u) /\
     ∀ i (hi:i<(e::es).length),∀ es' ms',(e::es)[i] = .sl es'->ms.getD i .F = .O ms'->σ'.k (nZ key (j+i))=⟨.row es' ms' (ds.getD i dflt).rows,(σ.k (nZ key (j+i))).bQ+1,(σ.k (nZ key (j+i))).cv+1⟩:=by
   intro l hl hno h
   obtain ⟨σ',dI,h1,h2,h3,h4⟩:=BR h
   refine ⟨σ',dI,by rw [hl]; exact h1,h2,fun u hu=>h3 u fun i hi1 hi2 ho=>?_,fun i hi es' ms' he hm=>?_⟩
   ·refine hu i (by omega) (by simp; omega) ?_
    obtain ⟨i',rfl⟩ : ∃ i',i=j+1+i':=⟨i-(j+1),by omega⟩
    rw [show j+1+i'-(j+1)=i' from by omega,yY] at ho
    rw [show j+1+i'-j=i'+1 from by omega]
    simpa using ho
   ·cases i with
    | zero=>exact absurd (by rw [<-hm]; cases ms <;> rfl) (hno es' ms' (by simpa using he))
    | succ i =>
     have:=h4 i (by simpa using hi) es' ms' (by simpa using he) (by rw [yY]; exact hm)
     have e2:ds.tail.getD i dflt=ds.getD (i+1) dflt:=by cases ds <;> simp [List.getD]
     rw [show j+1+i=j+(i+1) from by omega,e2] at this
     exact this
  unfold tV at h
  simp only at h
  cases e with
  | sc s=>exact plain _ (by simp only [nT]) (fun _ _ e=>(nomatch e)) h
  | sl es0 =>
   cases hm:ms.headD .F with
   | F=>
    rw [hm] at h
    exact plain _ (by simp only [nT,hm]) (fun _ _ _ e=>by rw [hm] at e; cases e) h
   | O ms0 =>
    rw [hm] at h
    simp only [Prog.wp] at h
    obtain ⟨σ',dI,h1,h2,h3,h4⟩:=BR h
    have hk : ∀ i,j+1<=i->(σ.bK (nZ key j) ⟨.row es0 ms0 (ds.headD dflt).rows,(σ.k (nZ key j)).bQ+1,(σ.k (nZ key j)).cv+1⟩).k (nZ key i)=σ.k (nZ key i):=fun i hi=>aO _ _ fun e=>by have:=X7 e; omega
    have aqx:=DK (κ:=(σ.bK (nZ key j) ⟨.row es0 ms0 (ds.headD dflt).rows,(σ.k (nZ key j)).bQ+1,(σ.k (nZ key j)).cv+1⟩).k) (κ':=σ.k) (key:=key) es ms.tail ds.tail (j+1) fun i hi=>by rw [hk i hi]
    rw [aqx] at h1
    have hom:adZ (.sl es0) (ms.getD 0 .F)=true:=by
     have:ms.getD 0 .F = .O ms0:=by rw [<-hm]; cases ms <;> rfl
     rw [this]; rfl
    refine ⟨σ',dI,by simp only [nT,hm]; exact h1,h2,fun u hu=>?_,fun i hi es' ms' he hm'=>?_⟩
    ·rw [h3 u fun i hi1 hi2 ho=>?_]
     ·exact aO _ _ (hu j (Nat.le_refl _) (by simp) (by rw [Nat.sub_self]; exact hom))
     ·refine hu i (by omega) (by simp; omega) ?_
      obtain ⟨i',rfl⟩ : ∃ i',i=j+1+i':=⟨i-(j+1),by omega⟩
      rw [show j+1+i'-(j+1)=i' from by omega,yY] at ho
      rw [show j+1+i'-j=i'+1 from by omega]
      simpa using ho
    ·cases i with
     | zero =>
      have:ms.getD 0 .F = .O ms0:=by rw [<-hm]; cases ms <;> rfl
      rw [this] at hm'
      cases hm'
      have he:LT.sl es0 = .sl es':=he
      cases he
      rw [Nat.add_zero,h3 _ fun i hi1 _ _ e=>by have:=X7 e; omega,aP]
      have:ds.headD dflt=ds.getD 0 dflt:=by cases ds <;> rfl
      rw [this]
     | succ i =>
      have:=h4 i (by simpa using hi) es' ms' (by simpa using he) (by rw [yY]; exact hm')
      have e2:ds.tail.getD i dflt=ds.getD (i+1) dflt:=by cases ds <;> simp [List.getD]
      rw [show j+1+i=j+(i+1) from by omega,e2,hk _ (by omega)] at this
      exact this
theorem qB (κ:Key->KE) (key:Key) : ∀ (j:Nat) (es:List LT) (ms:List M) (ds:List T),(nT κ key j es ms ds).length=es.length
 | _,[],_,_=>rfl
 | j,e::es,ms,ds=>by simp only [nT,List.length_cons,qB κ key (j+1) es]
theorem PD (κ:Key->KE) (key:Key) : ∀ (es:List LT) (ms:List M) (ds:List T) (j i:Nat),i<es.length->(nT κ key j es ms ds).getD i default=(match es.getD i default,ms.getD i .F with
  | .sl es',.O _=>⟨.al (nZ key (j+i)) ((κ (nZ key (j+i))).bQ+1),.sl es',.l []⟩
  | .sl es',.F=>⟨.sn [],.sl es',ds.getD i dflt⟩
  | .sc s,_=>⟨.sc,.sc s,ds.getD i dflt⟩)
 | [],_,_,_,i,hi=>by simp at hi
 | e::es,ms,ds,j,0,hi=>by
  have e1:ms.headD .F=ms.getD 0 .F:=by cases ms <;> rfl
  have e2:ds.headD dflt=ds.getD 0 dflt:=by cases ds <;> rfl
  simp only [nT,List.getD_cons_zero,e1,e2,Nat.add_zero]
 | e::es,ms,ds,j,i+1,hi=>by
  have e2:ds.tail.getD i dflt=ds.getD (i+1) dflt:=by cases ds <;> simp [List.getD]
  have:=PD κ key es ms.tail ds.tail (j+1) i (by simpa using hi)
  rw [yY,e2,show j+1+i=j+(i+1) from by omega] at this
  simp only [nT,List.getD_cons_succ]
  exact this
theorem cu.afH {κ:Key->KE} : ∀ {ls:List Leaf} {vs:List Value},ls.length=vs.length->(∀ j,j<ls.length->ER κ g w I (ls.getD j default) (vs.getD j .nilIface))->cu κ g w I ls vs
 | [],[],_,_=>trivial
 | l::ls,v::vs,hl,h=>⟨by simpa using h 0 (by simp),cu.afH (by simpa using hl) fun j hj=>by simpa using h (j+1) (by simpa using hj)⟩
 | [],_::_,hl,_=>by simp at hl
 | _::_,[],hl,_=>by simp at hl
theorem Iq (hR:R n σ g I a w) {key:Key} {r:Nat} {k:Nat->List Leaf->Prog} (h:(Jo key r k).wp cf σ tr Q) :
  ∃ es ms rows ls vs b cap σ' g' dI m,(σ.k key).ch = .row es ms rows/\r<rows.length/\(k m ls).wp cf σ' dI Q/\R n σ' g' I a w/\gM σ.k g w I σ'.k g' w I/\σ'.s=σ.s /\
   (σ'.k (jc key)).bQ=m/\(σ'.k (jc key)).ch = .box ls/\g.h key = .slice (some ⟨b,0,none⟩) rows.length cap/\g'.h (jc key) = .pointer (some ⟨b,r * es.length,none⟩)/\ls.length=es.length /\
   bO w b (r * es.length) vs/\cu σ'.k g' w I ls vs/\g'.D=g.D:=by
 simp only [Jo,Prog.wp] at h
 cases hc:(σ.k key).ch with
 | box _=>rw [hc] at h; exact h.elim
 | fz _ _=>rw [hc] at h; exact h.elim
 | gone=>rw [hc] at h; exact h.elim
 | K9 _ _ _=>rw [hc] at h; exact h.elim
 | hol _ _ _ _ _=>rw [hc] at h; exact h.elim
 | row es ms rows =>
  rw [hc] at h
  simp only [Prog.wp] at h
  obtain ⟨hr,h⟩:=h
  have hr:=of_decide_eq_true hr
  obtain ⟨σ1,t1,h,hs1,hoth,hown⟩:=BR h
  have hch:=hR.vI key
  rw [hc] at hch
  obtain ⟨hes,hlen,hown0⟩:=aV.cases hch
  rcases hown0 with ⟨-,rfl,-⟩ | ⟨b,cap,c,el,fz,bs,hh,hcap,hblk,hsz,hfz,hrows,hnd,hF⟩
  ·simp at hr
  obtain ⟨B1,B2',rfl,Uo,hrest⟩:=hrows.split r
  have hdr:rows.drop r=rows[r]::rows.drop (r+1):=List.drop_eq_getElem_cons hr
  rw [hdr] at hrest
  obtain ⟨Br,B2,rfl,hrow,hrow2⟩:=hrest
  rw [List.drop_drop,show r * es.length+es.length=(r+1) * es.length from by rw [Nat.add_mul,Nat.one_mul]] at hrow2
  obtain ⟨Bs,hBl,rfl,afI⟩:=hrow.each
  have afJ:rows.getD r []=rows[r]:=by simp [hr]
  rw [afJ] at h hown
  generalize hvs:(c.toList.drop (r * es.length)).take es.length=vs at hrow afI
  have hm:(r+1) * es.length<=cap * es.length:=Nat.mul_le_mul_right _ (by omega)
  rw [<-hsz,Nat.add_mul,Nat.one_mul] at hm
  have hvl:vs.length=es.length:=(au.len es hrow).1
  have hbs : ∀ x∈B1++(Bs.flatten++B2),∃ c el fz,Block w x c el fz:=fun x hx=>by
   rcases List.mem_append.1 hx with hx | hx
   ·exact oQ (I:=I) (fun vs ds bs h=>au.blocks es h) _ Uo x hx
   ·rcases List.mem_append.1 hx with hx | hx
    ·exact au.blocks es hrow x hx
    ·exact oQ (I:=I) (fun vs ds bs h=>au.blocks es h) _ hrow2 x hx
  let ol:Nat->Bool:=fun j=>adZ (es.getD j default) (ms.getD j .F)
  let T:Key->Prop:=fun u=>u=key\/u=jc key \/ ∃ j,j<es.length/\ol j=true/\u=nZ key j
  have hT0 : ∀ u,¬ T u->u≠key/\u≠jc key /\ ∀ j,j<es.length->ol j=true->u≠nZ key j:=fun u hu=>⟨fun e=>hu (.inl e),fun e=>hu (.inr (.inl e)),fun j h1 h2 e=>hu (.inr (.inr ⟨j,h1,h2,e⟩))⟩
  let Fk:aB:=fun b' o'=>(b'=b/\o'<c.size /\ ¬ (r * es.length<=o'/\o'<(r+1) * es.length))\/FB w (B1++B2) b' o'
  let Fb:aB:=fun b' o'=>b'=b/\r * es.length<=o'/\o'<r * es.length+es.length
  let hd:Value:=.pointer (some ⟨b,r * es.length,none⟩)
  let jOf:Key->Nat:=fun u=>match u with | _::j::_=>j | _=>0
  let g':Gh:=⟨fun u=>if u=key then g.h key else if u=jc key then hd else if T u then vs.getD (jOf u) .nilIface else g.h u,
   fun u=>if u=key then Fk else if u=jc key then Fb else if T u then FB w (Bs.getD (jOf u) []) else g.F u,g.D⟩
  have gk:g'.h key=g.h key/\g'.F key=Fk:=by simp [g']
  have gb:g'.h (jc key)=hd/\g'.F (jc key)=Fb:=by simp [g',Wq]
  have gc : ∀ j,j<es.length->ol j=true->g'.h (nZ key j)=vs.getD j .nilIface/\g'.F (nZ key j)=FB w (Bs.getD j []):=fun j h1 h2=>by
   have ht:T (nZ key j):=.inr (.inr ⟨j,h1,h2,rfl⟩)
   simp only [g',if_neg (OC key j),if_neg (Un key j),if_pos ht]
   constructor <;> first | rfl | trivial
  have go_ : ∀ u,¬ T u->g'.h u=g.h u/\g'.F u=g.F u:=fun u hu=>by
   obtain ⟨h1,h2,-⟩:=hT0 u hu
   simp only [g',if_neg h1,if_neg h2,if_neg hu]
   constructor <;> first | rfl | trivial
  let σ2:S:=σ1.bK (jc key) ⟨.box (nT σ.k key 0 es ms rows[r]),(σ.k (jc key)).bQ+1,(σ.k (jc key)).cv+1⟩
  have aqy:nT (σ.bK key ⟨.hol es ms rows r ((σ.k (jc key)).bQ+1),(σ.k key).bQ,(σ.k key).cv+1⟩).k key 0 es ms rows[r]=nT σ.k key 0 es ms rows[r]:=DK _ _ _ _ fun i _=>by rw [aO _ _ (OC key i)]
  rw [aqy] at h
  have k1:σ2.k key=⟨.hol es ms rows r ((σ.k (jc key)).bQ+1),(σ.k key).bQ,(σ.k key).cv+1⟩:=by
   rw [aO _ _ (Wq key).symm,hoth key fun i _ _ _ e=>OC key i e.symm,aP]
  have k2:σ2.k (jc key)=⟨.box (nT σ.k key 0 es ms rows[r]),(σ.k (jc key)).bQ+1,(σ.k (jc key)).cv+1⟩:=aP _ _ _
  have k3 : ∀ j (hj:j<es.length) es' ms',es[j] = .sl es'->ms.getD j .F = .O ms'->σ2.k (nZ key j)=⟨.row es' ms' (rows[r].getD j dflt).rows,(σ.k (nZ key j)).bQ+1,(σ.k (nZ key j)).cv+1⟩:=fun j hj es' ms' he hm'=>by
   have:=hown j hj es' ms' he hm'
   rw [Nat.zero_add,aO _ _ (OC key j)] at this
   rw [aO _ _ (Un key j)]; exact this
  have kc : ∀ j,j<es.length->ol j=true->∃ es' ms',∃ hj:j<es.length,es[j] = .sl es'/\ms.getD j .F = .O ms':=fun j hj ho=>by
   have e1:es.getD j default=es[j]:=by simp [hj]
   simp only [ol,e1] at ho
   cases he:es[j] with
   | sc s=>rw [he] at ho; simp [adZ] at ho
   | sl es' =>
    rw [he] at ho
    cases hm':ms.getD j .F with
    | F=>rw [hm'] at ho; simp [adZ] at ho
    | O ms'=>exact ⟨es',ms',hj,he,rfl⟩
  have ko : ∀ u,¬ T u->σ2.k u=σ.k u:=fun u hu=>by
   obtain ⟨h1,h2,h3⟩:=hT0 u hu
   rw [aO _ _ h2,hoth u fun i _ hi2 ho=>h3 i (by omega) (by simpa [ol] using ho),aO _ _ h1]
  have hFc : ∀ j b' o',FB w (Bs.getD j []) b' o'->g.F key b' o':=fun j b' o' hf=>(hF b' o').2 (.inr (tZ (fun x hx=>by simp [CJ hx]) b' o' hf))
  have hFk : ∀ b' o',Fk b' o'->g.F key b' o':=fun b' o' hf=>(hF b' o').2 (hf.imp (fun h=>⟨h.1,h.2.1⟩) fun h=>tZ (fun x hx=>by rcases List.mem_append.1 hx with hx | hx <;> simp [hx]) b' o' h)
  have hFb : ∀ b' o',Fb b' o'->g.F key b' o':=fun b' o' hf=>(hF b' o').2 (.inl ⟨hf.1,by have:=hf.2.2; omega⟩)
  have hFT : ∀ u,T u->∀ b' o',g'.F u b' o'->g.F key b' o':=fun u hu b' o' hf=>by
   rcases hu with rfl | rfl | ⟨j,h1,h2,rfl⟩
   ·rw [gk.2] at hf; exact hFk b' o' hf
   ·rw [gb.2] at hf; exact hFb b' o' hf
   ·rw [(gc j h1 h2).2] at hf; exact hFc j b' o' hf
  have hlive:Live (σ.k key).ch:=by rw [hc]; trivial
  obtain ⟨hn1,hn2⟩:=hnd
  obtain ⟨hn3,hn4,hn5⟩:=kY.1 hn2
  obtain ⟨hn6,hn7,hn8⟩:=kY.1 hn4
  have hbB : ∀ l:List Nat,(∀ x∈l,x∈B1++(Bs.flatten++B2))->∀ o',FB w l b o'->False:=fun l hl o' hf=>by
   have:=hn1 (hl b hf.1)
   have:=hf.2
   omega
  have aob:aB.apart Fk Fb:=fun b' o' h1 h2=>by
   rcases h1 with ⟨_,_,h1⟩ | h1
   ·exact h1 ⟨h2.2.1,by rw [Nat.add_mul,Nat.one_mul]; exact h2.2.2⟩
   ·obtain ⟨rfl,-⟩:=h2
    exact hbB _ (fun x hx=>by rcases List.mem_append.1 hx with hx | hx <;> simp [hx]) o' h1
  have aoc : ∀ j,aB.apart Fk (FB w (Bs.getD j [])):=fun j b' o' h1 h2=>by
   rcases h1 with ⟨rfl,_,_⟩ | h1
   ·exact hbB _ (fun x hx=>by simp [CJ hx]) o' h2
   ·rcases ni.1 h1 with h1 | h1
    ·exact wY.2 hn5 b' o' h1 (tZ (fun x hx=>by simp [CJ hx]) b' o' h2)
    ·exact wY.2 hn8 b' o' (tZ (fun x hx=>CJ hx) b' o' h2) h1
  have aod : ∀ j,aB.apart Fb (FB w (Bs.getD j [])):=fun j b' o' h1 h2=>by
   obtain ⟨rfl,-⟩:=h1
   exact hbB _ (fun x hx=>by simp [CJ hx]) o' h2
  have hcells:bO w b (r * es.length) vs:=by
   rw [<-hvs]
   refine bO.of_block hblk _ _ fun j hj=>?_
   simp only [List.length_take,List.length_drop,Array.length_toList] at hj
   simp only [List.getElem_take,List.getElem_drop,Array.getElem_toList]
   exact Array.getElem?_eq_getElem (by omega)
  have Ws : ∀ κ':Key->KE,κ'=σ2.k->cu κ' g' w I (nT σ.k key 0 es ms rows[r]) vs:=fun κ' e=>by
   subst e
   refine cu.afH (by rw [qB,hvl]) fun j hj=>?_
   rw [qB] at hj
   rw [PD _ _ _ _ _ _ _ hj,Nat.zero_add]
   have hcell:=afI j hj
   have hsg:=hcell.single
   have e1:es.getD j default=es[j]:=by simp [hj]
   rw [e1]
   cases he:es[j] with
   | sc s =>
    rw [he] at hcell
    simp only
    unfold bU at hcell
    exact ⟨hsg,s,rfl,hcell.1⟩
   | sl es' =>
    rw [he] at hcell
    cases hm':ms.getD j .F with
    | F =>
     rw [hm'] at hcell
     simp only
     unfold bU at hcell
     exact ⟨hsg,trivial,uY _,fun _=>aJ.mono (nN _) (fun _ _ _=>rfl) _ hcell.1⟩
    | O ms' =>
     simp only
     have ho:ol j=true:=by simp only [ol,e1,he,hm']; rfl
     refine ⟨hsg,trivial,?_,fun _=>((gc j hj ho).1).symm⟩
     rw [k3 j hj es' ms' he hm']; exact Nat.le_refl _
  obtain ⟨hR',ev⟩:=hR.touch (σ':=σ2) (g':=g') (I':=I) (w':=w) T (g.F key) hs1 rfl (fun u hu=>⟨ko u hu,(go_ u hu).1,(go_ u hu).2⟩) (fun u hu=>by
    rcases hu with rfl | rfl | ⟨j,h1,h2,rfl⟩
    ·rw [k1]; exact ⟨Nat.lt_succ_self _,Nat.le_refl _,fun _=>⟨gk.1,by rw [hc]; rfl⟩⟩
    ·rw [k2]; exact ⟨Nat.lt_succ_self _,Nat.le_succ _,fun h=>by have h:(σ.k (jc key)).bQ+1=(σ.k (jc key)).bQ:=h; omega⟩
    ·obtain ⟨es',ms',hj,he,hm'⟩:=kc j h1 h2
     rw [k3 j hj es' ms' he hm']; exact ⟨Nat.lt_succ_self _,Nat.le_succ _,fun h=>by have h:(σ.k (nZ key j)).bQ+1=(σ.k (nZ key j)).bQ:=h; omega⟩)
   (fun u hu hp hl=>by
    rcases hu with rfl | rfl | ⟨j,h1,h2,rfl⟩
    ·rw [gk.1]; exact hR.x.par u hp hlive
    ·exact absurd hp (yA n.big (by omega) _)
    ·exact absurd hp (yA n.big (by omega) _))
   (fun u hu _ b' o' hf=>.inl (hFT u hu b' o' hf))
   (fun u v hu hv _ _ hne=>by
    rcases hu with rfl | rfl | ⟨j,h1,h2,rfl⟩ <;> rcases hv with rfl | rfl | ⟨i,h3,h4,rfl⟩
    ·exact absurd rfl hne
    ·rw [gk.2,gb.2]; exact aob
    ·rw [gk.2,(gc i h3 h4).2]; exact aoc i
    ·rw [gk.2,gb.2]; exact fun b' o' h1 h2=>aob b' o' h2 h1
    ·exact absurd rfl hne
    ·rw [gb.2,(gc i h3 h4).2]; exact aod i
    ·rw [gk.2,(gc j h1 h2).2]; exact fun b' o' h1 h2=>aoc j b' o' h2 h1
    ·rw [gb.2,(gc j h1 h2).2]; exact fun b' o' h1 h2=>aod j b' o' h2 h1
    ·rw [(gc j h1 h2).2,(gc i h3 h4).2]; exact Po hn6 j i fun e=>hne (by rw [e]))
   (fun u hu hl=>hR.sep u key hl hlive (hT0 u hu).1) (hR.jP key hlive) (hR.x.wW key hlive) (Keeps.refl _ _) (fun _ _ h=>h) (fun _ _ h=>.inl h)
   (fun u hu _ b' o' hf hi=>hR.jP key hlive b' o' (hFT u hu b' o' hf) hi) hR.zu
   (fun ev u hu=>by
    rcases hu with rfl | rfl | ⟨j,h1,h2,rfl⟩
    ·rw [k1]
     show Pf _ _ _ _ _ _ _ _ _ _ (g'.h _) (g'.F _)
     rw [gk.1,gk.2]
     refine ⟨hes,hlen,hr,b,cap,c,el,fz,B1,B2,hh,hcap,hblk,hsz,hfz,Uo,hrow2,⟨fun hm=>hn1 (by rcases List.mem_append.1 hm with hm | hm <;> simp [hm]),Dx (fun x=>?_) hn2⟩,fun _ _=>Iff.rfl,?_,fun _=>gb.1⟩
     ·simp only [List.count_append]; omega
     ·rw [k2]; exact Nat.le_refl _
    ·rw [k2]
     show mZ _ _ _ _ _ (g'.h _) (g'.F _)
     rw [gb.1,gb.2]
     refine ⟨b,r * es.length,c,el,fz,rfl,hblk,by rw [qB]; omega,fun j hj=>hfz _ (by rw [qB] at hj; omega),fun b' o'=>by rw [qB],?_⟩
     rw [qB,hvs]
     exact Ws _ rfl
    ·obtain ⟨es',ms',hj,he,hm'⟩:=kc j h1 h2
     rw [k3 j hj es' ms' he hm']
     show aV _ _ _ _ _ (g'.h _) (g'.F _)
     rw [(gc j h1 h2).1,(gc j h1 h2).2]
     have hcell:=afI j hj
     rw [he,hm'] at hcell
     have hrw:rows[r].getD j dflt = .l (rows[r].getD j dflt).rows:=by
      have hcell':=hcell
      unfold bU at hcell'
      obtain ⟨rr,h3,-⟩:=hcell'
      rw [h3]; rfl
     rw [hrw] at hcell
     exact ⟨_,Pn hn6 j,hcell,fun _ _=>Iff.rfl⟩)
  refine ⟨es,ms,rows,_,vs,b,cap,σ2,g',_,_,rfl,hr,h,hR',ev,hs1,by rw [k2],by rw [k2],hh,gb.1,qB _ _ _ _ _ _,hcells,Ws _ rfl,rfl⟩
theorem cu.len' {κ:Key->KE} : ∀ {ls:List Leaf} {vs:List Value},cu κ g w I ls vs->ls.length=vs.length
 | [],[],_=>rfl
 | _::ls,_::vs,h=>by simp [cu.len' h.2]
 | [],_::_,h=>h.elim
 | _::_,[],h=>h.elim
theorem mZ.at' {κ:Key->KE} {ls:List Leaf} {h:Value} {F:aB} (hb:mZ κ g w I ls h F) : ∃ cs,(∃ b o c el fz,h = .pointer (some ⟨b,o,none⟩)/\Block w b c el fz/\o+ls.length<=c.size/\cs=(c.toList.drop o).take ls.length)/\cu κ g w I ls cs:=by
 obtain ⟨b,o,c,el,fz,h1,h2,h3,h4,h5,h6⟩:=hb
 exact ⟨_,⟨b,o,c,el,fz,h1,h2,h3,rfl⟩,h6⟩
theorem MC (hR:R n σ g I a w) {key:Key} {p:Prog} (h:(Jp key p).wp cf σ tr Q) :
  ∃ σ' g' I' dI,p.wp cf σ' dI Q/\R n σ' g' I' a w/\gM σ.k g w I σ'.k g' w I'/\σ'.s=σ.s:=by
 simp only [Jp,Prog.wp] at h
 split at h
 ·rename_i es ms _ _ j ls hc0 hb0
  obtain ⟨hj0,h⟩:=h
  have hj0:=Nat.eq_of_beq_eq_true hj0
  have ajU:=hR.vI (jc key)
  rw [hb0] at ajU
  obtain ⟨cs0,aqB,aoe⟩:=mZ.at' ajU
  obtain ⟨σ1,I1,t1,ds,bs,mE,pE,hds,hnd,hz,-,hs1,h⟩:=Gm hR DF.none aoe h
  simp only [XO,Prog.wp] at h
  split at h
  ·rename_i es1 ms1 rows r j1 ls1 hc hb
   obtain ⟨hch,h⟩:=h
   simp only [Bool.and_eq_true] at hch
   obtain ⟨⟨⟨hj1,hll⟩,he1⟩,hm1⟩:=hch
   have hj1:=Nat.eq_of_beq_eq_true hj1
   have hll:=Nat.eq_of_beq_eq_true hll
   have:=LT.bP he1
   subst this
   have:=M.bP hm1
   subst this
   have aof:=mE.vI key
   rw [hc] at aof
   obtain ⟨hes,hlen,hr,b,cap,c,el,fz,B1,B2,hh,hcap,hblk,hsz,hfz,Uo,hrow2,afK,hF,-,xY⟩:=aof
   have xY:=xY hj1
   have hbx:=mE.vI (jc key)
   rw [hb] at hbx
   obtain ⟨b2,o2,c2,el2,fz2,hh2,hblk2,hsz2,-,hF2,-⟩:=hbx
   rw [xY] at hh2
   cases hh2
   have hcc:c2=c:=by
    have h1:w.heap[b]? = some (.cells c el fz):=hblk
    have h2:w.heap[b]? = some (.cells c2 el2 fz2):=hblk2
    rw [h1] at h2
    cases h2; rfl
   subst hcc
   have hdl:=au.len es hds
   have hcs:cs0=(c2.toList.drop (r * es.length)).take es.length:=by
    obtain ⟨b3,o3,c3,el3,fz3,hh3,hblk3,-,rfl⟩:=aqB
    rw [xY] at hh3
    cases hh3
    have h1:w.heap[b]? = some (.cells c2 el2 fz2):=hblk2
    have h2:w.heap[b]? = some (.cells c3 el3 fz3):=hblk3
    rw [h1] at h2
    cases h2
    have:=cu.len' aoe
    rw [hdl.1] at this
    rw [this]
   have hm:(r+1) * es.length<=cap * es.length:=Nat.mul_le_mul_right _ (by omega)
   rw [<-hsz,Nat.add_mul,Nat.one_mul] at hm
   have hlk:Live (σ1.k key).ch:=by rw [hc]; trivial
   have hlb:Live (σ1.k (jc key)).ch:=by rw [hb]; trivial
   let Z:aB:=fun b' o'=>g.F key b' o'\/g.F (jc key) b' o'\/FB w bs b' o'
   let F':aB:=fun b' o'=>(b'=b/\o'<c2.size)\/FB w (B1++(bs++B2)) b' o'
   have hFZ : ∀ b' o',F' b' o'->Z b' o':=fun b' o' hf=>by
    rcases hf with ⟨rfl,hf⟩ | hf
    ·by_cases hin:r * es.length<=o'/\o'<(r+1) * es.length
     ·exact .inr (.inl ((hF2 b' o').2 ⟨rfl,hin.1,by rw [hll]; have:=hin.2; rw [Nat.add_mul,Nat.one_mul] at this; exact this⟩))
     ·exact .inl ((hF b' o').2 (.inl ⟨rfl,hf,hin⟩))
    ·rcases ni.1 hf with hf | hf
     ·exact .inl ((hF b' o').2 (.inr (ni.2 (.inl hf))))
     ·rcases ni.1 hf with hf | hf
      ·exact .inr (.inr hf)
      ·exact .inl ((hF b' o').2 (.inr (ni.2 (.inr hf))))
   have hz' : ∀ u,Live (σ1.k u).ch->aB.apart (g.F u) (FB w bs):=fun u hu b' o' h1 h2=>hz.live u hu b' o' h1 (.inr h2)
   have aqC:fP w (b::(B1++(bs++B2))):=by
    obtain ⟨h1,h2⟩:=afK
    obtain ⟨h3,h4,h5⟩:=kY.1 h2
    have hbk : ∀ l:List Nat,(∀ b' o',FB w l b' o'->g.F key b' o')->∀ x∈l,x∈bs->rZ w x=0:=fun l hl=>wY.1 fun b' o' h6 h7=>hz' key hlk b' o' (hl b' o' h6) h7
    have hb1:=hbk B1 fun b' o' h6=>(hF b' o').2 (.inr (ni.2 (.inl h6)))
    have hb2:=hbk B2 fun b' o' h6=>(hF b' o').2 (.inr (ni.2 (.inr h6)))
    refine ⟨fun hm=>?_,kY.2 ⟨h3,kY.2 ⟨hnd,h4,fun x h6 h7=>hb2 x h7 h6⟩,fun x h6 h7=>?_⟩⟩
    ·rcases List.mem_append.1 hm with hm | hm
     ·exact h1 (by simp [hm])
     ·rcases List.mem_append.1 hm with hm | hm
      ·rcases Nat.eq_zero_or_pos (rZ w b) with h8 | h8
       ·exact h8
       ·exfalso
        rw [iU hblk] at h8
        have hpos:0<es.length:=List.length_pos_iff.2 hes
        refine hz' (jc key) hlb b (r * es.length) ((hF2 _ _).2 ⟨rfl,Nat.le_refl _,by omega⟩) ⟨hm,by rw [iU hblk]; omega⟩
      ·exact h1 (by simp [hm])
    ·rcases List.mem_append.1 h7 with h7 | h7
     ·exact hb1 x h6 h7
     ·exact h5 x h6 h7
   have alA:aN (fun vs ds bs=>au w I1 es ms vs ds bs) es.length (rows.set r ds) c2.toList (B1++(bs++B2)):=by
    refine aN.join r (by simp; omega) ?_ ?_
    ·rw [List.take_set_of_le (Nat.le_refl _)]; exact Uo
    ·rw [List.drop_set,if_neg (by omega),Nat.sub_self,List.drop_eq_getElem_cons hr,List.set_cons_zero]
     refine ⟨bs,B2,rfl,?_,?_⟩
     ·rw [<-hcs]; exact hds
     ·rw [List.drop_drop,show r * es.length+es.length=(r+1) * es.length from by rw [Nat.add_mul,Nat.one_mul]]; exact hrow2
   let e:KE:=⟨.row es ms (rows.set r ds),(σ1.k key).bQ,(σ1.k key).cv+1⟩
   let eb:KE:=⟨.gone,(σ1.k (jc key)).bQ+1,(σ1.k (jc key)).cv+1⟩
   let σ2:S:=(σ1.bK (jc key) eb).bK key e
   have k1:σ2.k key=e:=aP _ _ _
   have k2:σ2.k (jc key)=eb:=by rw [aO _ _ (Wq key),aP]
   have gk:(g.set key (g.h key) F').h key=g.h key/\(g.set key (g.h key) F').F key=F':=⟨Gh.oz _ _ _ _,Gh.jR _ _ _ _⟩
   obtain ⟨hR',ev⟩:=mE.touch (σ':=σ2) (g':=g.set key (g.h key) F') (I':=I1) (w':=w) (fun u=>u=key\/u=jc key) Z rfl rfl
    (fun u hu=>by
     have h1:u≠key:=fun e=>hu (.inl e)
     have h2:u≠jc key:=fun e=>hu (.inr e)
     exact ⟨by rw [aO _ _ h1,aO _ _ h2],Gh.xS _ _ _ h1,Gh.uZ _ _ _ h1⟩)
    (fun u hu=>by
     rcases hu with rfl | rfl
     ·rw [k1]; exact ⟨Nat.lt_succ_self _,Nat.le_refl _,fun _=>⟨gk.1,by rw [hc]; rfl⟩⟩
     ·rw [k2]; exact ⟨Nat.lt_succ_self _,Nat.le_succ _,fun h=>by have h:(σ1.k (jc key)).bQ+1=(σ1.k (jc key)).bQ:=h; omega⟩)
    (fun u hu hp hl=>by
     rcases hu with rfl | rfl
     ·rw [gk.1]; exact mE.x.par u hp hlk
     ·exact absurd hp (yA n.big (by omega) _))
    (fun u hu hl b' o' hf=>by
     rcases hu with rfl | rfl
     ·rw [gk.2] at hf; exact .inl (hFZ b' o' hf)
     ·rw [k2] at hl; exact hl.elim)
    (fun u v hu hv hlu hlv hne=>by
     rcases hu with rfl | rfl
     ·rcases hv with rfl | rfl
      ·exact absurd rfl hne
      ·rw [k2] at hlv; exact hlv.elim
     ·rw [k2] at hlu; exact hlu.elim)
    (fun u hu hl b' o' h1 h2=>by
     have hn1:u≠key:=fun e=>hu (.inl e)
     have hn2:u≠jc key:=fun e=>hu (.inr e)
     rcases h2 with h2 | h2 | h2
     ·exact mE.sep u key hl hlk hn1 b' o' h1 h2
     ·exact mE.sep u (jc key) hl hlb hn2 b' o' h1 h2
     ·exact hz' u hl b' o' h1 h2)
    (fun b' o' h1 h2=>by
     rcases h1 with h1 | h1 | h1
     ·exact mE.jP key hlk b' o' h1 h2
     ·exact mE.jP _ hlb b' o' h1 h2
     ·exact hz.jP b' o' (.inr h1) h2)
    (fun b' o' h1 h2=>by
     rcases h1 with h1 | h1 | h1
     ·exact mE.x.wW key hlk b' o' h1 h2
     ·exact mE.x.wW _ hlb b' o' h1 h2
     ·exact hz.wW b' o' (.inr h1) h2)
    (Keeps.refl _ _) (fun _ _ h=>h) (fun _ _ h=>.inl h)
    (fun u hu hl b' o' hf hi=>by
     rcases hu with rfl | rfl
     ·rw [gk.2] at hf
      rcases hFZ b' o' hf with h1 | h1 | h1
      ·exact mE.jP _ hlk b' o' h1 hi
      ·exact mE.jP _ hlb b' o' h1 hi
      ·exact hz.jP b' o' (.inr h1) hi
     ·rw [k2] at hl; exact hl.elim)
    mE.zu
    (fun ev u hu=>by
     rcases hu with rfl | rfl
     ·rw [k1]
      show aV _ _ _ _ _ ((g.set _ (g.h _) F').h _) ((g.set _ (g.h _) F').F _)
      rw [gk.1,gk.2,hh]
      have:=aV.mk' (w:=w) (I:=I1) (es:=es) (ms:=ms) (rows:=rows.set r ds) (F:=F') hes (by rw [List.length_set]; exact hlen) (by rw [List.length_set]; exact hcap) hblk hsz hfz alA aqC (fun _ _=>Iff.rfl)
      rw [List.length_set] at this
      exact this
     ·rw [k2]; trivial)
   exact ⟨σ2,_,I1,_,h,hR',pE.trans ev,hs1⟩
  ·exact h.elim
 ·exact h.elim
theorem aaQ (hR:R n σ g I a w) {key:Key} {m:Nat} {k:Nat->Prog} (h:(VO key m k).wp cf σ tr Q) :
  ∃ ls σ' g' dI i,(σ.k key).ch = .box ls/\m<=ls.length/\(k i).wp cf σ' dI Q/\R n σ' g' I a w/\gM σ.k g w I σ'.k g' w I/\σ'.s=σ.s /\
   (σ'.k (og key)).bQ=i/\(σ'.k (og key)).ch = .box (ls.take m)/\g'.h (og key)=g.h key:=by
 simp only [VO,Prog.wp] at h
 split at h
 ·rename_i ls hc
  obtain ⟨hm,h⟩:=h
  have hm:=Nat.le_of_ble_eq_true hm
  have hbx:=hR.vI key
  rw [hc] at hbx
  obtain ⟨b,o,c,el,fz,hh,hblk,hsz,hfz,hF,hls⟩:=hbx
  let Fk:aB:=fun b' o'=>b'=b/\o+m<=o'/\o'<o+m+(ls.drop m).length
  let Fb:aB:=fun b' o'=>b'=b/\o<=o'/\o'<o+(ls.take m).length
  have hl1:(ls.take m).length=m:=by rw [List.length_take]; omega
  have hl2:(ls.drop m).length=ls.length-m:=List.length_drop ..
  let g':Gh:=(g.set key (g.h key) Fk).set (og key) (g.h key) Fb
  have gk:g'.h key=g.h key/\g'.F key=Fk:=⟨by rw [Gh.xS _ _ _ (OD key).symm,Gh.oz],by rw [Gh.uZ _ _ _ (OD key).symm,Gh.jR]⟩
  have gb:g'.h (og key)=g.h key/\g'.F (og key)=Fb:=⟨Gh.oz _ _ _ _,Gh.jR _ _ _ _⟩
  let e:KE:=⟨.K9 m ((σ.k (og key)).bQ+1) (ls.drop m),(σ.k key).bQ,(σ.k key).cv+1⟩
  let eb:KE:=⟨.box (ls.take m),(σ.k (og key)).bQ+1,(σ.k (og key)).cv+1⟩
  let σ2:S:=(σ.bK key e).bK (og key) eb
  have k1:σ2.k key=e:=by rw [aO _ _ (OD key).symm,aP]
  have k2:σ2.k (og key)=eb:=aP _ _ _
  have hlk:Live (σ.k key).ch:=by rw [hc]; trivial
  have hFT : ∀ u,(u=key\/u=og key)->∀ b' o',g'.F u b' o'->g.F key b' o':=fun u hu b' o' hf=>by
   rcases hu with rfl | rfl
   ·rw [gk.2] at hf; exact (hF b' o').2 ⟨hf.1,by have:=hf.2; omega,by have:=hf.2; omega⟩
   ·rw [gb.2] at hf; exact (hF b' o').2 ⟨hf.1,by have:=hf.2; omega,by have:=hf.2; omega⟩
  have hap:aB.apart Fk Fb:=fun b' o' h1 h2=>by have:=h1.2; have:=h2.2; omega
  obtain ⟨hR',ev⟩:=hR.touch (σ':=σ2) (g':=g') (I':=I) (w':=w) (fun u=>u=key\/u=og key) (g.F key) rfl rfl
   (fun u hu=>by
    have h1:u≠key:=fun e=>hu (.inl e)
    have h2:u≠og key:=fun e=>hu (.inr e)
    exact ⟨by rw [aO _ _ h2,aO _ _ h1],by rw [Gh.xS _ _ _ h2,Gh.xS _ _ _ h1],by rw [Gh.uZ _ _ _ h2,Gh.uZ _ _ _ h1]⟩)
   (fun u hu=>by
    rcases hu with rfl | rfl
    ·rw [k1]; exact ⟨Nat.lt_succ_self _,Nat.le_refl _,fun _=>⟨gk.1,by rw [hc]; rfl⟩⟩
    ·rw [k2]; exact ⟨Nat.lt_succ_self _,Nat.le_succ _,fun h=>by have h:(σ.k (og key)).bQ+1=(σ.k (og key)).bQ:=h; omega⟩)
   (fun u hu hp hl=>by
    rcases hu with rfl | rfl
    ·rw [gk.1]; exact hR.x.par u hp hlk
    ·exact absurd hp (yA n.big (by omega) _))
   (fun u hu hl b' o' hf=>.inl (hFT u hu b' o' hf))
   (fun u v hu hv hlu hlv hne=>by
    rcases hu with rfl | rfl
    ·rcases hv with rfl | rfl
     ·exact absurd rfl hne
     ·rw [gk.2,gb.2]; exact hap
    ·rcases hv with rfl | rfl
     ·rw [gk.2,gb.2]; exact fun b' o' h1 h2=>hap b' o' h2 h1
     ·exact absurd rfl hne)
   (fun u hu hl=>hR.sep u key hl hlk fun e=>hu (.inl e)) (hR.jP key hlk) (hR.x.wW key hlk) (Keeps.refl _ _) (fun _ _ h=>h) (fun _ _ h=>.inl h)
   (fun u hu hl b' o' hf hi=>hR.jP key hlk b' o' (hFT u hu b' o' hf) hi) hR.zu
   (fun ev u hu=>by
    have aog:=ev.XQ hls
    rcases hu with rfl | rfl
    ·rw [k1]
     show Pe _ _ _ _ _ _ _ _ (g'.h _) (g'.F _)
     rw [gk.1,gk.2]
     refine ⟨⟨b,o,c,el,fz,hh,hblk,by omega,fun j hj=>hfz j (by omega),fun _ _=>Iff.rfl,?_⟩,?_,fun _=>gb.1⟩
     ·have:=cu.drop m aog
      rw [List.drop_take,List.drop_drop] at this
      rw [hl2]; exact this
     ·rw [k2]; exact Nat.le_refl _
    ·rw [k2]
     show mZ _ _ _ _ _ (g'.h _) (g'.F _)
     rw [gb.1,gb.2]
     refine ⟨b,o,c,el,fz,hh,hblk,by omega,fun j hj=>hfz j (by omega),fun _ _=>Iff.rfl,?_⟩
     have:=cu.take m aog
     rw [List.take_take,Nat.min_eq_left hm] at this
     rw [hl1]; exact this)
  exact ⟨ls,σ2,g',_,_,hc,hm,h,hR',ev,rfl,by rw [k2],by rw [k2],gb.1⟩
 ·exact h.elim
theorem X8 (hR:R n σ g I a w) {key:Key} {p:Prog} (h:(OV key p).wp cf σ tr Q) :
  ∃ σ' g' I' dI,p.wp cf σ' dI Q/\R n σ' g' I' a w/\gM σ.k g w I σ'.k g' w I'/\σ'.s=σ.s:=by
 simp only [OV,Prog.wp] at h
 split at h
 ·rename_i m j rest ls hc hb
  obtain ⟨hch,h⟩:=h
  simp only [Bool.and_eq_true] at hch
  have hl:=Nat.eq_of_beq_eq_true hch.1
  have hj:=Nat.eq_of_beq_eq_true hch.2
  have h1:=hR.vI key
  rw [hc] at h1
  obtain ⟨⟨b,o,c,el,fz,hh,hblk,hsz,hfz,hF,hls⟩,-,xY⟩:=h1
  have xY:=xY hj
  have h2:=hR.vI (og key)
  rw [hb] at h2
  obtain ⟨b2,o2,c2,el2,fz2,hh2,hblk2,hsz2,aur,hF2,aqD⟩:=h2
  rw [xY,hh] at hh2
  cases hh2
  have hcc:w.heap[b]? = some (.cells c2 el2 fz2):=hblk2
  have aqE:w.heap[b]? = some (.cells c el fz):=hblk
  rw [aqE] at hcc
  cases hcc
  let F':aB:=fun b' o'=>b'=b/\o<=o'/\o'<o+(ls++rest).length
  let Z:aB:=fun b' o'=>g.F key b' o'\/g.F (og key) b' o'
  have hFZ : ∀ b' o',F' b' o'->Z b' o':=fun b' o' hf=>by
   have:=hf.2
   rw [List.length_append] at this
   by_cases hlt:o'<o+m
   ·exact .inr ((hF2 b' o').2 ⟨hf.1,by omega,by omega⟩)
   ·exact .inl ((hF b' o').2 ⟨hf.1,by omega,by omega⟩)
  have hlk:Live (σ.k key).ch:=by rw [hc]; trivial
  have hlb:Live (σ.k (og key)).ch:=by rw [hb]; trivial
  let e:KE:=⟨.box (ls++rest),(σ.k key).bQ,(σ.k key).cv+1⟩
  let eb:KE:=⟨.gone,(σ.k (og key)).bQ+1,(σ.k (og key)).cv+1⟩
  let σ2:S:=(σ.bK (og key) eb).bK key e
  have k1:σ2.k key=e:=aP _ _ _
  have k2:σ2.k (og key)=eb:=by rw [aO _ _ (OD key),aP]
  have gk:(g.set key (g.h key) F').h key=g.h key/\(g.set key (g.h key) F').F key=F':=⟨Gh.oz _ _ _ _,Gh.jR _ _ _ _⟩
  obtain ⟨hR',ev⟩:=hR.touch (σ':=σ2) (g':=g.set key (g.h key) F') (I':=I) (w':=w) (fun u=>u=key\/u=og key) Z rfl rfl
   (fun u hu=>by
    have h1:u≠key:=fun e=>hu (.inl e)
    have h2:u≠og key:=fun e=>hu (.inr e)
    exact ⟨by rw [aO _ _ h1,aO _ _ h2],Gh.xS _ _ _ h1,Gh.uZ _ _ _ h1⟩)
   (fun u hu=>by
    rcases hu with rfl | rfl
    ·rw [k1]; exact ⟨Nat.lt_succ_self _,Nat.le_refl _,fun _=>⟨gk.1,by rw [hc]; rfl⟩⟩
    ·rw [k2]; exact ⟨Nat.lt_succ_self _,Nat.le_succ _,fun h=>by have h:(σ.k (og key)).bQ+1=(σ.k (og key)).bQ:=h; omega⟩)
   (fun u hu hp hl=>by
    rcases hu with rfl | rfl
    ·rw [gk.1]; exact hR.x.par u hp hlk
    ·exact absurd hp (yA n.big (by omega) _))
   (fun u hu hl b' o' hf=>by
    rcases hu with rfl | rfl
    ·rw [gk.2] at hf; exact .inl (hFZ b' o' hf)
    ·rw [k2] at hl; exact hl.elim)
   (fun u v hu hv hlu hlv hne=>by
    rcases hu with rfl | rfl
    ·rcases hv with rfl | rfl
     ·exact absurd rfl hne
     ·rw [k2] at hlv; exact hlv.elim
    ·rw [k2] at hlu; exact hlu.elim)
   (fun u hu hl b' o' h1 h2=>h2.elim (hR.sep u key hl hlk (fun e=>hu (.inl e)) b' o' h1) (hR.sep u _ hl hlb (fun e=>hu (.inr e)) b' o' h1))
   (fun b' o' h1 h2=>h1.elim (fun h1=>hR.jP key hlk b' o' h1 h2) fun h1=>hR.jP _ hlb b' o' h1 h2)
   (fun b' o' h1 h2=>h1.elim (fun h1=>hR.x.wW key hlk b' o' h1 h2) fun h1=>hR.x.wW _ hlb b' o' h1 h2)
   (Keeps.refl _ _) (fun _ _ h=>h) (fun _ _ h=>.inl h)
   (fun u hu hl b' o' hf hi=>by
    rcases hu with rfl | rfl
    ·rw [gk.2] at hf
     exact (hFZ b' o' hf).elim (fun h1=>hR.jP _ hlk b' o' h1 hi) fun h1=>hR.jP _ hlb b' o' h1 hi
    ·rw [k2] at hl; exact hl.elim)
   hR.zu
   (fun ev u hu=>by
    rcases hu with rfl | rfl
    ·rw [k1]
     show mZ _ _ _ _ _ ((g.set _ (g.h _) F').h _) ((g.set _ (g.h _) F').F _)
     rw [gk.1,gk.2]
     refine ⟨b,o,c,el,fz,hh,hblk,by rw [List.length_append]; omega,fun j hj=>hfz j (by rw [List.length_append] at hj; omega),fun _ _=>Iff.rfl,?_⟩
     have:=cu.app (ev.XQ aqD) (ev.XQ hls)
     have e1:(c.toList.drop o).take (ls++rest).length=(c.toList.drop o).take ls.length++(c.toList.drop (o+m)).take rest.length:=by
      rw [List.length_append,List.take_add,List.drop_drop,hl]
     rw [e1]; exact this
    ·rw [k2]; trivial)
  exact ⟨σ2,_,I,_,h,hR',ev,rfl⟩
 ·exact h.elim
end
end Go.E

namespace Go.E
open Go
section
variable {w:World} {I:aB}
theorem aN.store {es:List LT} {ms:List M} {rows:List (List T)} {cs vsn:List Value} {Ir:List T} {bs bn:List Nat} {r off:Nat} (h:aN (fun vs ds bs=>au w I es ms vs ds bs) es.length rows cs bs) (hr:r<rows.length)
  (hcs:rows.length * es.length<=cs.length) (hk:off+Ir.length<=es.length) (hn:au w I ((es.drop off).take Ir.length) (ms.drop off) vsn Ir bn) :
  ∃ bs',aN (fun vs ds bs=>au w I es ms vs ds bs) es.length (rows.set r (setMany (rows.getD r []) off Ir)) (cs.take (r * es.length+off)++vsn++cs.drop (r * es.length+off+Ir.length)) bs'/\JC bs' (bs++bn):=by
 obtain ⟨B1,B2',rfl,Uo,hrest⟩:=h.split r
 have hdr:rows.drop r=rows[r]::rows.drop (r+1):=List.drop_eq_getElem_cons hr
 rw [hdr] at hrest
 obtain ⟨Br,B2,rfl,hrow,hrow2⟩:=hrest
 have afJ:rows.getD r []=rows[r]:=by simp [hr]
 rw [afJ]
 have hm:(r+1) * es.length<=rows.length * es.length:=Nat.mul_le_mul_right _ hr
 rw [Nat.add_mul,Nat.one_mul] at hm
 generalize hvs:(cs.drop (r * es.length)).take es.length=vs at hrow
 have hvl:=au.len es hrow
 have hvn:=au.len _ hn
 obtain ⟨bl,brr,rfl,h1,h2⟩:=hrow.split off
 obtain ⟨bo,br,rfl,h3,h4⟩:=h2.split Ir.length
 have hrow':au w I es ms (vs.take off++vsn++vs.drop (off+Ir.length)) (setMany rows[r] off Ir) (bl++bn++br):=by
  rw [Ip Ir rows[r] off (by omega)]
  have e1:(es.take off).length=off:=by rw [List.length_take]; omega
  have e2:((es.drop off).take Ir.length).length=Ir.length:=by rw [List.length_take,List.length_drop]; omega
  have h5:=au.join h1 (by rw [e1]; exact hn)
  rw [List.drop_drop,List.drop_drop,List.drop_drop,List.drop_drop] at h4
  have h6:=au.join h5 (es':=es.drop (off+Ir.length)) (vs':=vs.drop (off+Ir.length)) (ds':=rows[r].drop (off+Ir.length)) (b2:=br) (by rw [List.length_append,e1,e2]; exact h4)
  have e:es.take off++(es.drop off).take Ir.length++es.drop (off+Ir.length)=es:=by
   rw [List.append_assoc,<-List.drop_drop,List.take_append_drop,List.take_append_drop]
  rwa [e] at h6
 have hcells:cs=cs.take (r * es.length)++(vs++cs.drop (r * es.length+es.length)):=by
  rw [<-hvs,<-List.drop_drop,List.take_append_drop,List.take_append_drop]
 have hA:(cs.take (r * es.length)).length=r * es.length:=by rw [List.length_take]; omega
 have hnew:cs.take (r * es.length+off)++vsn++cs.drop (r * es.length+off+Ir.length)=cs.take (r * es.length)++((vs.take off++vsn++vs.drop (off+Ir.length))++cs.drop (r * es.length+es.length)):=by
  have e1:cs.take (r * es.length+off)=cs.take (r * es.length)++vs.take off:=by
   rw [List.take_add,<-hvs,List.take_take,Nat.min_eq_left (by omega)]
  have e2:cs.drop (r * es.length+off+Ir.length)=vs.drop (off+Ir.length)++cs.drop (r * es.length+es.length):=by
   rw [<-hvs,List.drop_take,List.drop_drop,show r * es.length+off+Ir.length=r * es.length+(off+Ir.length) from by omega]
   have:=List.take_append_drop (es.length-(off+Ir.length)) (cs.drop (r * es.length+(off+Ir.length)))
   rw [List.drop_drop,show r * es.length+(off+Ir.length)+(es.length-(off+Ir.length))=r * es.length+es.length from by omega] at this
   exact this.symm
  rw [e1,e2]
  simp only [List.append_assoc]
 rw [hnew]
 have alB:(vs.take off++vsn++vs.drop (off+Ir.length)).length=es.length:=(au.len es hrow').1
 refine ⟨B1++((bl++bn++br)++B2),aN.join r (by simp; omega) ?_ ?_,fun x=>by simp only [List.count_append]; omega⟩
 ·rw [List.take_set_of_le (Nat.le_refl _)]
  refine aN.cells Uo ?_
  rw [List.length_take,Nat.min_eq_left (by omega),List.take_append_of_le_length (by omega),List.take_take,Nat.min_self]
 ·rw [List.drop_set,if_neg (by omega),Nat.sub_self,hdr,List.set_cons_zero]
  have e3:(cs.take (r * es.length)++((vs.take off++vsn++vs.drop (off+Ir.length))++cs.drop (r * es.length+es.length))).drop (r * es.length)=(vs.take off++vsn++vs.drop (off+Ir.length))++cs.drop (r * es.length+es.length):=by
   have:=List.drop_left (l₁:=cs.take (r * es.length)) (l₂:=((vs.take off++vsn++vs.drop (off+Ir.length))++cs.drop (r * es.length+es.length)))
   rw [hA] at this; exact this
  rw [e3]
  refine ⟨bl++bn++br,B2,rfl,?_,?_⟩
  ·rw [List.take_append_of_le_length (by omega),<-alB,List.take_length]; exact hrow'
  ·rw [List.drop_append_of_le_length (by omega),<-alB,List.drop_length,List.nil_append,alB]
   rw [List.drop_drop] at hrow2; exact hrow2
end
section
variable {Γ:Ctx} {P:Program} {cf:FuncId->List Arg->R3 fV}
variable {n:Fr} {σ:S} {g:Gh} {I:aB} {a:Act} {w w':World}
variable {o:Oper} {f:FuncId} {tr:Tr} {Q:S->Tr->Prop} {K:Act->World->Prop} {Qm:Exit->Act->World->Prop}
theorem Uq {t:TypeId} {ti:TI} (hty:vQ Γ P t ti) (hR:R n σ g I a w) {x y:Operand} (hop:o.op = .store t x y) {key:Key} {old ls:List Leaf} {off b oo:Nat} (hc:(σ.k key).ch = .box old)
  (hx:a.eval x = .pointer (some ⟨b,oo+off,none⟩)) (hgh:g.h key = .pointer (some ⟨b,oo,none⟩)) (AP:cu σ.k g w I ls (a.eval y).cells.toList) (hb1:ls.length=ti.aR.length) (hb2:off+ls.length<=old.length) :
  ∃ w',(execOp a.eval o).run P w = .ok .skip w'/\Keeps (fun b o=>¬ g.F key b o) w w' /\
   R n (σ.bK key ⟨.box (old.take off++qx ti.aR ls++old.drop (off+ls.length)),(σ.k key).bQ,(σ.k key).cv+1⟩) g I a w' /\
   gM σ.k g w I (σ.bK key ⟨.box (old.take off++qx ti.aR ls++old.drop (off+ls.length)),(σ.k key).bQ,(σ.k key).cv+1⟩).k g w' I:=by
 have hvl:=AP.len
 have hch:=hR.vI key
 rw [hc] at hch
 obtain ⟨b',oo',c,el,fz,hh,hblk,hsz,hfz,hF,hl⟩:=hch
 rw [hgh] at hh
 cases hh
 simp only [Array.length_toList] at hvl
 obtain ⟨c',hrun,hc'⟩:=JJ (P:=P) hty hop hx hblk (by omega) (by omega) AP.single (fun j hj=>by have:=hfz (off+j) (by omega); rwa [<-Nat.add_assoc] at this)
 have hcs:c'.size=c.size:=by
  have:=congrArg List.length hc'
  simp only [Array.length_toList,List.length_append,List.length_take,List.length_drop] at this
  omega
 have hkeep:Keeps (fun b'' o''=>¬ g.F key b'' o'') w (World.put w b c' el fz):=by
  refine vS hblk hcs fun o'' aaR=>?_
  have hno : ¬ (oo<=o''/\o''<oo+old.length):=fun hh=>aaR ((hF b o'').2 ⟨rfl,hh⟩)
  rw [<-Array.getElem?_toList,<-Array.getElem?_toList,hc']
  by_cases hlt:o''<oo+off
  ·rw [List.append_assoc,List.getElem?_append_left (by simp; omega),List.getElem?_take_of_lt hlt]
  ·rw [List.getElem?_append_right (by simp; omega),List.getElem?_drop]
   congr 1
   simp
   omega
 have hlive:Live (σ.k key).ch:=by rw [hc]; trivial
 have hlen':(qx ti.aR ls).length=ls.length:=(uE (g:=g) (w:=w) (I:=I) σ.k AP (aR:=ti.aR)).len.symm.trans (by simpa using hvl)
 have acw:(old.take off++qx ti.aR ls++old.drop (off+ls.length)).length=old.length:=by
  simp only [List.length_append,List.length_take,List.length_drop,hlen']; omega
 obtain ⟨hR',ev⟩:=hR.Wp (e:=⟨.box (old.take off++qx ti.aR ls++old.drop (off+ls.length)),(σ.k key).bQ,(σ.k key).cv+1⟩) hlive rfl (Nat.lt_succ_self _) (by rw [hc]; rfl) hkeep fun aqF=>by
  refine ⟨b,oo,c',el,fz,hgh,kI hblk,by rw [acw,hcs]; exact hsz,by rw [acw]; exact hfz,by rw [acw]; exact hF,?_⟩
  rw [acw]
  have hl2:=aqF.XQ (((hl.take off).app (uE _ AP (aR:=ti.aR))).app (hl.drop (off+ls.length)))
  have e1:(c'.toList.drop oo).take old.length=((c.toList.drop oo).take old.length).take off++(a.eval y).cells.toList++((c.toList.drop oo).take old.length).drop (off+ls.length):=by
   rw [hc']
   apply List.ext_getElem?
   intro i
   by_cases hi:i<old.length
   ·rw [List.getElem?_take_of_lt hi,List.getElem?_drop]
    by_cases h1:i<off
    ·rw [List.append_assoc,List.getElem?_append_left (by simp; omega),List.getElem?_take_of_lt (by omega),List.append_assoc,List.getElem?_append_left (by simp; omega),List.getElem?_take_of_lt h1,List.getElem?_take_of_lt hi,List.getElem?_drop]
    ·by_cases h2:i<off+ls.length
     ·rw [List.append_assoc,List.getElem?_append_right (by simp; omega),List.getElem?_append_left (by simp; omega),List.append_assoc,List.getElem?_append_right (by simp; omega),List.getElem?_append_left (by simp; omega)]
      congr 1
      simp
      omega
     ·rw [List.getElem?_append_right (by simp; omega),List.getElem?_drop,List.getElem?_append_right (by simp; omega),List.getElem?_drop,List.getElem?_take_of_lt (by simp; omega),List.getElem?_drop]
      congr 1
      simp
      omega
   ·rw [List.getElem?_eq_none (by simp; omega),List.getElem?_eq_none (by simp; omega)]
  rw [e1]
  exact hl2
 exact ⟨_,hrun,hkeep,hR',ev⟩
theorem afL (hΓ:fE Γ P) (hd:dM n.np n.nt o=true) (hR:R n σ g I a w) (hK:Post P n I w Q K) {t:TypeId} {x y:Operand} (hop:o.op = .store t x y)
  (h:(bH Γ f o).wp cf σ tr Q):Goal P o a w K Qm:=by
 simp only [bH,hop] at h
 obtain ⟨ti,-,hty,h⟩:=gD hΓ h
 obtain ⟨e,t1,he,h⟩:=jQ hR h
 obtain ⟨ev,t2,hev,h⟩:=jQ hR h
 obtain ⟨ls,hls,h⟩:=dX h
 have AP:=JH hev hls
 have hvl:=AP.len
 split at h
 ·rename_i key m r off _ _
  obtain ⟨h3,h⟩:=h
  obtain ⟨hmS,hm1,hm2⟩:=he
  have hid:=Nat.eq_of_beq_eq_true h3
  split at h
  ·rename_i old hc
   obtain ⟨hb,h⟩:=h
   simp only [Bool.and_eq_true] at hb
   have hb1:ls.length=ti.aR.length:=Nat.eq_of_beq_eq_true hb.1
   have hb2:off+ls.length<=old.length:=Nat.le_of_ble_eq_true hb.2
   have hlive:Live (σ.k key).ch:=by rw [hc]; trivial
   have hch:=hR.vI key
   rw [hc] at hch
   obtain ⟨b,oo,c,el,fz,hh,-⟩:=hch
   obtain ⟨b',o',hx,ha⟩:=hm2 hid
   rw [hc,hh] at ha
   simp only [addrIn,Option.some.injEq,Prod.mk.injEq] at ha
   obtain ⟨rfl,rfl⟩:=ha
   obtain ⟨w',hrun,hkeep,hR',ev'⟩:=Uq hty hR hop hc hx hh AP hb1 hb2
   exact Pz hd hR' (fun σ' dI g' I' a' w'' q1 q2 q3 q4=>hK σ' dI g' I' a' w'' q1 q2 q3 (Keeps.trans (fun _ _ h=>h) (hkeep.weaken fun b o hi hf=>hi.elim (hR.jP key hlive b o hf) (hR.x.wW key hlive b o hf)) q4)) hrun h
  ·rename_i es0 ms0 Ud hc0
   obtain ⟨hb,h⟩:=h
   simp only [Bool.and_eq_true] at hb
   have hb1:ls.length=ti.aR.length:=Nat.eq_of_beq_eq_true hb.1
   have hb2:off+ls.length<=es0.length:=Nat.le_of_ble_eq_true hb.2
   obtain ⟨σ1,I1,tr1,ds,bn,mE,pE,hl',hnn,hz,-,hs1,h⟩:=Gm hR DF.none AP h
   obtain ⟨DL,h⟩:=h
   have DL:=Nat.eq_of_beq_eq_true DL
   split at h
   ·rename_i es ms rows hc
    obtain ⟨hb',h⟩:=h
    simp only [Bool.and_eq_true] at hb'
    have heq:=LT.bP hb'.1.1
    subst heq
    have heq:=M.bP hb'.1.2
    subst heq
    have hr:r<rows.length:=of_decide_eq_true hb'.2
    have he1:r9 σ1.k g w I1 (.ptr key m r off) (a.eval x):=pE.Td (x:=.ptr key m r off) ⟨hmS,hm1,hm2⟩
    obtain ⟨b',o',hx,ha⟩:=he1.2.2 DL
    have hch:=mE.vI key
    rw [hc] at hch ha
    obtain ⟨hes,hlen,hown⟩:=aV.cases hch
    rcases hown with ⟨-,rfl,-⟩ | ⟨b,cap,c,el,fz,bs,hh,hcap,hblk,hsz,hfz,hrows,hnd,hF⟩
    ·simp at hr
    rw [hh] at ha
    simp only [addrIn,mW,Option.some.injEq,Prod.mk.injEq,Nat.zero_add] at ha
    obtain ⟨rfl,rfl⟩:=ha
    simp only [Array.length_toList] at hvl
    have hdl:=au.len _ hl'
    simp only [Array.length_toList,List.length_take,List.length_drop] at hdl
    have hmul:(r+1) * es0.length<=cap * es0.length:=Nat.mul_le_mul_right _ (by omega)
    have ajW:rows.length * es0.length<=cap * es0.length:=Nat.mul_le_mul_right _ hcap
    rw [Nat.add_mul,Nat.one_mul] at hmul
    obtain ⟨c',hrun,hc'⟩:=JJ (P:=P) hty hop hx hblk (by omega) (by omega) AP.single (fun j hj=>hfz _ (by omega))
    have hcs:c'.size=c.size:=by
     have:=congrArg List.length hc'
     simp only [Array.length_toList,List.length_append,List.length_take,List.length_drop] at this
     omega
    have hlive:Live (σ1.k key).ch:=by rw [hc]; trivial
    have hkeep:Keeps (fun b'' o''=>¬ g.F key b'' o'') w (World.put w b c' el fz):=by
     refine vS hblk hcs fun o'' aaR=>?_
     have hno : ¬ o''<c.size:=fun hh=>aaR ((hF b o'').2 (.inl ⟨rfl,hh⟩))
     rw [Array.getElem?_eq_none (by omega),Array.getElem?_eq_none (by omega)]
    have hblk':=kI (c':=c') hblk
    obtain ⟨bs',hnew,hsub⟩:=aN.store (off:=off) (Ir:=ds) (bn:=bn) (vsn:=(a.eval y).cells.toList) hrows hr (by simp; omega) (by omega) (by rw [hdl.2,Nat.min_eq_left (by omega)]; exact hl')
    have hcE:c'.toList=c.toList.take (r * es0.length+off)++(a.eval y).cells.toList++c.toList.drop (r * es0.length+off+ds.length):=by
     rw [hc']
     congr 2
     omega
    rw [<-hcE] at hnew
    have hzb : ∀ u,Live (σ1.k u).ch->aB.apart (g.F u) (FB w bn):=fun u hu b o h1 h2=>hz.live u hu b o h1 (.inr h2)
    have acy : ∀ x∈bs++bn,∃ c el fz,Block w x c el fz:=fun x hx=>by
     rcases List.mem_append.1 hx with hx | hx
     ·exact oQ (I:=I1) (fun vs ds bs h=>au.blocks es0 h) _ hrows x hx
     ·exact au.blocks _ hl' x hx
    obtain ⟨hn1,hn2⟩:=hnd
    have hbig:fP w (bs++bn):=kY.2 ⟨hn2,hnn,wY.1 fun b' o' h1 h2=>hzb key hlive b' o' ((hF b' o').2 (.inr h1)) h2⟩
    let Z:aB:=fun b' o'=>g.F key b' o'\/FB w bn b' o'
    let F':aB:=fun b' o'=>(b'=b/\o'<c.size)\/FB w bs' b' o'
    have hFZ : ∀ b' o',F' b' o'->Z b' o':=fun b' o' hf=>by
     rcases hf with hf | hf
     ·exact .inl ((hF b' o').2 (.inl hf))
     ·rcases List.mem_append.1 (hsub.mem hf.1) with hm | hm
      ·exact .inl ((hF b' o').2 (.inr ⟨hm,hf.2⟩))
      ·exact .inr ⟨hm,hf.2⟩
    have hkZ:Keeps (fun b'' o''=>¬ Z b'' o'') w (World.put w b c' el fz):=hkeep.weaken fun b o hn hf=>hn (.inl hf)
    have hiI : ∀ b'' o'',I1 b'' o''->I1 b'' o''/\cellAt (World.put w b c' el fz) b'' o''=cellAt w b'' o'':=fun b'' o'' hi=>⟨hi,hkeep.cell (fun hf=>mE.jP key hlive _ _ hf hi) (mE.zu _ _ hi)⟩
    have hbn : ∀ x∈bs',b=x->rZ w b=0:=fun x hx e=>by
     subst e
     rcases List.mem_append.1 (hsub.mem hx) with hm | hm
     ·exact hn1 hm
     ·rcases Nat.eq_zero_or_pos (rZ w b) with h8 | h8
      ·exact h8
      ·exact (hzb key hlive b 0 ((hF b 0).2 (.inl ⟨rfl,by rw [iU hblk] at h8; exact h8⟩)) ⟨hm,h8⟩).elim
    have aoh:aN (fun vs ds bs=>au (World.put w b c' el fz) I1 es0 ms0 vs ds bs) es0.length (rows.set r (setMany (rows.getD r []) off ds)) c'.toList bs':=by
     refine aN.imp (fun vs ds b'' alC h=>?_) hnew
     refine au.keep (A:=fun x _=>x≠b\/rZ w b=0) ?_ hiI es0 (fun x o'' hf=>?_) h
     ·refine ⟨hkeep.size,fun b1 x1 hx1=>?_,hkeep.os,hkeep.output,hkeep.tape⟩
      obtain ⟨y1,hy1,hk1⟩:=hkeep.obj b1 x1 hx1
      refine ⟨y1,hy1,?_⟩
      cases x1 with
      | cells c1 el1 fz1 =>
       obtain ⟨c1',rfl,h5,h6⟩:=hk1
       refine ⟨c1',rfl,h5,fun o1 ho1=>?_⟩
       by_cases hbb:b1=b
       ·subst hbb
        have h0:=ho1.resolve_left fun h=>h rfl
        rw [iU hx1] at h0
        rw [Array.getElem?_eq_none (by omega),Array.getElem?_eq_none (by omega)]
       ·have h7:Block (World.put w b c' el fz) b1 c1' el1 fz1:=hy1
        have h8:(World.put w b c' el fz).heap[b1]? = w.heap[b1]?:=by
         unfold World.put
         simp only
         exact Array.getElem?_setIfInBounds_ne (Ne.symm hbb)
        have h9:w.heap[b1]? = some (.cells c1' el1 fz1):=by rw [<-h8]; exact h7
        rw [hx1] at h9
        cases h9; rfl
      | _=>exact hk1
     ·by_cases hxb:x=b
      ·subst hxb
       exact .inr (hbn x (alC x hf.1) rfl)
      ·exact .inl hxb
    let e':KE:=⟨.row es0 ms0 (rows.set r (setMany (rows.getD r []) off ds)),(σ1.k key).bQ,(σ1.k key).cv+1⟩
    have afM : ∀ x∈bs',∃ c el fz,Block w x c el fz:=fun x hx=>acy x (hsub.mem hx)
    obtain ⟨hR',ev'⟩:=mE.touch (σ':=σ1.bK key e') (g':=g.set key (g.h key) F') (I':=I1) (w':=World.put w b c' el fz) (fun u=>u=key) Z rfl rfl
     (fun u hu=>⟨aO _ _ hu,Gh.xS _ _ _ hu,Gh.uZ _ _ _ hu⟩)
     (fun u hu=>by subst hu; rw [aP]; exact ⟨Nat.lt_succ_self _,Nat.le_refl _,fun _=>⟨Gh.oz _ _ _ _,by rw [hc]; rfl⟩⟩)
     (fun u hu hp _=>by subst hu; rw [Gh.oz]; exact mE.x.par u hp hlive)
     (fun u hu _ b' o' hf=>by subst hu; rw [Gh.jR] at hf; exact .inl (hFZ b' o' hf))
     (fun u v hu hv _ _ hne=>absurd (hu.trans hv.symm) hne)
     (fun u hu hl b' o' h1 h2=>h2.elim (mE.sep u key hl hlive hu b' o' h1) (hzb u hl b' o' h1))
     (fun b' o' h1 h2=>h1.elim (fun h1=>mE.jP key hlive b' o' h1 h2) fun h1=>hz.jP b' o' (.inr h1) h2)
     (fun b' o' h1 h2=>h1.elim (fun h1=>mE.x.wW key hlive b' o' h1 h2) fun h1=>hz.wW b' o' (.inr h1) h2)
     hkZ (fun _ _ h=>h) (fun _ _ h=>.inl h)
     (fun u hu _ b' o' hf hi=>by
      subst hu; rw [Gh.jR] at hf
      rcases hFZ b' o' hf with h1 | h1
      ·exact mE.jP _ hlive b' o' h1 hi
      ·exact hz.jP b' o' (.inr h1) hi)
     (fun b' o' hi=>by obtain ⟨v,hv⟩:=mE.zu b' o' hi; exact ⟨v,((hiI b' o' hi).2).trans hv⟩)
     (fun _ u hu=>by
      subst hu
      rw [aP]
      show aV _ _ _ _ _ ((g.set _ (g.h _) F').h _) ((g.set _ (g.h _) F').F _)
      rw [Gh.oz,Gh.jR,hh]
      have:=aV.mk' (F:=F') hes (by rw [List.length_set]; exact hlen) (by rw [List.length_set]; exact hcap) hblk' (hcs.trans hsz) (by rw [hcs]; exact hfz) aoh
       ⟨fun hm=>by rw [wX hkeep ⟨_,_,_,hblk⟩]; exact hbn b hm rfl,qY hkeep afM (Dx hsub hbig)⟩ (fun b' o'=>by rw [hcs,Fv hkeep afM])
      rw [List.length_set] at this
      exact this)
    refine Pz hd hR' (fun σ' dI g' I' a' w'' q1 q2 q3 q4=>hK σ' dI g' I' a' w'' q1 q2 (fun b o hb=>q3 b o (pE.jP b o hb).1) (Keeps.trans (fun b o hb=>hb.imp (fun hb=>(pE.jP b o hb).1) id) (hkeep.weaken fun b o hi hf=>hi.elim (fun hi=>mE.jP key hlive b o hf (pE.jP b o hi).1) (mE.x.wW key hlive b o hf)) q4)) hrun h
   ·exact h.elim
  ·rename_i es ms rows r' jj hc
   obtain ⟨hrr,h⟩:=h
   have:=Nat.eq_of_beq_eq_true hrr
   subst this
   obtain ⟨hjj,h⟩:=h
   have hjj:=Nat.eq_of_beq_eq_true hjj
   split at h
   ·rename_i old hcb
    obtain ⟨hb,h⟩:=h
    simp only [Bool.and_eq_true] at hb
    have hb1:ls.length=ti.aR.length:=Nat.eq_of_beq_eq_true hb.1
    have hb2:off+ls.length<=old.length:=Nat.le_of_ble_eq_true hb.2
    have hch:=hR.vI key
    rw [hc] at hch
    obtain ⟨-,-,-,b,cap,c,el,fz,B1,B2,hh,-,-,-,-,-,-,-,-,-,xY⟩:=hch
    have xY:=xY hjj
    obtain ⟨b',o',hx,ha⟩:=hm2 hid
    rw [hc,hh] at ha
    simp only [addrIn,mW,Option.some.injEq,Prod.mk.injEq,Nat.zero_add] at ha
    obtain ⟨rfl,rfl⟩:=ha
    have hlive:Live (σ.k (jc key)).ch:=by rw [hcb]; trivial
    obtain ⟨w',hrun,hkeep,hR',ev'⟩:=Uq hty hR hop hcb hx xY AP hb1 hb2
    obtain ⟨σ3,g3,I3,t3,h,PE,ev3,-⟩:=MC hR' h
    exact Pz hd PE (fun σ' dI g' I' a' w'' q1 q2 q3 q4=>hK σ' dI g' I' a' w'' q1 q2 (fun b o hb=>q3 b o (ev3.jP b o hb).1) (Keeps.trans (fun b o hb=>hb.imp (fun hb=>(ev3.jP b o hb).1) id) (hkeep.weaken fun b o hi hf=>hi.elim (hR.jP _ hlive b o hf) (hR.x.wW _ hlive b o hf)) q4)) hrun h
   ·exact h.elim
  ·exact h.elim
 ·exact h.elim
end
end Go.E

namespace Go.E
open Go
section
variable {w:World} {I:aB}
def IZ (w:World) (I:aB) (bz:List Nat):aB:=fun b o=>I b o\/FB w bz b o
theorem Wt {b1 b2:List Nat} (h : ∀ x∈b1,x∈b2) : ∀ b o,IZ w I b1 b o->IZ w I b2 b o:=fun b o hb=>hb.imp id fun hb=>tZ h b o hb
theorem Ur {p q:List Nat->List Value->List T->List Nat->Prop} {sz:Nat} (hpq : ∀ bz bz' vs ds bs,(∀ x∈bz,x∈bz')->q bz vs ds bs->q bz' vs ds bs)
  (hp : ∀ vs ds bs,p [] vs ds bs->∃ bs' bz,(∀ b,bs'.count b+bz.count b=bs.count b)/\q bz vs ds bs') : ∀ {rows:List (List T)} {cs:List Value} {bs:List Nat},aN (p []) sz rows cs bs ->
   ∃ bs' bz,(∀ b,bs'.count b+bz.count b=bs.count b)/\aN (q bz) sz rows cs bs'
 | [],cs,bs,h=>by
  have h:bs=[]:=h
  subst h
  exact ⟨[],[],fun b=>rfl,rfl⟩
 | r::rs,cs,bs,h=>by
  obtain ⟨b1,b2,rfl,h1,h2⟩:=h
  obtain ⟨b3,z3,h3,h4⟩:=hp _ _ _ h1
  obtain ⟨b5,z5,h5,h6⟩:=Ur hpq hp h2
  refine ⟨b3++b5,z3++z5,fun b=>by simp only [List.count_append]; have:=h3 b; have:=h5 b; omega,b3,b5,rfl,hpq _ _ _ _ _ (fun x hx=>by simp [hx]) h4,aN.imp (fun vs ds b' _ h=>hpq _ _ _ _ _ (fun x hx=>by simp [hx]) h) h6⟩
mutual
theorem bU.cast : ∀ (lt:LT) {m m':M} {v:Value} {d:T} {bs:List Nat},M.OQ m m'=true->bU w I lt m v d bs->∃ bs' bz,(∀ b,bs'.count b+bz.count b=bs.count b)/\bU w (IZ w I bz) lt m' v d bs'
 | .sc s,m,m',v,d,bs,hm,h=>by
  unfold bU at h
  obtain ⟨h1,rfl⟩:=h
  exact ⟨[],[],fun b=>rfl,by unfold bU; exact ⟨h1,rfl⟩⟩
 | .sl es,m,.F,v,d,bs,hm,h=>by
  refine ⟨[],bs,fun b=>by simp,?_⟩
  have:=bU.leaf (S:=IZ w I bs) (fun b o hb=>.inl hb) _ (fun b o hb=>.inr hb) h
  unfold bU
  exact ⟨this,rfl⟩
 | .sl es,.F,.O ms',v,d,bs,hm,h=>by simp [M.OQ] at hm
 | .sl es,.O ms,.O ms',v,d,bs,hm,h=>by
  have hm:M.vN ms ms'=true:=by simpa [M.OQ] using hm
  unfold bU at h
  obtain ⟨rows,h1,h2,h3,h4⟩:=h
  rcases h4 with ⟨h4,h5,rfl⟩ | ⟨b,cap,c,el,fz,bs',rfl,h5,h6,h7,h8,h9,h10⟩
  ·refine ⟨[],[],fun b=>rfl,?_⟩
   unfold bU
   exact ⟨rows,h1,h2,h3,.inl ⟨h4,h5,rfl⟩⟩
  ·obtain ⟨bs2,bz,h11,h12⟩:=Ur (p:=fun bz vs ds bs=>au w I es ms vs ds bs) (q:=fun bz vs ds bs=>au w (IZ w I bz) es ms' vs ds bs)
    (fun bz bz' vs ds bs hs h=>au.same (Wt hs) h) (fun vs ds bs h=>au.cast es hm h) h10
   refine ⟨b::bs2,bz,fun x=>?_,?_⟩
   ·simp only [List.count_cons]
    have:=h11 x
    omega
   ·unfold bU
    exact ⟨rows,h1,h2,h3,.inr ⟨b,cap,c,el,fz,bs2,rfl,h5,h6,h7,h8,h9,h12⟩⟩
theorem au.cast : ∀ (es:List LT) {ms ms':List M} {vs:List Value} {ds:List T} {bs:List Nat},M.vN ms ms'=true->au w I es ms vs ds bs->∃ bs' bz,(∀ b,bs'.count b+bz.count b=bs.count b)/\au w (IZ w I bz) es ms' vs ds bs'
 | [],ms,ms',vs,ds,bs,hm,h=>by
  unfold au at h
  obtain ⟨rfl,rfl,rfl⟩:=h
  exact ⟨[],[],fun b=>rfl,by unfold au; exact ⟨rfl,rfl,rfl⟩⟩
 | e::es,ms,ms',vs,ds,bs,hm,h=>by
  unfold au at h
  obtain ⟨v,vs',d,ds',b1,b2,rfl,rfl,rfl,h1,h2⟩:=h
  have hh:M.OQ (ms.headD .F) (ms'.headD .F)=true/\M.vN ms.tail ms'.tail=true:=by
   cases ms with
   | nil=>cases ms' with
    | nil=>exact ⟨by simp [M.OQ],by simp [M.vN]⟩
    | cons _ _=>simp [M.vN] at hm
   | cons m ms=>cases ms' with
    | nil=>simp [M.vN] at hm
    | cons m' ms'=>simpa [M.vN] using hm
  obtain ⟨b3,z3,h3,h4⟩:=bU.cast e hh.1 h1
  obtain ⟨b5,z5,h5,h6⟩:=au.cast es hh.2 h2
  refine ⟨b3++b5,z3++z5,fun b=>by simp only [List.count_append]; have:=h3 b; have:=h5 b; omega,?_⟩
  unfold au
  exact ⟨v,vs',d,ds',b3,b5,rfl,rfl,rfl,bU.same (Wt fun x hx=>by simp [hx]) h4,au.same (Wt fun x hx=>by simp [hx]) h6⟩
end
end
section
variable {cf:FuncId->List Arg->R3 fV} {Q:S->Tr->Prop}
variable {n:Fr} {σ:S} {g:Gh} {I:aB} {a:Act} {w:World} {tr:Tr}
theorem R.cast (hR:R n σ g I a w) {key:Key} {es:List LT} {ms ms':List M} {rows:List (List T)} (hc:(σ.k key).ch = .row es ms rows) (hm:M.vN ms ms'=true) :
  ∃ g' I',R n (σ.bK key ⟨.row es ms' rows,(σ.k key).bQ,(σ.k key).cv+1⟩) g' I' a w/\gM σ.k g w I (σ.bK key ⟨.row es ms' rows,(σ.k key).bQ,(σ.k key).cv+1⟩).k g' w I':=by
 have hch:=hR.vI key
 rw [hc] at hch
 obtain ⟨bs,hn,hcell,hF⟩:=hch
 obtain ⟨bs',bz,hcnt,hcell'⟩:=bU.cast (m:=.O ms) (m':=.O ms') _ (by simpa [M.OQ] using hm) hcell
 have hlive:Live (σ.k key).ch:=by rw [hc]; trivial
 have hsub:JC bs' bs:=fun b=>by have:=hcnt b; omega
 have aoj:JC bz bs:=fun b=>by have:=hcnt b; omega
 have hap:aB.apart (FB w bs') (FB w bz):=fun b o h1 h2=>by
  have h3:=hcnt b
  have h4:=List.count_pos_iff.2 h1.1
  have h5:=List.count_pos_iff.2 h2.1
  have h6:rZ w b≠0:=by have:=h1.2; omega
  have:=Ih.1 hn b h6
  omega
 have hz : ∀ b o,FB w bz b o->g.F key b o:=fun b o h=>(hF b o).2 (tZ (fun x hx=>aoj.mem hx) b o h)
 have hs' : ∀ b o,FB w bs' b o->g.F key b o:=fun b o h=>(hF b o).2 (tZ (fun x hx=>hsub.mem hx) b o h)
 let e:KE:=⟨.row es ms' rows,(σ.k key).bQ,(σ.k key).cv+1⟩
 refine ⟨g.set key (g.h key) (FB w bs'),IZ w I bz,hR.touch (σ':=σ.bK key e) (fun u=>u=key) (g.F key) rfl rfl (fun u hu=>⟨aO _ _ hu,Gh.xS _ _ _ hu,Gh.uZ _ _ _ hu⟩) (fun u hu=>?_) (fun u hu hp _=>?_) (fun u hu _ b o hf=>?_)
  (fun u v hu hv _ _ hne=>absurd (hu.trans hv.symm) hne) (fun u hu hl=>hR.sep u key hl hlive hu) (hR.jP key hlive) (hR.x.wW key hlive) (Keeps.refl _ _) (fun b o h=>.inl h) (fun b o h=>h.imp id fun h=>.inl (hz b o h)) (fun u hu _ b o hf hi=>?_) (fun b o hi=>?_) (fun _ u hu=>?_)⟩
 ·subst hu; rw [aP]; exact ⟨Nat.lt_succ_self _,Nat.le_refl _,fun _=>⟨Gh.oz _ _ _ _,by rw [hc]; rfl⟩⟩
 ·subst hu; rw [Gh.oz]; exact hR.x.par u hp hlive
 ·subst hu; rw [Gh.jR] at hf; exact .inl (hs' b o hf)
 ·subst hu; rw [Gh.jR] at hf
  rcases hi with hi | hi
  ·exact hR.jP _ hlive b o (hs' b o hf) hi
  ·exact hap b o hf hi
 ·rcases hi with hi | hi
  ·exact hR.zu b o hi
  ·exact Wd hi
 ·subst hu; rw [aP]
  show aV _ _ _ _ _ ((g.set _ (g.h _) (FB w bs')).h _) ((g.set _ (g.h _) (FB w bs')).F _)
  rw [Gh.oz,Gh.jR]
  exact ⟨bs',Dx hsub hn,hcell',fun _ _=>Iff.rfl⟩
end
end Go.E

namespace Go.E
open Go
section
variable {w:World} {I S A:aB}
theorem dK.foot : ∀ {es:List LT} {b o:Nat} {row:List T},dK w A S es b o row->∀ j,j<es.length->A b (o+j)
 | [],b,o,row,h,j,hj=>by simp at hj
 | e::es,b,o,row,h,j,hj=>by
  unfold dK at h
  obtain ⟨d,rest,v,h1,h2,h3,h4,h5⟩:=h
  cases j with
  | zero=>exact h2
  | succ j=>have:=dK.foot h5 j (by simpa using hj); rwa [show o+1+j=o+(j+1) from by omega] at this
theorem bO.app : ∀ {vs us:List Value} {b o:Nat},bO w b o vs->bO w b (o+vs.length) us->bO w b o (vs++us)
 | [],us,b,o,_,h=>by simpa using h
 | v::vs,us,b,o,h,h'=>⟨h.1,bO.app h.2 (by simpa [show o+1+vs.length=o+(vs.length+1) from by omega] using h')⟩
theorem PG {es:List LT} : ∀ (rows:List (List T)) (b o:Nat),(∀ i (hi:i<rows.length),dK w A S es b (o+i * es.length) rows[i]) ->
  ∃ news,news.length=rows.length * es.length/\dR w S es rows news/\bO w b o news /\ ∀ j,j<news.length->A b (o+j)
 | [],b,o,_=>⟨[],by simp,trivial,trivial,fun j hj=>by simp at hj⟩
 | r::rs,b,o,h=>by
  have h0:=h 0 (by simp)
  simp only [Nat.zero_mul,Nat.add_zero,List.getElem_cons_zero] at h0
  obtain ⟨vs,h1,h2⟩:=h0.vals
  obtain ⟨us,h3,h4,h5,h6⟩:=PG rs b (o+es.length) fun i hi=>by
   have:=h (i+1) (by simpa using hi)
   rw [show o+(i+1) * es.length=o+es.length+i * es.length from by rw [Nat.add_mul]; omega] at this
   simpa using this
  have hl:=h1.len.1
  refine ⟨vs++us,by simp [h3,hl,Nat.add_mul]; omega,⟨by rw [<-hl,List.take_left]; exact h1,by rw [<-hl,List.drop_left]; exact h4⟩,h2.app (by rw [hl]; exact h5),fun j hj=>?_⟩
  by_cases hlt:j<es.length
  ·exact h0.foot j hlt
  ·have:=h6 (j-es.length) (by simp at hj; omega)
   rwa [show o+es.length+(j-es.length)=o+j from by omega] at this
theorem DN {es:List LT} {v:Value} {rows:List (List T)} (h:aJ w S (.sl es) v (.l rows)) :
  ∃ aa cap news,v = .slice aa rows.length cap/\rows.length<=cap/\rows.length<=bG/\news.length=rows.length * es.length/\dR w S es rows news /\
   (rows=[] \/ ∃ b o,aa=some ⟨b,o,none⟩/\bO w b o news /\ ∀ j,j<news.length->S b (o+j)):=by
 unfold aJ at h
 obtain ⟨aa,cap,rows',h1,rfl,h2,h3,h4⟩:=h
 cases h1
 rcases h4 with rfl | ⟨b,o,rfl,h4⟩
 ·exact ⟨aa,cap,[],rfl,h2,h3,by simp,trivial,.inl rfl⟩
 ·obtain ⟨news,h5,h6,h7,h8⟩:=PG rows b o h4
  exact ⟨_,cap,news,rfl,h2,h3,h5,h6,.inr ⟨b,o,rfl,h7,h8⟩⟩
theorem Single.one {v:Value} (h:Single v):v.oneCell'=true:=by
 cases v <;> first | rfl | exact absurd rfl (h.1 _) | exact absurd rfl (h.2 _)
theorem aW.single : ∀ {es:List LT} {vs:List Value} {ds:List T},aW w I es vs ds->∀ v∈vs,Single v
 | [],[],[],_,v,hv=>by cases hv
 | e::es,v::vs,d::ds,h,u,hu=>by
  rcases List.mem_cons.1 hu with rfl | hu
  ·exact h.1.single
  ·exact aW.single h.2 u hu
 | [],_::_,_,h,_,_=>h.elim
 | [],[],_::_,h,_,_=>h.elim
 | _::_,[],_,h,_,_=>h.elim
 | _::_,_::_,[],h,_,_=>h.elim
theorem dR.single {es:List LT} : ∀ {rows:List (List T)} {cs:List Value},cs.length=rows.length * es.length->dR w I es rows cs->∀ v∈cs,Single v
 | [],cs,hn,_,v,hv=>by
  have:cs=[]:=List.length_eq_zero_iff.1 (by simpa using hn)
  subst this; cases hv
 | r::rs,cs,hn,h,v,hv=>by
  rw [<-List.take_append_drop es.length cs] at hv
  rcases List.mem_append.1 hv with hv | hv
  ·exact h.1.single v hv
  ·refine dR.single ?_ h.2 v hv
   simp only [List.length_cons,Nat.add_mul,Nat.one_mul] at hn
   rw [List.length_drop]; omega
theorem aW.flat {w':World} {I':aB} : ∀ {es:List LT} {vs:List Value} {ds:List T},xM es=true->aW w I es vs ds->aW w' I' es vs ds
 | [],[],[],_,_=>trivial
 | e::es,v::vs,d::ds,hf,h=>by
  unfold xM at hf
  simp only [List.all_cons,Bool.and_eq_true] at hf
  refine ⟨?_,aW.flat hf.2 h.2⟩
  cases e with
  | sl _=>simp at hf
  | sc s=>have h1:=h.1; unfold aJ at h1 ⊢; exact h1
 | [],_::_,_,_,h=>h.elim
 | [],[],_::_,_,h=>h.elim
 | _::_,[],_,_,h=>h.elim
 | _::_,_::_,[],_,h=>h.elim
theorem dR.flat {w':World} {I':aB} {es:List LT} (hf:xM es=true) : ∀ {rows:List (List T)} {cs:List Value},dR w I es rows cs->dR w' I' es rows cs
 | [],_,_=>trivial
 | _::_,_,hh=>⟨hh.1.flat hf,dR.flat hf hh.2⟩
theorem ME : ∀ (l:List UInt8),dR w I [.sc (.int .u8)] (l.map fun b=>[T.i b.toNat]) (l.map fun b=>Value.int .u8 b.toNat)
 | []=>trivial
 | x::xs=>by
  refine ⟨⟨?_,trivial⟩,ME xs⟩
  unfold aJ
  have hlt:=UInt8.toNat_lt x
  refine ⟨_,rfl,rfl,?_⟩
  simp only [IntKind.min,IntKind.max,IntKind.bits,IntKind.signed]
  constructor
  ·simp
  ·simp only [Bool.false_eq_true,if_false]; omega
end
section
variable {Γ:Ctx} {P:Program} {cf:FuncId->List Arg->R3 fV}
variable {n:Fr} {σ:S} {g:Gh} {I:aB} {a:Act} {w w':World}
variable {o:Oper} {f:FuncId} {tr:Tr} {Q:S->Tr->Prop} {K:Act->World->Prop} {Qm:Exit->Act->World->Prop}
structure Wu (P:Program) (w:World) (S:aB) (size:Nat) (tx:TypeId) (es:List LT) (x:Value) (rows:List (List T)) (news:List Value):Prop where
 src:Src P size tx x rows.length news w
 len:Builtin.lenOf x=Sem.pure rows.length
 single : ∀ v∈news,Single v
 nn:news.length=rows.length * es.length
 place:(∃ s,x = .string s)\/rows=[] \/ ∃ b o cap,x = .slice (some ⟨b,o,none⟩) rows.length cap/\bO w b o news /\ ∀ j,j<news.length->S b (o+j)
theorem aJ.src {S:aB} {es:List LT} {v:Value} {rows:List (List T)} {tx:TypeId} (hk:(∃ e',P.underlying tx=some (.slice e'))\/P.underlying tx=some .string) (h:aJ w S (.sl es) v (.l rows)) :
  ∃ news,Wu P w S es.length tx es v rows news/\dR w S es rows news:=by
 obtain ⟨aa,cap,news,rfl,h1,h2,h3,h4,h5⟩:=DN h
 have hs:=h4.single h3
 refine ⟨news,⟨?_,rfl,hs,h3,?_⟩,h4⟩
 ·have hone : ∀ u∈news,u.oneCell'=true:=fun u hu=>(hs u hu).one
  rcases h5 with rfl | ⟨b,o,rfl,h5,-⟩
  ·have hn:news=[]:=List.length_eq_zero_iff.1 (by simpa using h3)
   subst hn
   cases aa with
   | none=>exact ⟨hk,fun _=>rfl,run_firstCells_none w _ _ _ _,run_firstCells_none w.drew _ _ _ _,h3,hone⟩
   | some ad=>exact ⟨hk,fun _=>rfl,run_firstCells_some w _ _ _ _ _ [] h3 (fun j u hu=>by simp at hu),run_firstCells_some w.drew _ _ _ _ _ [] h3 (fun j u hu=>by simp at hu),h3,hone⟩
  ·have hc : ∀ j u,news[j]? = some u->w.cell? (Addr.add ⟨b,o,none⟩ j)=some u:=fun j u hu=>by
    rw [addr_add]
    obtain ⟨hj,rfl⟩:=List.getElem?_eq_some_iff.1 hu
    exact h5.get j hj
   exact ⟨hk,fun _=>rfl,run_firstCells_some w _ _ _ _ _ news h3 hc,run_firstCells_some w.drew _ _ _ _ _ news h3 (by simpa using hc),h3,hone⟩
 ·rcases h5 with rfl | ⟨b,o,rfl,h5,h6⟩
  ·exact .inr (.inl rfl)
  ·exact .inr (.inr ⟨b,o,cap,rfl,h5,h6⟩)
theorem PI {S:aB} {es:List LT} {tx:TypeId} {v:Value} {rows:List (List T)} {news:List Value} (hn:Wu P w S es.length tx es v rows news) {b cap:Nat} {c:Array Value} {el:TypeId} {fz:Nat×Nat} (hv:v = .slice (some ⟨b,0,none⟩) rows.length cap)
  (hblk:Block w b c el fz) (hs:Single v):news.take (rows.length * es.length)=c.toList.take (rows.length * es.length):=by
 have hnn:=hn.nn
 rcases hn.place with ⟨s,h⟩ | rfl | ⟨b',o',cap',h,h1,-⟩
 ·rw [hv] at h; cases h
 ·simp
 ·rw [hv] at h
  cases h
  apply List.ext_getElem?
  intro i
  by_cases hi:i<rows.length * es.length
  ·rw [List.getElem?_take_of_lt hi,List.getElem?_take_of_lt hi]
   have:=h1.get i (by omega)
   rw [mH hblk,Nat.zero_add] at this
   have e:c.toList[i]? = c[i]?:=Array.getElem?_toList ..
   rw [e,this,List.getElem?_eq_getElem (by omega)]
  ·rw [List.getElem?_eq_none (by simp; omega),List.getElem?_eq_none (by simp; omega)]
theorem BS (hR:R n σ g I a w) {ds:List Dp} {u:Key} (hl:Live (σ.k u).ch) (hn : ∀ d∈ds,d.1≠u):aB.apart (g.F u) (dF σ.k g I ds):=by
 intro b o h1 h2
 rcases h2 with h2 | ⟨d,hd,⟨-,h2⟩ | ⟨hl2,h2⟩⟩
 ·exact hR.jP u hl b o h1 h2
 ·exact hR.x.wW u hl b o h1 (hR.x.da b o h2)
 ·exact hR.sep d.1 u hl2 hl (hn d hd) b o h2 h1
structure alD (P:Program) (n:Fr) (σ:S) (g:Gh) (I:aB) (w:World) (es:List LT) (ms:List M) (tx:TypeId) (v:Value) (rows:List (List T)) (deps:List Dp) (news:List Value) (S:aB) (bs:List Nat):Prop where
 src:Wu P w S es.length tx es v rows news
 vals:aN (fun vs ds bs=>au w I es ms vs ds bs) es.length rows news bs
 nd:fP w bs
 lim:DF n σ g I (FB w bs)
 away : ∀ u,Live (σ.k u).ch->(∀ d∈deps,d.1≠u)->aB.apart (g.F u) S
theorem JK (hR:R n σ g I a w) {es:List LT} {ms:List M} {lx:Leaf} {v:Value} {k:List (List T)->List Dp->Prog} {tx:TypeId} {tk:TI} (hl:ER σ.k g w I lx v) (htk:vQ Γ P tx tk)
  (hkind:(uT tk.kind||Fe tk.kind)=true) (h:(uD es ms lx k).wp cf σ tr Q) :
  ∃ rows deps news S bs σ' g' I' dI,R n σ' g' I' a w/\gM σ.k g w I σ'.k g' w I'/\σ'.s=σ.s/\alD P n σ' g' I' w es ms tx v rows deps news S bs/\(k rows deps).wp cf σ' dI Q:=by
 have hkd:(∃ e',P.underlying tx=some (.slice e'))\/P.underlying tx=some .string:=by
  rw [Bool.or_eq_true] at hkind
  rcases hkind with h1 | h1
  ·obtain ⟨e,he⟩:=uH h1
   exact .inl ⟨e,(mI htk he).1⟩
  ·exact .inr (JE htk (Lj h1))
 have flat : ∀ {rows:List (List T)} {deps:List Dp} {t':Tr},aJ w (dF σ.k g I deps) (.sl es) v (.l rows)->noO ms->(∀ news,dR w (dF σ.k g I deps) es rows news->dR w I es rows news)->(k rows deps).wp cf σ t' Q ->
   ∃ rows deps news S bs σ' g' I' dI,R n σ' g' I' a w/\gM σ.k g w I σ'.k g' w I'/\σ'.s=σ.s/\alD P n σ' g' I' w es ms tx v rows deps news S bs/\(k rows deps).wp cf σ' dI Q:=by
  intro rows deps t' hlf hm hI h
  obtain ⟨news,hn,hv⟩:=aJ.src (P:=P) hkd hlf
  exact ⟨rows,deps,news,dF σ.k g I deps,[],σ,g,I,t',hR,gM.refl,rfl,⟨hn,(hI _ hv).toM hm,trivial,DF.none.sub fun b o h=>(nomatch h.1),fun u hu hd=>BS hR hu hd⟩,h⟩
 have aok : ∀ (h:(xK lx fun es' rows deps=>.ig (LT.eH es es'&&OU ms&&(xM es||deps.isEmpty)) (k rows deps)).wp cf σ tr Q),
   ∃ rows deps news S bs σ' g' I' dI,R n σ' g' I' a w/\gM σ.k g w I σ'.k g' w I'/\σ'.s=σ.s/\alD P n σ' g' I' w es ms tx v rows deps news S bs/\(k rows deps).wp cf σ' dI Q:=by
  intro h
  obtain ⟨es',rows,deps,dI,⟨hb,h⟩,h2,h3,h4⟩:=qZ hR hl h
  simp only [Bool.and_eq_true,Bool.or_eq_true] at hb
  have:=LT.bP hb.1.1
  subst this
  refine flat h2 (zx hb.1.2) (fun news hv=>?_) h
  rcases hb.2 with hf | hf
  ·exact hv.flat hf
  ·have:deps=[]:=by simpa using hf
   subst this
   exact hv.mono fun b o hb=>⟨hb.elim id fun ⟨d,hd,_⟩=>(nomatch hd),rfl⟩
 obtain ⟨st,lt,d⟩:=lx
 unfold uD at h
 simp only at h
 split at h
 ·obtain ⟨hs,s,e1,hv⟩:=hl
  cases e1
  obtain ⟨hb,h⟩:=h
  simp only [Bool.and_eq_true] at hb
  have:=LT.bP hb.1
  subst this
  obtain ⟨str,rfl,rfl,hsz⟩:=hv
  have hlen:(iI str).length=str.size:=by unfold iI; rw [List.length_map]; rfl
  refine ⟨_,_,byteCells str,(fun _ _=>False),[],σ,g,I,_,hR,gM.refl,rfl,⟨⟨⟨hkd,fun _=>?_,?_,?_,?_,?_⟩,?_,?_,?_,.inl ⟨str,rfl⟩⟩,(ME _).toM (zx hb.2),trivial,DF.none.sub fun b o h=>(nomatch h.1),fun _ _ _ _ _ _ h=>h⟩,h⟩
  ·show _=Result.ok (iI str).length _
   rw [hlen]; rfl
  ·show (Builtin.firstCells 1 (iI str).length (.string str)).run P w=_
   rw [hlen]; exact firstCells_string (P:=P) str w
  ·show (Builtin.firstCells 1 (iI str).length (.string str)).run P w.drew=_
   rw [hlen]; exact firstCells_string (P:=P) str w.drew
  ·show _=(iI str).length * _
   rw [hlen,byteCells_length]; simp
  ·intro u hu
   obtain ⟨_,_,rfl⟩:=List.mem_map.1 hu
   rfl
  ·show _=Sem.pure (iI str).length
   rw [hlen]; rfl
  ·intro u hu
   obtain ⟨_,_,rfl⟩:=List.mem_map.1 hu
   exact ⟨fun _ h=>(nomatch h),fun _ h=>(nomatch h)⟩
  ·show _=(iI str).length * _
   rw [hlen,byteCells_length]; simp
 ·obtain ⟨-,-,rfl,rfl⟩:=hl
  obtain ⟨news,hn,-⟩:=aJ.src (P:=P) (w:=w) (S:=dF σ.k g I []) (es:=es) (rows:=[]) (v:=.slice none 0 0) hkd (by unfold aJ; exact ⟨none,0,[],rfl,rfl,Nat.le_refl _,Nat.zero_le _,.inl rfl⟩)
  exact ⟨_,_,news,_,[],σ,g,I,_,hR,gM.refl,rfl,⟨hn,rfl,trivial,DF.none.sub fun b o h=>(nomatch h.1),fun u hu hd=>BS hR hu hd⟩,h⟩
 ·rename_i key m
  obtain ⟨hs,hsl,hl1,hl2⟩:=hl
  obtain ⟨hid,h⟩:=h
  have hv:=hl2 (Nat.eq_of_beq_eq_true hid)
  have hch:=hR.vI key
  split at h
  ·rename_i es' ms' rows hc
   rw [hc] at hch
   obtain ⟨hb,h⟩:=h
   have:=LT.bP hb
   subst this
   have hlive:Live (σ.k key).ch:=by rw [hc]; trivial
   cases hno:OU ms' with
   | true =>
    rw [hno] at h
    obtain ⟨hm,h⟩:=h
    have hm:=zx hm
    have aol:=zx hno
    have hlf:aJ w (dF σ.k g I [(key,(σ.k key).cv)]) (.sl es) v (.l rows):=by
     rw [hv]; exact aV.leaf hch (fun _ _ h=>.inl h) (fun b o hf=>.inr ⟨_,List.mem_singleton.2 rfl,.inr ⟨hlive,hf⟩⟩)
    obtain ⟨news,hn,-⟩:=aJ.src (P:=P) hkd hlf
    obtain ⟨hes,hlen,hown⟩:=aV.cases hch
    have AP:aN (fun vs ds bs=>au w I es ms vs ds bs) es.length rows news []:=by
     rcases hown with ⟨-,rfl,-⟩ | ⟨b,cap,c,el,fz,bs,hh,hcap,hblk,hsz,hfz,hrows,hnd,hF⟩
     ·rfl
     ·have hbs:=CG aol hrows
      subst hbs
      refine aN.cells (aN.imp (fun vs ds b' hb' h=>?_) hrows) ?_
      ·obtain ⟨hbb,hlr⟩:=au.flat es aol h
       subst hbb
       exact au.of_flat hm hlr
      ·exact PI hn (hv.trans hh) hblk hs
    exact ⟨_,_,news,dF σ.k g I [(key,(σ.k key).cv)],[],σ,g,I,_,hR,gM.refl,rfl,⟨hn,AP,trivial,DF.none.sub fun b o h=>(nomatch h.1),fun u hu hd=>BS hR hu hd⟩,h⟩
   | false =>
    rw [hno] at h
    obtain ⟨hm,h⟩:=h
    obtain ⟨g1,I1,hR0,ev0⟩:=hR.cast hc hm
    have hc0:((σ.bK key ⟨.row es ms rows,(σ.k key).bQ,(σ.k key).cv+1⟩).k key).ch = .row es ms rows:=by rw [aP]
    have aiL:((σ.bK key ⟨.row es ms rows,(σ.k key).bQ,(σ.k key).cv+1⟩).k key).bQ=(σ.k key).bQ:=by rw [aP]
    have hv0:v=g1.h key:=by rw [(ev0.head key aiL).1]; exact hv
    have hch:=hR0.vI key
    rw [hc0] at hch
    have hlive:Live ((σ.bK key ⟨.row es ms rows,(σ.k key).bQ,(σ.k key).cv+1⟩).k key).ch:=by rw [hc0]; trivial
    obtain ⟨mE,pE⟩:=hR0.gone key
    simp only [Prog.wp] at h
    have hlf:aJ w (fun b o=>I1 b o\/g1.F key b o) (.sl es) v (.l rows):=by
     rw [hv0]; exact aV.leaf hch (fun _ _ h=>.inl h) (fun b o hf=>.inr hf)
    obtain ⟨news,hn,-⟩:=aJ.src (P:=P) hkd hlf
    obtain ⟨hes,hlen,hown⟩:=aV.cases hch
    have hlim:=DF.none.gone hR0 hlive
    have AP : ∃ bs,aN (fun vs ds bs=>au w I1 es ms vs ds bs) es.length rows news bs/\fP w bs /\ ∀ b o,FB w bs b o->g1.F key b o:=by
     rcases hown with ⟨-,rfl,-⟩ | ⟨b,cap,c,el,fz,bs,hh,hcap,hblk,hsz,hfz,hrows,hnd,hF⟩
     ·exact ⟨[],rfl,trivial,fun b o h=>(nomatch h.1)⟩
     ·exact ⟨bs,aN.cells hrows (PI hn (hv0.trans hh) hblk hs),hnd.2,fun b' o' h=>(hF b' o').2 (.inr h)⟩
    obtain ⟨bs,h1,h2,h3⟩:=AP
    refine ⟨_,_,news,_,bs,_,g1,I1,_,mE,ev0.trans pE,rfl,⟨hn,h1,h2,hlim.sub fun b o h=>.inr (h3 b o h),fun u hu _ b o hf hi=>?_⟩,h⟩
    have hlu:=hu
    have hne:u≠key:=by rintro rfl; rw [aP] at hu; exact hu
    rw [aO _ _ hne] at hlu
    rcases hi with hi | hi
    ·exact hR0.jP u hlu b o hf hi
    ·exact hR0.sep u key hlu hlive hne b o hf hi
  ·rename_i es' rows hc
   rw [hc] at hch
   obtain ⟨hb,h⟩:=h
   simp only [Bool.and_eq_true] at hb
   have:=LT.bP hb.1
   subst this
   refine flat (deps:=[]) (by rw [hv]; exact aJ.mono (nN _) (fun _ _ _=>rfl) _ hch) (zx hb.2) (fun news hv=>hv.mono fun b o hb=>⟨hb.elim id fun ⟨d,hd,_⟩=>(nomatch hd),rfl⟩) h
  ·exact h.elim
 ·exact aok h
end
end Go.E

namespace Go.E
open Go
section
variable {n:Fr} {σ:S} {g:Gh} {I:aB} {a:Act} {w w':World}
theorem R.renew (hR:R n σ g I a w) (k:Key) (e:KE) (h:Value) (F Z:aB) (h1:(σ.k k).bQ<e.bQ) (h2:(σ.k k).cv<e.cv) (hk:Keeps (fun b o=>¬ Z b o) w w')
  (hz:DF n σ g I Z) (hkp : ¬ gN n.np k)
  (hF : ∀ b o,F b o->Z b o\/w.heap.size<=b) (hch:gM σ.k g w I (σ.bK k e).k (g.set k h F) w' I->Hf (σ.bK k e).k (g.set k h F) w' I k e.ch) :
  R n (σ.bK k e) (g.set k h F) I a w'/\gM σ.k g w I (σ.bK k e).k (g.set k h F) w' I:=by
 refine hR.touch (σ':=σ.bK k e) (g':=g.set k h F) (I':=I) (w':=w') (fun u=>u=k) Z rfl rfl (fun u hu=>⟨aO _ _ hu,Gh.xS _ _ _ hu,Gh.uZ _ _ _ hu⟩) (fun u hu=>?_) (fun u hu hp=>?_) (fun u hu _ b o hf=>?_) (fun u v hu hv _ _ hne=>absurd (hu.trans hv.symm) hne)
  (fun u _ hl=>hz.live u hl) hz.jP hz.wW hk (fun _ _ h=>h) (fun _ _ h=>.inl h) (fun u hu _ b o hf hi=>?_) (fun b o hi=>?_) (fun ev u hu=>?_)
 ·subst hu; rw [aP]; exact ⟨h2,Nat.le_of_lt h1,fun h=>by omega⟩
 ·subst hu; exact absurd hp hkp
 ·subst hu; rw [Gh.jR] at hf; exact hF b o hf
 ·subst hu; rw [Gh.jR] at hf
  rcases hF b o hf with hh | hh
  ·exact hz.jP b o hh hi
  ·have:=nO (hR.zu b o hi); omega
 ·obtain ⟨v,hv⟩:=hR.zu b o hi
  exact ⟨v,(hk.cell (fun hh=>hz.jP b o hh hi) ⟨v,hv⟩).trans hv⟩
 ·subst hu; rw [aP]; exact hch ev
end
section
variable {Γ:Ctx} {P:Program} {cf:FuncId->List Arg->R3 fV}
variable {n:Fr} {σ:S} {g:Gh} {I:aB} {a:Act} {w w':World}
variable {o:Oper} {f:FuncId} {tr:Tr} {Q:S->Tr->Prop} {K:Act->World->Prop} {Qm:Exit->Act->World->Prop}
theorem CK {d0:Nat} {es:List LT} {ms:List M} {rows:List (List T)} {v:Value} {F Z:aB} (hdst:o.dst=some d0) (hd:dM n.np n.nt o=true) (hR:R n σ g I a w) (hK:Post P n I w Q K)
  (hk:Keeps (fun b o=>¬ Z b o) w w') (hz:DF n σ g I Z) (hF : ∀ b o,F b o->Z b o\/w.heap.size<=b)
  (hrun:(execOp a.eval o).run P w = .ok (.value v) w') (hv:Single v) (hrow:aV w' I es ms rows v F) (h:(Mq d0 es ms rows).wp cf σ tr Q):Goal P o a w K Qm:=by
 refine zw hrun ?_
 rw [hdst]
 obtain ⟨hdn,hkp⟩:=Fu hd hdst
 let e:KE:=⟨.row es ms rows,(σ.k [d0+2000000]).bQ+1,(σ.k [d0+2000000]).cv+1⟩
 obtain ⟨hR',-⟩:=hR.renew [d0+2000000] e v F Z (by simp [e]) (by simp [e]) hk hz (hkp n.big _) hF
  (fun _=>by simp only [e,Hf,Gh.oz,Gh.jR]; exact hrow)
 refine hK _ _ _ I _ _ h (hR'.put hdn (e:=.one ⟨.al [d0+2000000] ((σ.k [d0+2000000]).bQ+1),.sl es,.l []⟩) ⟨hv,trivial,?_,fun _=>?_⟩) (fun _ _ h=>h) (hk.weaken fun b o hi hh=>hi.elim (hz.jP b o hh) (hz.wW b o hh))
 ·rw [aP]; exact Nat.le_refl _
 ·rw [Gh.oz]
end
end Go.E

namespace Go.E
open Go
section
variable {Γ:Ctx} {P:Program} {cf:FuncId->List Arg->R3 fV}
variable {n:Fr} {σ:S} {g:Gh} {I:aB} {a:Act} {w w':World}
variable {o:Oper} {f:FuncId} {tr:Tr} {Q:S->Tr->Prop} {K:Act->World->Prop} {Qm:Exit->Act->World->Prop}
theorem sW {ρ:Operand->Value} {t tx:TypeId} {s x:Operand} {v:Value} (hop:o.op = .call ⟨.builtin .append,#[s,x],#[t,tx]⟩)
  (h:(Builtin.append_ #[t,tx] o.type #[ρ s,ρ x]).run P w = .ok v w'):(execOp ρ o).run P w = .ok (.value v) w':=by
 have e1:execOp ρ o=(Builtin.append_ #[t,tx] o.type #[ρ s,ρ x]).bind (fun v=>Sem.pure (Next.value v)):=by
  unfold execOp
  simp only [hop,resolve,invoke,builtin,List.map_toArray,List.map_cons,List.map_nil]
  rfl
 rw [e1,Sem.run_bind',h]
 rfl
theorem nextslicecap_le {need old:Nat} (h:old<need):Builtin.nextslicecap need old<=2 * need+512:=by
 unfold Builtin.nextslicecap
 split
 ·omega
 ·split
  ·omega
  ·rw [growBy_four]
   split
   ·omega
   ·split
    ·omega
    ·split
     ·omega
     ·split <;> omega
theorem Fy (hΓ:fE Γ P) (hd:dM n.np n.nt o=true) (hR:R n σ g I a w) (hK:Post P n I w Q K) {d0:Nat} (hdst:o.dst=some d0)
  {t tx el:TypeId} {s x:Operand} (hop:o.op = .call ⟨.builtin .append,#[s,x],#[t,tx]⟩) {te:TI} (hut:P.underlying t=some (.slice el)) (hte:vQ Γ P el te) (hne:te.aR≠[])
  {tk:TI} (htk:vQ Γ P tx tk) (hkind:(uT tk.kind||Fe tk.kind)=true) {ms:List M}
  {base:Option Addr} {sCap:Nat} {rows new:List (List T)} {olds news:List Value} {S':aB} {b1 b2:List Nat} (hv:a.eval s = .slice base rows.length sCap)
  (hold:(Builtin.firstCells te.aR.length rows.length (.slice base rows.length sCap)).run P w.drew = .ok olds.toArray w.drew) (hol:olds.length=rows.length * te.aR.length)
  (hov:aN (fun vs ds bs=>au w I te.aR ms vs ds bs) te.aR.length rows olds b1) (hnv:aN (fun vs ds bs=>au w I te.aR ms vs ds bs) te.aR.length new news b2)
  (hnd:fP w (b1++b2)) (hz:DF n σ g I (FB w (b1++b2)))
  (hs:Wu P w S' te.aR.length tx te.aR (a.eval x) new news)
  (hg:sCap<rows.length+new.length) (h:(vP d0 te.aR ms rows new).wp cf σ tr Q):Goal P o a w K Qm:=by
 obtain ⟨inf,hi1,hi2,hi3,hi4,hi5,z,hz0,hzs⟩:=hte.info
 have hpos:0<te.aR.length:=List.length_pos_iff.2 hne
 have hb0:0<inf.bytes:=by omega
 obtain ⟨dx,hdx,hdi⟩ : ∃ d,P.underlying tx=some d /\ ∀ k,d ≠ .int k:=by
  rcases hs.src.kind with ⟨e',h1⟩ | h1
  ·exact ⟨_,h1,fun k hk=>(nomatch hk)⟩
  ·exact ⟨_,h1,fun k hk=>(nomatch hk)⟩
 have hzl:z.cells.size=te.aR.length:=by
  have:=(Fx (κ:=σ.k) (g:=g) (w:=w) (I:=I) hzs).len
  simpa using this
 rw [<-hi2] at hold
 have hsrc:=hs.src
 rw [<-hi2] at hsrc
 obtain ⟨hb,h⟩:=h
 simp only [Bool.and_eq_true] at hb
 have hle:te.aR.length<=1000:=Nat.le_of_ble_eq_true hb.1
 have hnl:(rows.length+new.length) * te.aR.length<=ak:=of_decide_eq_true hb.2
 have hnn:(rows.length+new.length)<=(rows.length+new.length) * te.aR.length:=Nat.le_mul_of_pos_right _ hpos
 unfold ak at hnl
 have hp:Builtin.nextslicecap (rows.length+new.length) sCap * inf.bytes<=281474976710656:=by
  have h1:=nextslicecap_le hg
  have h2:Builtin.nextslicecap (rows.length+new.length) sCap * inf.bytes<=(2 * (rows.length+new.length)+512) * (24 * te.aR.length):=Nat.mul_le_mul h1 (by omega)
  have h3:(2 * (rows.length+new.length)+512) * (24 * te.aR.length)=48 * ((rows.length+new.length) * te.aR.length)+12288 * te.aR.length:=by
   rw [Nat.add_mul]
   congr 1
   ·rw [Nat.mul_assoc,Nat.mul_comm 24,<-Nat.mul_assoc,<-Nat.mul_assoc,Nat.mul_assoc 2]
    omega
   ·omega
  omega
 have h63:((rows.length+new.length:Nat):Int)<=9223372036854775807:=by omega
 have hrun:=run_append_grow_src (P:=P) w t tx o.type el inf z hut hi1 hz0 base rows.length sCap olds hold (a.eval x) new.length news hsrc hg h63 hp
 have hge:=grownCap_ge w (rows.length+new.length) sCap el
 have hcsz:((olds++news).toArray++Builtin.zeroCells z.cells (grownCap w (rows.length+new.length) sCap el-(rows.length+new.length))).size=grownCap w (rows.length+new.length) sCap el * te.aR.length:=by
  rw [Array.size_append,size_zeroCells,hzl]
  simp only [List.size_toArray,List.length_append,hol,hs.nn]
  rw [<-Nat.add_mul,<-Nat.add_mul]
  congr 1
  omega
 have hk:Keeps (fun _ _=>True) w (World.pushed w.drew (.cells ((olds++news).toArray++Builtin.zeroCells z.cells (grownCap w (rows.length+new.length) sCap el-(rows.length+new.length))) el)) :=
  Keeps.trans (fun _ _ h=>h) (uJ w (w.drawn+1)) (qz _ _)
 refine Pv (p:=.ret) (bs:=b1++b2) (b:=w.heap.size) (cap:=grownCap w (rows.length+new.length) sCap el) (el:=el) (fz:=(0,0)) hdst hd hR hK hk (Nat.le_refl _) (u6 w.drew _ el (0,0)) (fun o' ho'=>by omega)
  (sW hop (by rw [hv,hrun,List.length_append]; rfl)) hne (by rw [List.length_append]; unfold bG; omega) (by rw [List.length_append]; exact hge) hcsz hnd hz ?_ h
 have happ:=aN.app hov hol hnv
 refine aN.cells happ ?_
 rw [Array.toList_append,List.toList_toArray,List.length_append,Nat.add_mul,<-hol,<-hs.nn,<-List.length_append,List.take_left,List.take_length]
theorem xZ {t tx ty el:TypeId} {inf:TypeInfo} (ht:P.underlying t=some (.slice el)) (hi:P.info? el=some inf) {b sLen sCap m:Nat} {x:Value} {news:List Value} (hs:Src P inf.size tx x m news w)
  (hroom:sLen+m<=sCap) {c:Array Value} {SQ:TypeId} {fz:Nat×Nat} (hblk:Block w b c SQ fz) (hcs:sLen * inf.size+news.length<=c.size) (hsg : ∀ v∈news,Single v) (hfz : ∀ o,o<=c.size->¬ (fz.1<=o/\o<fz.2)) :
  ∃ c',(Builtin.append_ #[t,tx] ty #[.slice (some ⟨b,0,none⟩) sLen sCap,x]).run P w = .ok (.slice (some ⟨b,0,none⟩) (sLen+m) sCap) (World.put w b c' SQ fz) /\
   c'.toList=c.toList.take (sLen * inf.size)++news++c.toList.drop (sLen * inf.size+news.length):=by
 obtain ⟨c',hst,hc'⟩:=qA (P:=P) news 0 (sLen * inf.size) c w hblk (by simpa using hcs) hsg (fun j hj=>hfz _ (by omega))
 refine ⟨c',?_,by simpa using hc'⟩
 rcases hs.kind with ⟨e',hk⟩ | hk <;> simp [Builtin.append_,run_underlying ht,run_underlying hk,sizeOf,typeInfo,hi,hs.len,hroom,hs.cells,Addr.add_lit,hst]
theorem cu.get {κ:Key->KE} : ∀ {ls:List Leaf} {vs:List Value},cu κ g w I ls vs->∀ j,j<ls.length->ER κ g w I (ls.getD j default) (vs.getD j .nilIface)
 | l::ls,v::vs,h,0,_=>by simpa using h.1
 | l::ls,v::vs,h,j+1,hj=>by simpa using cu.get h.2 j (by simpa using hj)
 | [],_,_,j,hj=>by simp at hj
 | _::_,[],h,_,_=>h.elim
theorem MF (hΓ:fE Γ P) (hd:dM n.np n.nt o=true) (hR:R n σ g I a w) (hK:Post P n I w Q K) {d0:Nat} (hdst:o.dst=some d0) {t tx el:TypeId} {os ox:Operand} (hop:o.op = .call ⟨.builtin .append,#[os,ox],#[t,tx]⟩)
  {te:TI} (hut:P.underlying t=some (.slice el)) (hte:vQ Γ P el te) (hne:te.aR≠[]) {tk:TI} (htk:vQ Γ P tx tk) (hkind:(uT tk.kind||Fe tk.kind)=true)
  {key:Key} {m:Nat} {lx:Leaf} (hlx:ER σ.k g w I lx (a.eval ox)) (hv0:(σ.k key).bQ=m->a.eval os=g.h key) (hm0:m<=(σ.k key).bQ) (h:(O4 d0 te.aR key m lx).wp cf σ tr Q):Goal P o a w K Qm:=by
 obtain ⟨inf,hi1,hi2,hi3,hi4,-⟩:=hte.info
 have hpos:0<te.aR.length:=List.length_pos_iff.2 hne
 obtain ⟨hid,h⟩:=h
 cases DR:(σ.k key).ch with
 | box _=>rw [DR] at h; exact h.elim
 | fz _ _=>rw [DR] at h; exact h.elim
 | gone=>rw [DR] at h; exact h.elim
 | K9 _ _ _=>rw [DR] at h; exact h.elim
 | hol _ _ _ _ _=>rw [DR] at h; exact h.elim
 | row es0 ms Ud =>
  rw [DR] at h
  obtain ⟨hbq,h⟩:=h
  have:=LT.bP hbq
  subst this
  obtain ⟨new,deps,news,S',b2,σ1,g1,I1,t1,mE,pE,hs1,hsrc,h⟩:=JK hR hlx htk hkind h
  have hK:Post P n I1 w Q K:=hK.mono fun b o h=>(pE.jP b o h).1
  have hs:=hsrc.src
  have hs':=hs.src
  rw [<-hi2] at hs'
  obtain ⟨XZ,h⟩:=h
  simp only [Prog.wp] at h
  obtain ⟨DL,h⟩:=h
  have DL:=Nat.eq_of_beq_eq_true DL
  have aiL:(σ.k key).bQ=m:=by have:=pE.bQ key; omega
  have hv:a.eval os=g1.h key:=(hv0 aiL).trans (pE.head key (DL.trans aiL.symm)).1.symm
  cases Fz:(σ1.k key).ch with
  | box _=>rw [Fz] at h; exact h.elim
  | fz _ _=>rw [Fz] at h; exact h.elim
  | gone=>rw [Fz] at h; exact h.elim
  | K9 _ _ _=>rw [Fz] at h; exact h.elim
  | hol _ _ _ _ _=>rw [Fz] at h; exact h.elim
  | row es' ms' rows =>
   rw [Fz] at h
   obtain ⟨alE,h⟩:=h
   simp only [Bool.and_eq_true] at alE
   have:=LT.bP alE.1
   subst this
   have:=M.bP alE.2
   subst this
   have hlive:Live (σ1.k key).ch:=by rw [Fz]; trivial
   have hch:=mE.vI key
   rw [Fz] at hch
   obtain ⟨-,hlen,hown⟩:=aV.cases hch
   obtain ⟨hR2,zA⟩:=mE.gone key
   have hlim:=hsrc.lim.gone mE hlive
   have alF : ∀ d∈deps,d.1≠key:=fun d hd he=>by
    have:(deps.any fun d=>dQ d.1 key)=true:=List.any_eq_true.2 ⟨d,hd,by rw [he]; exact gu _⟩
    rw [this] at XZ
    simp at XZ
   have atw:=hsrc.away key hlive alF
   have hkb:aB.apart (g1.F key) (FB w b2):=fun b o h1 h2=>hsrc.lim.live key hlive b o h1 h2
   have auw : ∀ b o,I1 b o->I1 b o:=fun _ _ h=>h
   rcases hown with ⟨⟨aa,hh⟩,rfl,hF⟩ | ⟨b,cap,cc,SQ,fz,bs,hh,hcap,hblk,hsz,hfz,hrows,hnd,hF⟩
   ·rw [hh] at hv
    by_cases hn:new.length=0
    ·have hnil:new=[]:=List.length_eq_zero_iff.1 hn
     subst hnil
     obtain ⟨hb9,h⟩:=h
     have hnews:news=[]:=List.length_eq_zero_iff.1 (by simpa using hs.nn)
     subst hnews
     exact CK (v:=.slice aa 0 0) (F:=fun _ _=>False) (Z:=fun _ _=>False) (w':=w) hdst hd hR2 hK (Keeps.refl _ _) DF.none (fun _ _ h=>h.elim)
      (sW hop (by rw [hv]; exact run_append_nothing (P:=P) w t tx o.type el inf hut hi1 aa 0 0 (Nat.le_refl _) _ hs'))
      ⟨fun _ h=>(nomatch h),fun _ h=>(nomatch h)⟩ (aV.nil hne fun _ _ h=>h) h
    ·exact Fy hΓ hd hR2 hK hdst hop hut hte hne htk hkind (base:=aa) (sCap:=0) (rows:=[]) (olds:=[]) (news:=news) (b1:=[]) hv (by
      cases aa with
      | none=>exact run_firstCells_none _ _ _ _ _
      | some ad=>exact run_firstCells_some _ _ _ _ _ _ [] (by simp) (fun j u hu=>by simp at hu)) (by simp) rfl hsrc.vals hsrc.nd
      (hlim.sub fun b o h=>.inl h) hs (by simp; omega) h
   ·rw [hh] at hv
    obtain ⟨hn1,hn2⟩:=hnd
    have atx:rows.length * te.aR.length<=cc.size:=by rw [hsz]; exact Nat.mul_le_mul_right _ hcap
    have hFb : ∀ b' o',FB w bs b' o'->g1.F key b' o':=fun b' o' h=>(hF b' o').2 (.inr h)
    have aom:fP w (bs++b2):=kY.2 ⟨hn2,hsrc.nd,wY.1 fun b' o' h1 h2=>hkb b' o' (hFb b' o' h1) h2⟩
    let olds:=cc.toList.take (rows.length * te.aR.length)
    have ho2:olds.length=rows.length * te.aR.length:=by simp only [olds,List.length_take,Array.length_toList]; omega
    have hov:aN (fun vs ds bs=>au w I1 te.aR ms vs ds bs) te.aR.length rows olds bs:=aN.cells hrows (by simp only [olds]; rw [List.take_take,Nat.min_self])
    by_cases hroom:rows.length+new.length<=cap
    ·have ajW:(rows.length+new.length) * te.aR.length<=cc.size:=by rw [hsz]; exact Nat.mul_le_mul_right _ hroom
     have ajX:=ajW
     rw [Nat.add_mul,<-hs.nn] at ajX
     obtain ⟨hb9,h⟩:=h
     simp only [Bool.and_eq_true] at hb9
     have hb9:=of_decide_eq_true hb9.2
     unfold ak at hb9
     obtain ⟨c',hrun,hc'⟩:=xZ (P:=P) (ty:=o.type) hut hi1 hs' hroom hblk (by rw [hi2]; exact ajX) hs.single hfz
     rw [hi2] at hc'
     have hcs:c'.size=cc.size:=by
      have:=congrArg List.length hc'
      simp only [Array.length_toList,List.length_append,List.length_take,List.length_drop] at this
      omega
     have hk:Keeps (fun b o=>¬ g1.F key b o) w (World.put w b c' SQ fz):=vS hblk hcs fun o'' aaR=>by
      have : ¬ o''<cc.size:=fun hlt=>aaR ((hF b o'').2 (.inl ⟨rfl,hlt⟩))
      rw [Array.getElem?_eq_none (by omega),Array.getElem?_eq_none (by omega)]
     have hk0:Keeps (fun x _=>x≠b\/rZ w b=0) w (World.put w b c' SQ fz):=vS hblk hcs fun o'' aaR=>by
      have h0:=aaR.resolve_left fun h=>h rfl
      rw [iU hblk] at h0
      rw [Array.getElem?_eq_none (by omega),Array.getElem?_eq_none (by omega)]
     have hbn : ∀ x∈bs++b2,b=x->rZ w b=0:=fun x hx e=>by
      subst e
      rcases List.mem_append.1 hx with hm | hm
      ·exact hn1 hm
      ·rcases Nat.eq_zero_or_pos (rZ w b) with h8 | h8
       ·exact h8
       ·exact (hkb b 0 ((hF b 0).2 (.inl ⟨rfl,by rw [iU hblk] at h8; exact h8⟩)) ⟨hm,h8⟩).elim
     have hiI : ∀ x o,I1 x o->I1 x o/\cellAt (World.put w b c' SQ fz) x o=cellAt w x o:=fun x o hi=>⟨hi,hk.cell (fun hf=>mE.jP key hlive x o hf hi) (mE.zu x o hi)⟩
     have happ:=aN.app hov ho2 hsrc.vals
     have acy : ∀ x∈bs++b2,∃ c el fz,Block w x c el fz:=oQ (I:=I1) (fun vs ds bs h=>au.blocks te.aR h) _ happ
     have aon:aN (fun vs ds bs=>au (World.put w b c' SQ fz) I1 te.aR ms vs ds bs) te.aR.length (rows++new) c'.toList (bs++b2):=by
      refine aN.imp (fun vs ds b'' alC h=>au.keep hk0 hiI te.aR (fun x o'' hf=>?_) h) (aN.cells happ ?_)
      ·by_cases hxb:x=b
       ·subst hxb; exact .inr (hbn x (alC x hf.1) rfl)
       ·exact .inl hxb
      ·have e1:(rows++new).length * te.aR.length=(olds++news).length:=by rw [List.length_append,List.length_append,Nat.add_mul,ho2,hs.nn]
       rw [e1,hc',List.take_left,List.take_length]
     let F':aB:=fun b' o'=>(b'=b/\o'<cc.size)\/FB w (bs++b2) b' o'
     have hrow:=aV.mk' (w:=World.put w b c' SQ fz) (I:=I1) (F:=F') hne (by rw [List.length_append]; unfold bG; have:=Nat.le_mul_of_pos_right (rows.length+new.length) hpos; omega) (by rw [List.length_append]; exact hroom) (kI hblk) (hcs.trans hsz) (by rw [hcs]; exact hfz) aon
      ⟨fun hm=>by rw [wX hk ⟨_,_,_,hblk⟩]; exact hbn b hm rfl,qY hk acy aom⟩ (fun b' o'=>by rw [hcs,Fv hk acy])
     rw [List.length_append] at hrow
     refine CK (v:=.slice (some ⟨b,0,none⟩) (rows.length+new.length) cap) (F:=F') (Z:=fun b o=>FB w b2 b o\/g1.F key b o) hdst hd hR2 hK (hk.weaken fun b o hn hf=>hn (.inr hf)) hlim (fun b' o' hf=>.inl ?_) (sW hop (by rw [hv]; exact hrun)) ⟨fun _ h=>(nomatch h),fun _ h=>(nomatch h)⟩ hrow h
     rcases hf with hf | hf
     ·exact .inr ((hF b' o').2 (.inl hf))
     ·exact (ni.1 hf).elim (fun h=>.inr (hFb b' o' h)) .inl
    ·have hold:=run_firstCells_some (P:=P) w.drew te.aR.length rows.length ⟨b,0,none⟩ rows.length cap olds ho2 (fun j u hu=>by
      obtain ⟨hj,rfl⟩:=List.getElem?_eq_some_iff.1 hu
      rw [addr_add]
      show cellAt w b (0+j)=_
      rw [mH hblk,Nat.zero_add]
      simp only [olds,List.getElem_take,Array.getElem_toList]
      exact Array.getElem?_eq_getElem (by simp only [olds,List.length_take,Array.length_toList] at hj; omega))
     exact Fy hΓ hd hR2 hK hdst hop hut hte hne htk hkind hv hold ho2 hov hsrc.vals aom (hlim.sub fun b o h=>(ni.1 h).elim (fun h=>.inr (hFb b o h)) .inl) hs (by omega) h
theorem ad2 (hΓ:fE Γ P) (hd:dM n.np n.nt o=true) (hR:R n σ g I a w) (hK:Post P n I w Q K) {c:Call} (hop:o.op = .call c) (hc:c.callee = .builtin .append)
  (h:(bH Γ f o).wp cf σ tr Q):Goal P o a w K Qm:=by
 simp only [bH,hop,hc] at h
 obtain ⟨d0,hdst,h⟩:=dX h
 obtain ⟨es,t1,hes,h⟩:=zy hR h
 split at h
 ·rename_i s x t tx hty
  obtain ⟨ti,-,hti,h⟩:=gD hΓ h
  obtain ⟨tk,-,htk,h⟩:=gD hΓ h
  split at h
  ·rename_i el aR hk hlts
   obtain ⟨hkind,h⟩:=h
   obtain ⟨hut,te,hte,hl',hne⟩:=mI hti hk
   rw [hlts] at hl'
   simp only [List.cons.injEq,LT.sl.injEq,and_true] at hl'
   subst hl'
   have Il:=hΓ.ty _ _ hte
   obtain ⟨inf,hi1,hi2,hi3,hi4,-⟩:=Il.info
   obtain ⟨os,ox,hargs⟩ : ∃ os ox,c.args = #[os,ox]/\jY σ.k g w I s (a.eval os)/\jY σ.k g w I x (a.eval ox):=by
    cases hl:c.args.toList with
    | nil=>rw [hl] at hes; exact hes.elim
    | cons p l1 =>
     rw [hl] at hes
     cases l1 with
     | nil=>exact hes.2.elim
     | cons q l2 =>
      cases l2 with
      | nil=>exact ⟨p,q,Array.toList_inj.1 (by simpa using hl),hes.1,hes.2.1⟩
      | cons _ _=>exact hes.2.2.elim
   obtain ⟨hargs,alG,aqH⟩:=hargs
   have hop':o.op = .call ⟨.builtin .append,#[os,ox],#[t,tx]⟩:=by
    rw [hop]
    obtain ⟨ca,args,aqI⟩:=c
    simp only at hc hargs hty
    subst hc; subst hargs
    have:aqI = #[t,tx]:=Array.toList_inj.1 (by simpa using hty)
    rw [this]
   unfold O5 at h
   obtain ⟨ls,rfl,hls,h⟩:=Dw alG h
   obtain ⟨lx,rfl,hlx,h⟩:=Dw aqH h
   obtain ⟨lst,llt,ld⟩:=ls
   simp only at h
   cases lst with
   | sc=>exact h.elim
   | sn _=>exact h.elim
   | dead=>exact h.elim
   | nl =>
    obtain ⟨-,-,hv,-⟩:=hls
    have hnl : ∃ ms t2,(uD te.aR ms lx fun new _=>vP d0 te.aR ms [] new).wp cf σ t2 Q:=by
     dsimp only at h
     split at h
     ·simp only [Prog.wp] at h
      split at h <;> exact ⟨_,_,h⟩
     ·exact ⟨_,_,h⟩
     ·exact ⟨_,_,h⟩
    clear h
    obtain ⟨msN,t2,h⟩:=hnl
    obtain ⟨new,deps,news,S',b2,σ1,g1,I1,t1,mE,pE,hs1,hsrc,h⟩:=JK hR hlx htk hkind h
    have hK:Post P n I1 w Q K:=hK.mono fun b o h=>(pE.jP b o h).1
    have hs:=hsrc.src
    have hs':=hs.src
    rw [<-hi2] at hs'
    by_cases hn:new.length=0
    ·have hnil:new=[]:=List.length_eq_zero_iff.1 hn
     subst hnil
     obtain ⟨hb9,h⟩:=h
     have hnews:news=[]:=List.length_eq_zero_iff.1 (by simpa using hs.nn)
     subst hnews
     exact CK (v:=.slice none 0 0) (F:=fun _ _=>False) (Z:=fun _ _=>False) (w':=w) hdst hd mE hK (Keeps.refl _ _) DF.none (fun _ _ h=>h.elim)
      (sW hop' (by rw [hv]; exact run_append_nothing (P:=P) w t tx o.type el inf hut hi1 none 0 0 (Nat.le_refl _) _ hs'))
      ⟨fun _ h=>(nomatch h),fun _ h=>(nomatch h)⟩ (aV.nil hne fun _ _ h=>h) h
    ·exact Fy hΓ hd mE hK hdst hop' hut Il hne htk hkind (base:=none) (sCap:=0) (rows:=[]) (olds:=[]) (news:=news) (b1:=[]) hv (run_firstCells_none _ _ _ _ _) (by simp) rfl hsrc.vals hsrc.nd hsrc.lim hs (by simp; omega) h
   | al key m =>
    obtain ⟨-,-,hh1,hh2⟩:=hls
    exact MF hΓ hd hR hK hdst hop' hut Il hne htk hkind hlx hh2 hh1 h
   | sb key m cv r off =>
    obtain ⟨-,-,hh1,hh2,hh3⟩:=hls
    obtain ⟨hq,h⟩:=h
    simp only [Bool.and_eq_true] at hq
    have hid:=Nat.eq_of_beq_eq_true hq.1
    have hcv:=Nat.eq_of_beq_eq_true hq.2
    obtain ⟨b0,o0,hl1,hl2,hl3⟩:=(hh3 (fun d hd=>by rw [List.mem_singleton.1 hd]; exact hcv)).2 hid
    obtain ⟨es',ms',rows',ls',vs,b,cap,σ1,g1,t1,mm,hc0,hr,h,mE,pE,hs1,DL,Fz,hgh,hgb,hlen,hcells,Ws,-⟩:=Iq hR h
    split at h
    ·rename_i key2 n2 hst
     have hoff:off<ls'.length:=by
      by_cases ho:off<ls'.length
      ·exact ho
      ·have e0:ls'.getD off default=default:=by simp [List.getD,List.getElem?_eq_none (by omega:ls'.length<=off)]
       rw [e0] at hst
       exact (nomatch hst)
     have aoo:=cu.len' Ws
     have hlf:ER σ1.k g1 w I (ls'.getD off default) (vs.getD off .nilIface):=cu.get Ws off hoff
     rw [hc0,hgh] at hl1
     simp only [addrIn,mW,Option.some.injEq,Prod.mk.injEq,Nat.zero_add] at hl1
     obtain ⟨rfl,rfl⟩:=hl1
     have hval:a.eval os=vs.getD off .nilIface:=by
      have:=hcells.get off (by omega)
      rw [hl2] at this
      have e1:vs.getD off .nilIface=vs[off]'(by omega):=by simp [show off<vs.length by omega]
      rw [e1]; exact Option.some.inj this
     obtain ⟨-,hlf⟩:=hlf
     rw [hst] at hlf
     obtain ⟨-,aqJ,aqK⟩:=hlf
     exact MF hΓ hd mE hK hdst hop' hut Il hne htk hkind (pE.lf hlx) (fun e=>hval.trans (aqK e)) aqJ h
    ·exact h.elim
  ·exact h.elim
 ·exact h.elim
end
end Go.E

namespace Go.E
open Go
section
variable {Γ:Ctx} {P:Program} {cf:FuncId->List Arg->R3 fV}
variable {n:Fr} {σ:S} {g:Gh} {I:aB} {a:Act} {w w':World}
variable {o:Oper} {f:FuncId} {tr:Tr} {Q:S->Tr->Prop} {K:Act->World->Prop} {Qm:Exit->Act->World->Prop}
theorem u7 (hΓ:fE Γ P) (hd:dM n.np n.nt o=true) (hR:R n σ g I a w) (hK:Post P n I w Q K) {t:TypeId} {ti:TI} {x:Operand} {lo hi:Option Operand} {d0:Nat} (hop:o.op = .slice t x lo hi none)
  (hdst:o.dst=some d0) (hty:vQ Γ P t ti) {e:fC} (he:jY σ.k g w I e (a.eval x)) {Ik Nt:Option fC}
  (hlo : ∀ x,lo=some x->∃ e,Ik=some e/\jY σ.k g w I e (a.eval x)) (DC:lo=none->Ik=none)
  (hhi : ∀ x,hi=some x->∃ e,Nt=some e/\jY σ.k g w I e (a.eval x)) (Ll:hi=none->Nt=none)
  (h:(ou ti 1 d0 e Ik Nt).wp cf σ tr Q):Goal P o a w K Qm:=by
 unfold ou at h
 obtain ⟨l,rfl,hl,h⟩:=Dw he h
 simp only at h
 split at h
 ·
  refine BO (cf:=cf) (tr:=tr) hΓ hd hR hK hop hdst hty he hlo DC hhi Ll ?_
  unfold ou VJ
  simp only
  rename_i h1 h2
  rw [h1,h2]
  exact h
 ·obtain ⟨st,lt,d⟩:=l
  cases st with
  | al key m =>
   cases Ik with
   | some _ =>
    obtain ⟨es,rows,deps,t',h,pG,h1,h2⟩:=qZ hR hl h
    obtain ⟨hk,h⟩:=h
    obtain ⟨lv,hv',hb1,hb2,hb3,hb4,h⟩:=vR hR lo hi hlo DC hhi Ll h
    exact h.elim
   | none =>
    have hl0:=hl
    obtain ⟨hs,hsl,hm1,hm2⟩:=hl
    unfold xK at h
    simp only at h
    cases lt with
    | sc _=>exact hsl.elim
    | sl es0 =>
    simp only at h
    obtain ⟨hid,h⟩:=h
    have hv:=hm2 (Nat.eq_of_beq_eq_true hid)
    cases DR:(σ.k key).ch with
    | box _=>rw [DR] at h; exact h.elim
    | gone=>rw [DR] at h; exact h.elim
    | fz es rows =>
     rw [DR] at h
     obtain ⟨hk,h⟩:=h
     obtain ⟨lv,hv',hb1,hb2,hb3,hb4,h⟩:=vR hR lo hi hlo DC hhi Ll h
     unfold Prog.wp at h
     simp only [DR] at h
     exact h.elim
    | K9 _ _ _=>rw [DR] at h; exact h.elim
    | hol _ _ _ _ _=>rw [DR] at h; exact h.elim
    | row es ms rows =>
     rw [DR] at h
     obtain ⟨hk,h⟩:=h
     split at hk
     ·rename_i tes Wm
      simp only [Bool.and_eq_true] at hk
      obtain ⟨hk,hlen⟩:=hk
      have hlen:=Nat.eq_of_beq_eq_true hlen
      obtain ⟨el,hk⟩:=uH hk
      obtain ⟨hu,te,hte,hl',-⟩:=mI hty hk
      rw [Wm] at hl'
      simp only [List.cons.injEq,LT.sl.injEq,and_true] at hl'
      subst hl'
      have hch:=hR.vI key
      rw [DR] at hch
      have pG:aJ w (fun b o=>I b o\/g.F key b o) (.sl es) (a.eval x) (.l rows):=by
       rw [hv]; exact aV.leaf hch (fun _ _ h=>.inl h) (fun _ _ h=>.inr h)
      obtain ⟨aa,cap,hx,hcap,-,-⟩:=Dz pG
      obtain ⟨lv,hv',hb1,hb2,hb3,hb4,h⟩:=vR hR lo hi hlo DC hhi Ll h
      have hb3:=of_decide_eq_true hb3
      have hb4:=of_decide_eq_true hb4
      have hlv:lv=0:=by
       cases lo with
       | none =>
         rcases hb1 with ⟨-,h⟩ | ⟨k,h⟩
         ·exact h
         ·simp at h
       | some y=>obtain ⟨e',h1,-⟩:=hlo y rfl; cases h1
      subst hlv
      have hrun:=Dy hop hx hu (run_sizeOf (w:=w) (hΓ.ty _ _ hte)) hb1 hb2 hb3 hb4 hcap
      unfold Prog.wp at h
      simp only [DR] at h
      obtain ⟨hno,h⟩:=h
      have hno:=zx hno
      obtain ⟨mE,pE⟩:=hR.gone key
      have hlive:Live (σ.k key).ch:=by rw [DR]; trivial
      have hlim:=DF.none.gone hR hlive
      obtain ⟨hes,hmx,hown⟩:=aV.cases hch
      have hlt:(rows.take hv'.toNat).length=hv'.toNat:=by rw [List.length_take]; omega
      refine CK (cf:=cf) (F:=g.F key) (Z:=fun b o=>False\/g.F key b o) (w':=w) hdst hd mE hK (Keeps.refl _ _) hlim (fun _ _ h=>.inl (.inr h)) hrun ⟨fun _ h=>(nomatch h),fun _ h=>(nomatch h)⟩ ?_ h
      rcases hown with ⟨⟨ab,hh⟩,rfl,hF⟩ | ⟨b,cap',cc,SQ,fz,bs,hh,aty,hblk,hsz,hfz,hrows,hnd,hF⟩
      ·rw [hv,hh] at hx
       simp only [Value.slice.injEq] at hx
       obtain ⟨rfl,h5,rfl⟩:=hx
       have:hv'.toNat=0:=by simp at hb3; omega
       simp only [this,List.take_nil]
       exact aV.nil hes hF
      ·rw [hv,hh] at hx
       simp only [Value.slice.injEq] at hx
       obtain ⟨rfl,h5,rfl⟩:=hx
       have hbs:=CG hno hrows
       subst hbs
       obtain ⟨b1,b2,e1,h6,-⟩:=hrows.split hv'.toNat
       have e2:b1=[]:=(List.append_eq_nil_iff.1 e1.symm).1
       subst e2
       have:=aV.mk' (F:=g.F key) hes (by omega) (show (rows.take hv'.toNat).length<=cap' by omega) hblk hsz hfz h6 hnd hF
       rw [hlt] at this
       have e3:(if (0:Int).toNat=cap' then (some ⟨b,0,none⟩:Option Addr) else some ⟨b,0,none⟩)=some ⟨b,0,none⟩:=by split <;> rfl
       simpa [addr_add] using this
     ·cases hk
  | _ =>
   obtain ⟨es,rows,deps,t',h,pG,h1,h2⟩:=qZ hR hl h
   obtain ⟨hk,h⟩:=h
   obtain ⟨lv,hv',hb1,hb2,hb3,hb4,h⟩:=vR hR lo hi hlo DC hhi Ll h
   exact h.elim
theorem Wv (hΓ:fE Γ P) (hd:dM n.np n.nt o=true) (hR:R n σ g I a w) (hK:Post P n I w Q K) {t:TypeId} {ti:TI} {x:Operand} {lo hi:Option Operand} {d0:Nat} (hop:o.op = .slice t x lo hi none)
  (hdst:o.dst=some d0) (hty:vQ Γ P t ti) {e:fC} (he:jY σ.k g w I e (a.eval x)) {Ik Nt:Option fC}
  (hlo : ∀ x,lo=some x->∃ e,Ik=some e/\jY σ.k g w I e (a.eval x)) (DC:lo=none->Ik=none)
  (hhi : ∀ x,hi=some x->∃ e,Nt=some e/\jY σ.k g w I e (a.eval x)) (Ll:hi=none->Nt=none)
  {c:Nat} (h:(ou ti (c+2) d0 e Ik Nt).wp cf σ tr Q):Goal P o a w K Qm:=by
 unfold ou at h
 obtain ⟨l,rfl,hl,h⟩:=Dw he h
 simp only at h
 split at h
 ·refine BO (cf:=cf) (tr:=tr) hΓ hd hR hK hop hdst hty he hlo DC hhi Ll ?_
  unfold ou VJ
  simp only
  rename_i h1 h2
  rw [h1,h2]
  exact h
 ·obtain ⟨es,rows,deps,t',h,pG,h1,h2,hkeys⟩:=Pp hR hl h
  obtain ⟨hk,h⟩:=h
  split at hk
  ·rename_i tes Wm
   simp only [Bool.and_eq_true] at hk
   obtain ⟨hk,hlen⟩:=hk
   have hlen:=Nat.eq_of_beq_eq_true hlen
   obtain ⟨el,hk⟩:=uH hk
   obtain ⟨hu,te,hte,hl',-⟩:=mI hty hk
   rw [Wm] at hl'
   simp only [List.cons.injEq,LT.sl.injEq,and_true] at hl'
   subst hl'
   obtain ⟨aa,cap,hv,hcap,-,-⟩:=Dz pG
   obtain ⟨lv,hv',hb1,hb2,hb3,hb4,h⟩:=vR hR lo hi hlo DC hhi Ll h
   have hb3:=of_decide_eq_true hb3
   have hb4:=of_decide_eq_true hb4
   have hrun:=Dy hop hv hu (run_sizeOf (w:=w) (hΓ.ty _ _ hte)) hb1 hb2 hb3 hb4 hcap
   rw [<-hlen] at hrun
   have fin : ∀ (σ1:S) (I1:aB) (t1:Tr),R n σ1 g I1 a w->gM σ.k g w I σ1.k g w I1->aJ w I1 (.sl es) (a.eval x) (.l rows) ->
     (Prog.mG d0 (.one ⟨.sn [],.sl es,.l ((rows.take hv'.toNat).drop lv.toNat)⟩) .ret).wp cf σ1 t1 Q->Goal P o a w K Qm:=by
    intro σ1 I1 t1 mE pE hlf h
    rw [hv] at hlf
    have hfin:=Ui (l:=lv.toNat) (h:=hv'.toNat) hlf (by omega) (by omega)
    exact JF (e:=.one ⟨.sn [],.sl es,.l ((rows.take hv'.toNat).drop lv.toNat)⟩) hdst hd mE (hK.mono fun b o h=>(pE.jP b o h).1) hrun ⟨hfin.single,trivial,uY _,fun _=>aJ.mono (nN _) (fun _ _ _=>rfl) _ hfin⟩ h
   split at h
   ·rename_i key m hst
    obtain ⟨hs,hl⟩:=hl
    rw [hst] at hl
    obtain ⟨-,hm1,hm2⟩:=hl
    obtain ⟨hid,h⟩:=h
    simp only [Bool.and_eq_true,Bool.not_eq_true'] at hid
    have hkd:key≠uS:=fun e=>by rw [e,gu] at hid; cases hid.2
    have hsub : ∀ b o,dF σ.k g I deps b o->I b o\/(Live (σ.k key).ch/\g.F key b o):=fun b o hb=>by
     rcases hb with hb | ⟨d,hd,⟨e,-⟩ | hb⟩
     ·exact .inl hb
     ·have:=hkeys d hd
      simp only [wV,hst,List.mem_singleton] at this
      exact absurd (this ▸ e) hkd
     ·have:=hkeys d hd
      simp only [wV,hst,List.mem_singleton] at this
      rw [this] at hb
      exact .inr hb
    split at h
    ·rename_i es0 ms0 Ud hc
     obtain ⟨mE,pE⟩:=hR.freeze hc
     exact fin _ _ _ mE pE (aJ.mono (fun b o hb=>(hsub b o hb).imp id And.right) (fun _ _ _=>rfl) _ pG) h
    ·rename_i es0 Ud hc
     refine fin σ I _ hR gM.refl (aJ.mono (fun b o hb=>(hsub b o hb).elim id fun h=>?_) (fun _ _ _=>rfl) _ pG) h
     have h:=h.1
     rw [hc] at h; exact h.elim
    ·exact h.elim
   ·rename_i hst
    have hnil : ∀ d∈deps,False:=fun d hd=>by have:=hkeys d hd; simp [wV,hst] at this
    exact fin σ I _ hR gM.refl (aJ.mono (fun b o hb=>hb.elim id fun ⟨d,hd,_⟩=>(hnil d hd).elim) (fun _ _ _=>rfl) _ pG) h
   ·rename_i hst
    have hnil : ∀ d∈deps,False:=fun d hd=>by have:=hkeys d hd; simp [wV,hst] at this
    exact fin σ I _ hR gM.refl (aJ.mono (fun b o hb=>hb.elim id fun ⟨d,hd,_⟩=>(hnil d hd).elim) (fun _ _ _=>rfl) _ pG) h
   ·exact h.elim
  ·cases hk
theorem Us {κ:Key->KE} {s:ST} : ∀ {ls:List Leaf} {vs:List Value},acg s ls=true->cu κ g w I ls vs->∀ i (h:i<ls.length),∃ v,vs[i]? = some v/\Ms s v (ls[i]).d
 | l::ls,v::vs,h,hl,i,hi=>by
  simp only [acg,Bool.and_eq_true] at h
  cases i with
  | zero =>
   refine ⟨v,rfl,?_⟩
   obtain ⟨st,lt,d⟩:=l
   obtain ⟨h1,-⟩:=h
   split at h1
   ·rename_i s' e1 e2
    have e3:=of_decide_eq_true h1
    simp only at e1 e2
    subst e1 e2 e3
    obtain ⟨-,s1,e4,h5⟩:=hl.1
    cases e4
    exact h5
   ·cases h1
  | succ i=>exact Us h.2 hl.2 i (by simpa using hi)
 | [],_,_,_,_,hi=>by simp at hi
 | _::_,[],_,hl,_,_=>hl.elim
theorem X9 (hΓ:fE Γ P) (hd:dM n.np n.nt o=true) (hR:R n σ g I a w) (hK:Post P n I w Q K) {t:TypeId} {ti:TI} {x:Operand} {d0 m:Nat} {el:TypeId} (hop:o.op = .slice t x none none none)
  (hdst:o.dst=some d0) (hty:vQ Γ P t ti) (hk:ti.kind = .array m el) {e:fC} (he:jY σ.k g w I e (a.eval x)) (h:(O6 Γ m el d0 e).wp cf σ tr Q):Goal P o a w K Qm:=by
 unfold O6 at h
 obtain ⟨te,-,hte,h⟩:=gD hΓ h
 split at h
 ·rename_i s key mm r off hl hold
  clear hold
  simp only [Prog.wp] at h
  obtain ⟨hid,h⟩:=h
  have hid:=Nat.eq_of_beq_eq_true hid
  split at h
  ·rename_i ls hc
   obtain ⟨hq,h⟩:=h
   simp only [Bool.and_eq_true] at hq
   obtain ⟨⟨⟨hoff,hlen⟩,hm⟩,hall⟩:=hq
   have hoff:=Nat.eq_of_beq_eq_true hoff
   have hlen:=Nat.eq_of_beq_eq_true hlen
   have hm:=Nat.le_of_ble_eq_true hm
   obtain ⟨-,-,he⟩:=he
   obtain ⟨b,oo,hx,kH⟩:=he hid
   have hch:=hR.vI key
   rw [hc] at hch kH
   obtain ⟨bb,o',c,SQ,fz,hh,hblk,hsz,-,hF,hls⟩:=hch
   rw [hh] at kH
   simp only [addrIn,Option.some.injEq,Prod.mk.injEq] at kH
   obtain ⟨rfl,rfl⟩:=kH
   obtain ⟨d,hu,hkd⟩:=hty.und
   rw [hk] at hkd
   obtain rfl:d = .array m el:=hkd
   have h3:(Instr.sliceAt t (a.eval x) none none none).run P w = .ok (.slice (some ⟨bb,o'+off,none⟩) m m) w:=by
    rw [hx]
    simp only [Instr.sliceAt,Sem.run_bind,run_underlying hu,Result.andThen_ok,Instr.sureAddr,Sem.run_pure]
    simp only [Instr.sliceBounds,pure_bind,Sem.run_bind,Sem.run_pure,Result.andThen_ok,run_sizeOf (w:=w) hte]
    simp only [Nat.sub_zero,Nat.zero_mul,Addr.add,Nat.add_zero,ite_self]
   have hrun:(execOp a.eval o).run P w = .ok (.value (.slice (some ⟨bb,o'+off,none⟩) m m)) w:=by
    simp only [execOp,hop]
    rw [Sem.run_bind,show (none:Option Operand).map a.eval=none from rfl,h3]
    rfl
   refine JF hdst hd hR hK hrun (e:=.one ⟨.sn [(key,(σ.k key).cv)],.sl [.sc s],.l (ls.map fun l=>[l.d])⟩) ⟨⟨fun _ h=>(nomatch h),fun _ h=>(nomatch h)⟩,trivial,fun d hd=>by rw [List.mem_singleton.1 hd]; exact Nat.le_refl _,fun _=>?_⟩ h
   have hlr:(ls.map fun l=>[l.d]).length=m:=by simp [hlen]
   rw [<-hlr]
   refine Gl (Nat.le_refl _) (by rw [hlr]; unfold bG; omega) (.inr ⟨bb,o'+off,rfl,fun i hi=>?_⟩)
   have hi':i<ls.length:=by simpa using hi
   obtain ⟨v,hv,hs⟩:=Us hall hls i hi'
   simp only [List.getElem_map,List.length_cons,List.length_nil,Nat.zero_add,Nat.mul_one]
   have hcells:=bO.of_block hblk ((c.toList.drop o').take ls.length) o' fun j hj=>by
    simp only [List.length_take,List.length_drop,Array.length_toList] at hj
    simp only [List.getElem_take,List.getElem_drop,Array.getElem_toList]
    rw [Array.getElem?_eq_getElem (by omega)]
   have hcell:cellAt w bb (o'+off+i)=some v:=by
    subst hoff
    have h6:i<((c.toList.drop o').take ls.length).length:=by
     simp only [List.length_take,List.length_drop,Array.length_toList]; omega
    have h7:=hcells.get i h6
    rw [List.getElem?_eq_getElem h6] at hv
    cases hv
    simpa using h7
   refine ⟨_,_,v,rfl,?_,hcell,?_,rfl⟩
   ·exact .inr ⟨_,List.mem_singleton.2 rfl,.inr ⟨by rw [hc]; trivial,(hF _ _).2 ⟨rfl,by omega,by omega⟩⟩⟩
   ·exact hs
  ·exact h.elim
 ·exact h.elim
theorem afN (hΓ:fE Γ P) (hd:dM n.np n.nt o=true) (hR:R n σ g I a w) (hK:Post P n I w Q K) {t:TypeId} {x:Operand} {lo hi:Option Operand} (hop:o.op = .slice t x lo hi none)
  (h:(bH Γ f o).wp cf σ tr Q):Goal P o a w K Qm:=by
 simp only [bH,hop] at h
 obtain ⟨d0,hdst,h⟩:=dX h
 obtain ⟨ti,-,hti,h⟩:=gD hΓ h
 obtain ⟨e,t1,he,h⟩:=jQ hR h
 have u7 : ∀ {Ik Nt:Option fC} {tr:Tr},(∀ x,lo=some x->∃ e,Ik=some e/\jY σ.k g w I e (a.eval x))->(lo=none->Ik=none)->(∀ x,hi=some x->∃ e,Nt=some e/\jY σ.k g w I e (a.eval x))->(hi=none->Nt=none) ->
   (ou ti (Γ.cut f d0) d0 e Ik Nt).wp cf σ tr Q->Goal P o a w K Qm:=fun h1 h2 h3 h4 h=>by
  cases hc:Γ.cut f d0 with
  | zero=>rw [hc] at h; exact BO hΓ hd hR hK hop hdst hti he h1 h2 h3 h4 h
  | succ c =>
   rw [hc] at h
   cases c with
   | zero=>exact u7 hΓ hd hR hK hop hdst hti he h1 h2 h3 h4 h
   | succ c=>exact Wv hΓ hd hR hK hop hdst hti he h1 h2 h3 h4 h
 cases lo with
 | none =>
  cases hi with
  | none =>
   simp only at h
   split at h
   ·rename_i m el hk
    exact X9 hΓ hd hR hK hop hdst hti hk he h
   ·exact u7 (fun _ h=>(nomatch h)) (fun _=>rfl) (fun _ h=>(nomatch h)) (fun _=>rfl) h
  | some y =>
   obtain ⟨e2,t2,he2,h⟩:=jQ hR h
   exact u7 (fun _ h=>(nomatch h)) (fun _=>rfl) (fun _ h=>by cases h; exact ⟨_,rfl,he2⟩) (fun h=>(nomatch h)) h
 | some z =>
  obtain ⟨e3,t3,he3,h⟩ : ∃ e3 t3,jY σ.k g w I e3 (a.eval z) /\ ∃ Nt,(∀ x,hi=some x->∃ e,Nt=some e/\jY σ.k g w I e (a.eval x))/\(hi=none->Nt=none)/\(ou ti (Γ.cut f d0) d0 e (some e3) Nt).wp cf σ t3 Q:=by
   cases hi with
   | none =>
    obtain ⟨e2,t2,he2,h⟩:=jQ hR h
    exact ⟨e2,t2,he2,none,fun _ h=>(nomatch h),fun _=>rfl,h⟩
   | some y =>
    obtain ⟨e2,t2,he2,h⟩:=jQ hR h
    obtain ⟨e4,t4,he4,h⟩:=jQ hR h
    exact ⟨e2,t4,he2,some e4,fun _ h=>by cases h; exact ⟨_,rfl,he4⟩,fun h=>(nomatch h),h⟩
  obtain ⟨Nt,h1,h2,h⟩:=h
  exact u7 (fun _ h=>by cases h; exact ⟨_,rfl,he3⟩) (fun h=>(nomatch h)) h1 h2 h
theorem aaS {S:aB} {es:List LT} {aa:Option Addr} {cap m:Nat} {rows:List (List T)} {l h:Nat} (hl:aJ w S (.sl es) (.slice aa rows.length cap) (.l rows)) (h1:h<=rows.length) (h2:l<=h) (hm:h<=m) :
  aJ w S (.sl es) (.slice (if m=l then aa else aa.map (·.add (l * es.length))) (h-l) (m-l)) (.l ((rows.take h).drop l)):=by
 obtain ⟨aa',cap',e1,h3,h4,h5⟩:=Dz hl
 cases e1
 have hlen:((rows.take h).drop l).length=h-l:=by simp; omega
 rw [<-hlen]
 refine Gl (by omega) (by omega) ?_
 by_cases hz:h=l
 ·left; apply List.length_eq_zero_iff.1; omega
 ·rcases h5 with rfl | ⟨b,o,rfl,h5⟩
  ·simp at h1; omega
  ·right
   have hne:m≠l:=by omega
   refine ⟨b,o+l * es.length,by simp [hne,addr_add],fun i hi=>?_⟩
   have hi':i+l<rows.length:=by omega
   have:=h5 (l+i) (by omega)
   have e1:(List.drop l (List.take h rows))[i]=rows[l+i]:=by
    simp [List.getElem_drop,List.getElem_take]
   rw [e1,Nat.add_assoc,<-Nat.add_mul]
   exact this
theorem Ya {len cap:Nat} {lo:Option Value} {vh vm:Value} {kh km:IntKind} {l h m:Int} (hlo:EB lo 0 l) (hh:vh = .int kh h) (hm:vm = .int km m) (h1:0<=h/\h<=m/\m<=cap) (h2:0<=l/\l<=h) :
  (Instr.sliceBounds true len cap lo (some vh) (some vm)).run P w = .ok (l.toNat,h.toNat,m.toNat) w:=by
 have h3:0<=m/\m<=(cap:Int):=⟨by omega,h1.2.2⟩
 have h4:0<=h/\h<=(m.toNat:Int):=⟨h1.1,by omega⟩
 have h5:0<=l/\l<=(h.toNat:Int):=⟨h2.1,by omega⟩
 rcases hlo with ⟨rfl,rfl⟩ | ⟨k,rfl⟩
 ·simp [Instr.sliceBounds,ru hm h3,ru hh h4]
 ·simp only [Instr.sliceBounds,pure_bind,Sem.run_bind,ru hm h3,Result.andThen_ok,ru hh h4,ru rfl h5,Sem.run_pure]
theorem aaT {ρ:Operand->Value} {t e:TypeId} {x hi mx:Operand} {lo:Option Operand} {aa:Option Addr} {len cap sz:Nat} {kh km:IntKind} {l h m:Int} (hop:o.op = .slice t x lo (some hi) (some mx)) (hx:ρ x = .slice aa len cap)
  (hu:P.underlying t=some (.slice e)) (hs:(sizeOf e).run P w = .ok sz w) (hlo:EB (lo.map ρ) 0 l) (hh:ρ hi = .int kh h) (hm:ρ mx = .int km m) (h1:0<=h/\h<=m/\m<=cap) (h2:0<=l/\l<=h) :
  (execOp ρ o).run P w = .ok (.value (.slice (if m.toNat=l.toNat then aa else aa.map (·.add (l.toNat * sz))) (h.toNat-l.toNat) (m.toNat-l.toNat))) w:=by
 have h3:(Instr.sliceAt t (ρ x) (lo.map ρ) ((some hi).map ρ) ((some mx).map ρ)).run P w = .ok (.slice (if m.toNat=l.toNat then aa else aa.map (·.add (l.toNat * sz))) (h.toNat-l.toNat) (m.toNat-l.toNat)) w:=by
  simp only [Instr.sliceAt,Sem.run_bind,run_underlying hu,Result.andThen_ok,Instr.slice,hx,Option.map_some]
  simp [Ya (P:=P) (w:=w) (len:=len) hlo hh hm h1 h2,hs]
 simp only [execOp,hop]
 rw [Sem.run_bind,h3]
 rfl
theorem ad3 (hR:R n σ g I a w) {lo:Option Operand} {Ik:Option fC} {d:Int} {k:Int->Prog} (hlo : ∀ x,lo=some x->∃ e,Ik=some e/\jY σ.k g w I e (a.eval x)) (DC:lo=none->Ik=none)
  (h:(sliceBound Ik d k).wp cf σ tr Q) : ∃ lv,EB (lo.map a.eval) d lv/\(k lv).wp cf σ tr Q:=by
 cases lo with
 | none =>
  have:=DC rfl
  subst this
  exact ⟨d,.inl ⟨rfl,rfl⟩,h⟩
 | some y =>
  obtain ⟨e',rfl,he'⟩:=hlo y rfl
  obtain ⟨kd,x,hx,h⟩:=X4 hR he' h
  exact ⟨x,.inr ⟨kd,by rw [Option.map_some,hx]⟩,h⟩
theorem ad4 (hΓ:fE Γ P) (hd:dM n.np n.nt o=true) (hR:R n σ g I a w) (hK:Post P n I w Q K) {t:TypeId} {x hi mx:Operand} {lo:Option Operand} (hop:o.op = .slice t x lo (some hi) (some mx))
  (h:(bH Γ f o).wp cf σ tr Q):Goal P o a w K Qm:=by
 simp only [bH,hop] at h
 obtain ⟨d0,hdst,h⟩:=dX h
 obtain ⟨ti,-,hty,h⟩:=gD hΓ h
 obtain ⟨e,t1,he,h⟩:=jQ hR h
 obtain ⟨eh,t2,heh,h⟩:=jQ hR h
 obtain ⟨em,t3,hem,h⟩:=jQ hR h
 obtain ⟨Ik,z,t4,hlo,DC,h⟩ : ∃ Ik z t4,(∀ x,lo=some x->∃ e,Ik=some e/\jY σ.k g w I e (a.eval x))/\(lo=none->Ik=none)/\(slice3 ti d0 e Ik eh em z).wp cf σ t4 Q:=by
  cases lo with
  | none=>exact ⟨none,_,_,fun _ h=>(nomatch h),fun _=>rfl,h⟩
  | some y =>
   obtain ⟨e2,t4,he2,h⟩:=jQ hR h
   exact ⟨some e2,_,_,fun _ h=>by cases h; exact ⟨_,rfl,he2⟩,fun h=>(nomatch h),h⟩
 unfold slice3 at h
 obtain ⟨l,rfl,hl,h⟩:=Dw he h
 obtain ⟨es,rows,deps,t5,h,pG,h1,h2⟩:=qZ hR hl h
 obtain ⟨hk,h⟩:=h
 split at hk
 ·rename_i tes Wm
  simp only [Bool.and_eq_true,Bool.not_eq_true',List.isEmpty_eq_false_iff] at hk
  obtain ⟨⟨hk,hlen⟩,hne⟩:=hk
  have hlen:=Nat.eq_of_beq_eq_true hlen
  obtain ⟨el,hk⟩:=uH hk
  obtain ⟨hu,te,hte,hl',-⟩:=mI hty hk
  rw [Wm] at hl'
  simp only [List.cons.injEq,LT.sl.injEq,and_true] at hl'
  subst hl'
  obtain ⟨aa,cap,hv,hcap,-,-⟩:=Dz pG
  obtain ⟨sh,dh,rfl,hvh,h⟩:=oP heh h
  obtain ⟨sm,dm,rfl,hvm,h⟩:=oP hem h
  obtain ⟨lv,hb1,h⟩:=ad3 (a:=a) (lo:=lo) hR hlo DC h
  split at h
  ·rename_i kh km
   obtain ⟨xh,hxh,rfl,-⟩:=hvh
   obtain ⟨xm,hxm,rfl,-⟩:=hvm
   obtain ⟨hb3,h⟩:=h
   obtain ⟨hb4,h⟩:=h
   have hb3:=of_decide_eq_true hb3
   have hb4:=of_decide_eq_true hb4
   simp only [T.int] at hb3 hb4 h
   have hrun:=aaT (P:=P) (w:=w) hop hv hu (run_sizeOf (w:=w) (hΓ.ty _ _ hte)) hb1 hxh hxm (by omega) hb4
   cases hz:(z&&Ik.isNone) with
   | true =>
    rw [hz,cond_true] at h
    obtain ⟨h0,h⟩:=h
    have h0:=of_decide_eq_true h0
    have e0:lv=0:=by omega
    rw [h0.1,h0.2,e0] at hrun
    simp only [Int.toNat_zero,if_true,Nat.sub_self] at hrun
    exact CK (v:=.slice aa 0 0) (F:=fun _ _=>False) (Z:=fun _ _=>False) (w':=w) hdst hd hR hK (Keeps.refl _ _) DF.none (fun _ _ h=>h.elim) hrun ⟨fun _ h=>(nomatch h),fun _ h=>(nomatch h)⟩ (aV.nil hne fun _ _ h=>h) h
   | false =>
    rw [hz,cond_false] at h
    rw [<-hlen] at hrun
    rw [hv] at pG
    have hfin:=aaS (l:=lv.toNat) (h:=xh.toNat) (m:=xm.toNat) pG (by omega) (by omega) (by omega)
    exact JF (e:=.one ⟨.sn deps,.sl es,.l ((rows.take xh.toNat).drop lv.toNat)⟩) hdst hd hR hK hrun ⟨hfin.single,trivial,h2,fun _=>hfin⟩ h
  ·exact h.elim
 ·cases hk
end
end Go.E

namespace Go.E
open Go
def ID (g0:Gh) (I:aB):aB:=fun b o=>I b o\/g0.D b o
def AlR (g0:Gh) (w:World) (I:aB) (i j:Nat):AL->Value->Prop
 | .sc s d,v=>Ms s v d
 | .fz es rows,v=>aJ w I (.sl es) v (.l rows)
 | .dz es rows,v=>aJ w (ID g0 I) (.sl es) v (.l rows)
 | .own es ms rows,v=>v=g0.h [i,j]/\aV w I es ms rows v (g0.F [i,j])
 | .nl _,v=>v = .slice none 0 0
def Iu (g0:Gh) (w:World) (I:aB) (i:Nat):Nat->List AL->List Value->Prop
 | _,[],[]=>True
 | j,a::as,v::vs=>AlR g0 w I i j a v/\Iu g0 w I i (j+1) as vs
 | _,_,_=>False
def ad5 (w:World) (I:aB) (aR:List LT) (row:List T) (v:Value):Prop:=∃ b o,v = .pointer (some ⟨b,o,none⟩)/\dK w I I aR b o row
def Ut (g0:Gh) (w:World) (I:aB):List Arg->List Value->Prop
 | [],[]=>True
 | a::as,v::vs=>(∃ aR row,a = .Ie aR row/\ad5 w (ID g0 I) aR row v)/\Ut g0 w I as vs
 | _,_=>False
def w9 (w:World) (h:Value) (F:aB) (m:Nat) (cs:List Value):Prop:=∃ b o c el fz,h = .pointer (some ⟨b,o,none⟩)/\Block w b c el fz/\o+m<=c.size /\
  (∀ j,j<m->¬ (fz.1<=o+j/\o+j<fz.2))/\(∀ b' o',F b' o' ↔ b'=b/\o<=o'/\o'<o+m)/\cs=(c.toList.drop o).take m
theorem w9.own {κ:Key->KE} {g:Gh} {w:World} {I:aB} {ls:List Leaf} {h:Value} {F:aB} {cs:List Value} (hb:w9 w h F ls.length cs) (hl:cu κ g w I ls cs):mZ κ g w I ls h F:=by
 obtain ⟨b,o,c,el,fz,h1,h2,h3,h4,h5,rfl⟩:=hb
 exact ⟨b,o,c,el,fz,h1,h2,h3,h4,h5,hl⟩
theorem mZ.at {κ:Key->KE} {g:Gh} {w:World} {I:aB} {ls:List Leaf} {h:Value} {F:aB} (hb:mZ κ g w I ls h F) : ∃ cs,w9 w h F ls.length cs/\cu κ g w I ls cs:=by
 obtain ⟨b,o,c,el,fz,h1,h2,h3,h4,h5,hl⟩:=hb
 exact ⟨_,⟨b,o,c,el,fz,h1,h2,h3,h4,h5,rfl⟩,hl⟩
def BxR (g0:Gh) (w:World) (I:aB) (i:Nat) (qR:List AL) (v:Value):Prop:=v=g0.h [i,vL] /\ ∃ cs,w9 w (g0.h [i,vL]) (g0.F [i,vL]) qR.length cs/\Iu g0 w I i 0 qR cs
def Ti (g0:Gh) (w:World) (I:aB) (i:Nat):Arg->Value->Prop
 | .one al,v=>AlR g0 w I i 0 al v
 | .agg qR,v=>∃ cs,v = .agg cs/\Iu g0 w I i 0 qR cs.toList
 | .Ie aR row,v=>ad5 w (ID g0 I) aR row v
 | .bx qR,v=>BxR g0 w I i qR v
 | .fn f caps,v=>∃ vs,v = .func (.func f) #[] vs/\Ut g0 w I caps vs.toList
def AQ (g0:Gh) (w:World) (I:aB):Nat->List Arg->List Value->Prop
 | _,[],[]=>True
 | i,a::as,v::vs=>Ti g0 w I i a v/\AQ g0 w I (i+1) as vs
 | _,_,_=>False
def Held (args:List Arg) (k:Key):Prop:=Live (Fj k (zq 0 args)).ch
structure Pre (g0:Gh) (I A:aB) (args:List Arg) (w:World) (vs:Array Value):Prop where
 rel:AQ g0 w I 0 args vs.toList
 sep : ∀ k k',Held args k->Held args k'->k≠k'->aB.apart (g0.F k) (g0.F k')
 jP : ∀ k,Held args k->aB.apart (g0.F k) I
 wW : ∀ k,Held args k->aB.apart (g0.F k) A
 zu : ∀ b o,I b o->∃ v,cellAt w b o=some v
 awf : ∀ b o,A b o->∃ v,cellAt w b o=some v
 da : ∀ b o,g0.D b o->A b o
def RlR (g0 g':Gh) (w:World) (I:aB):RL->Value->Prop
 | .sc s d,v=>Ms s v d
 | .fz es rows,v=>aJ w I (.sl es) v (.l rows)
 | .dz es rows,v=>aJ w (ID g0 I) (.sl es) v (.l rows)
 | .own k es ms rows,v=>v=g'.h k/\aV w I es ms rows v (g'.F k)
 | .nl _,v=>v = .slice none 0 0
 | .par i j,v=>v=g0.h [i,j]
def PK (g0 g':Gh) (w:World) (I:aB):List RL->List Value->Prop
 | [],[]=>True
 | a::as,v::vs=>Single v/\RlR g0 g' w I a v/\PK g0 g' w I as vs
 | _,_=>False
def ReR (g0 g':Gh) (w:World) (I:aB):RE->Value->Prop
 | .one l,v=>Single v/\RlR g0 g' w I l v
 | .agg ls,v=>∃ cs,v = .agg cs/\PK g0 g' w I ls cs.toList
 | .bx k ls,v=>v=g'.h k /\ ∃ cs,w9 w (g'.h k) (g'.F k) ls.length cs/\PK g0 g' w I ls cs
 | .none,_=>False
def aiM (g0 g':Gh) (w:World) (I:aB):List RE->List Value->Prop
 | [],[]=>True
 | a::as,v::vs=>ReR g0 g' w I a v/\aiM g0 g' w I as vs
 | _,_=>False
def iA (r:fV):List Key:=r.rs.flatMap eD++r.bxs.flatMap jf
def aiN (vs:List Value):Value:=match vs with | [v]=>v | vs=>.tuple vs.toArray
def alH (r:fV) (i j:Nat):Prop:=(∃ x,lI r i j=some x)\/(j=vL /\ ∃ ls,xO r i=some ls)
def Out (r:fV) (k:Key):Prop:=k∈iA r \/ ∃ i j,alH r i j/\k=[i,j]
structure JL (g0:Gh) (I A:aB) (args:List Arg) (w:World) (ret:fV) (g':Gh) (I':aB) (w':World) (v:Value):Prop where
 res : ∃ vs,v=aiN vs/\aiM g0 g' w' I' ret.rs vs
 own : ∀ i j es ms rows,lI ret i j=some (es,ms,rows)->aV w' I' es ms rows (g0.h [i,j]) (g'.F [i,j])
 box : ∀ i ls,xO ret i=some ls->∃ cs,w9 w' (g0.h [i,vL]) (g'.F [i,vL]) ls.length cs/\PK g0 g' w' I' ls cs
 nd:(iA ret).Nodup
 kp : ∀ k∈iA ret,∀ i j,alH ret i j->k≠[i,j]
 sep : ∀ k k',Out ret k->Out ret k'->k≠k'->aB.apart (g'.F k) (g'.F k')
 jP : ∀ k,Out ret k->aB.apart (g'.F k) I'
 wW : ∀ k,Out ret k->aB.apart (g'.F k) A
 inc : ∀ b o,I b o->I' b o
 ia : ∀ b o,I' b o->A b o->I b o
 zu : ∀ b o,I' b o->∃ v,cellAt w' b o=some v
 keeps:Keeps (fun b o=>I b o\/A b o) w w'
def Nv (P:Program) (f:FuncId) (args:List Arg) (r:R3 fV):Prop :=
 ∀ (g0:Gh) (I A:aB) (w:World) (vs:Array Value),Pre g0 I A args w vs->Calls P f vs w fun
  | .returned v,w'=>∃ ret g' I',r = .ok ret/\JL g0 I A args w ret g' I' w' v
  | .panicked _,_=>False
  | .outgrown,_=>False
theorem PL : ∀ (args:List Arg) (i t:Nat),wB t (Pb i args)=if h:i<=t/\t<i+args.length then aft t (args[t-i]'(by omega)) else .junk
 | [],i,t=>by
  have : ¬ (i<=t/\t<i+0):=by omega
  simp only [Pb,wB,List.length_nil,this,dite_false]
 | a::as,i,t=>by
  simp only [Pb,wB]
  cases hb:Nat.beq t i with
  | true =>
   have:=Nat.eq_of_beq_eq_true hb
   subst this
   simp
  | false =>
   have hne:t≠i:=fun h=>by subst h; simp at hb
   simp only [cond_false]
   rw [PL as (i+1) t]
   by_cases h:i+1<=t/\t<i+1+as.length
   ·have h':i<=t/\t<i+(a::as).length:=by simp only [List.length_cons]; omega
    rw [dif_pos h,dif_pos h']
    obtain ⟨k,rfl⟩ : ∃ k,t=i+1+k:=⟨t-(i+1),by omega⟩
    have e1:i+1+k-(i+1)=k:=by omega
    have e2:i+1+k-i=k+1:=by omega
    simp only [e1,e2,List.getElem_cons_succ]
   ·have h' : ¬ (i<=t/\t<i+(a::as).length):=by simp only [List.length_cons]; omega
    rw [dif_neg h,dif_neg h']
section
variable {g0:Gh} {w:World} {I:aB} {κ:Key->KE}
theorem AQ.len : ∀ {i:Nat} {args:List Arg} {vs:List Value},AQ g0 w I i args vs->vs.length=args.length
 | _,[],[],_=>rfl
 | _,_::_,_::_,h=>by simp [AQ.len h.2]
 | _,[],_::_,h=>h.elim
 | _,_::_,[],h=>h.elim
theorem AQ.get : ∀ {i:Nat} {args:List Arg} {vs:List Value},AQ g0 w I i args vs->∀ t (h:t<args.length) (h':t<vs.length),Ti g0 w I (i+t) args[t] vs[t]
 | _,_::_,_::_,h,0,_,_=>h.1
 | i,_::as,_::vs,h,t+1,h1,h2=>by
  have:=AQ.get h.2 t (by simpa using h1) (by simpa using h2)
  simpa [show i+1+t=i+(t+1) from by omega] using this
 | _,[],[],_,_,h1,_=>by simp at h1
 | _,[],_::_,h,_,_,_=>h.elim
 | _,_::_,[],h,_,_,_=>h.elim
theorem AlR.leaf {i j:Nat} {al:AL} {v:Value} (h:AlR g0 w I i j al v):ER κ g0 w I (aaI i j al) v:=by
 cases al with
 | sc s d=>exact ⟨Ms.single h,s,rfl,h⟩
 | fz es rows=>exact ⟨aJ.single h,trivial,uY _,fun _=>aJ.mono (fun b o hb=>.inl hb) (fun _ _ _=>rfl) _ h⟩
 | dz es rows=>exact ⟨aJ.single h,trivial,fun d hd=>by rw [List.mem_singleton.1 hd]; exact Nat.zero_le _,fun _=>aJ.mono (fun b o hb=>hb.imp id fun hb=>⟨_,List.mem_singleton.2 rfl,.inl ⟨rfl,hb⟩⟩) (fun _ _ _=>rfl) _ h⟩
 | own es ms rows =>
  obtain ⟨h1,h2⟩:=h
  exact ⟨(h2.leaf (S:=fun _ _=>True) (fun _ _ _=>trivial) (fun _ _ _=>trivial)).single,trivial,Nat.zero_le _,fun _=>h1⟩
 | nl es=>
  have:v = .slice none 0 0:=h
  subst this
  exact ⟨⟨fun _ h=>(nomatch h),fun _ h=>(nomatch h)⟩,trivial,rfl,rfl⟩
theorem Iu.leaves {i:Nat} : ∀ {j:Nat} {qR:List AL} {vs:List Value},Iu g0 w I i j qR vs->cu κ g0 w I (zo i j qR) vs
 | _,[],[],_=>trivial
 | _,_::_,_::_,h=>⟨h.1.leaf,Iu.leaves h.2⟩
 | _,[],_::_,h=>h.elim
 | _,_::_,[],h=>h.elim
theorem ad5.ent {aR:List LT} {row:List T} {v:Value} (h:ad5 w (ID g0 I) aR row v):r9 κ g0 w I (.rp [(uS,0)] aR row) v:=by
 obtain ⟨b,o,rfl,h⟩:=h
 have hd : ∀ b o,ID g0 I b o->dF κ g0 I [(uS,0)] b o:=fun b o hb=>hb.imp id fun hb=>⟨_,List.mem_singleton.2 rfl,.inl ⟨rfl,hb⟩⟩
 exact ⟨⟨fun _ h=>(nomatch h),fun _ h=>(nomatch h)⟩,fun d hd=>by rw [List.mem_singleton.1 hd]; exact Nat.zero_le _,fun _=>⟨b,o,rfl,dK.mono hd (fun _ _ _=>rfl) hd (fun _ _ _=>rfl) _ h⟩⟩
theorem Ut.ents : ∀ {as:List Arg} {vs:List Value},Ut g0 w I as vs->pY κ g0 w I (as.map ajO) vs
 | [],[],_=>trivial
 | _::_,_::_,h=>by
  obtain ⟨⟨aR,row,rfl,h1⟩,h2⟩:=h
  exact ⟨h1.ent,Ut.ents h2⟩
 | [],_::_,h=>h.elim
 | _::_,[],h=>h.elim
theorem JM (i:Nat) : ∀ (j:Nat) (qR:List AL),(zo i j qR).length=qR.length
 | _,[]=>rfl
 | j,a::as=>by simp only [zo,List.length_cons,JM i (j+1) as]
theorem BxR.own {i:Nat} {qR:List AL} {v:Value} (h:BxR g0 w I i qR v):mZ κ g0 w I (zo i 0 qR) (g0.h [i,vL]) (g0.F [i,vL]):=by
 obtain ⟨-,cs,h1,h2⟩:=h
 refine w9.own (cs:=cs) ?_ h2.leaves
 rw [JM]; exact h1
theorem BxR.ent {i:Nat} {qR:List AL} {v:Value} (h:BxR g0 w I i qR v):r9 κ g0 w I (.ptr [i,vL] 0 0 0) v:=by
 obtain ⟨rfl,cs,⟨b,o,c,el,fz,h1,-⟩,-⟩:=h
 rw [h1]
 exact ⟨⟨fun _ h=>(nomatch h),fun _ h=>(nomatch h)⟩,Nat.zero_le _,fun _=>⟨b,o,rfl,by simp only [h1,addrIn,Nat.add_zero]⟩⟩
theorem Ti.ent {i:Nat} {a:Arg} {v:Value} (h:Ti g0 w I i a v):jY κ g0 w I (aft i a) v:=by
 cases a with
 | one al=>exact AlR.leaf (al:=al) h
 | agg qR=>obtain ⟨cs,h1,h2⟩:=h; exact ⟨cs,h1,h2.leaves⟩
 | Ie aR row=>exact ad5.ent h
 | bx qR=>exact BxR.ent h
 | fn f caps=>obtain ⟨vs,h1,h2⟩:=h; exact ⟨vs,h1,h2.ents⟩
theorem Iu.vI {i:Nat} : ∀ {j:Nat} {qR:List AL} {vs:List Value},Iu g0 w I i j qR vs->∀ p∈He i j qR,Hf κ g0 w I p.1 p.2 /\ ∃ q,p.1=[i,q]
 | _,[],_,_,p,hp=>by cases hp
 | j,a::as,v::vs,h,p,hp=>by
  have ih:=Iu.vI h.2 p
  have h1:=h.1
  cases a with
  | own es ms rows =>
   simp only [He,List.mem_cons] at hp
   rcases hp with rfl | hp
   ·obtain ⟨h2,h3⟩:=h1
    subst h2
    exact ⟨h3,j,rfl⟩
   ·exact ih hp
  | sc _ _=>exact ih hp
  | fz _ _=>exact ih hp
  | nl _=>exact ih hp
  | dz _ _=>exact ih hp
 | _,_::_,[],h,_,_=>h.elim
theorem AQ.vI : ∀ {i:Nat} {args:List Arg} {vs:List Value},AQ g0 w I i args vs->∀ p∈zq i args,Hf κ g0 w I p.1 p.2 /\ ∃ r q,p.1=[r,q]/\r<i+args.length
 | _,[],_,_,p,hp=>by cases hp
 | i,a::as,v::vs,h,p,hp=>by
  simp only [zq,List.mem_append] at hp
  rcases hp with hp | hp
  ·have h1:=h.1
   cases a with
   | one al =>
    have:=Iu.vI (κ:=κ) (j:=0) (qR:=[al]) (vs:=[v]) ⟨h1,trivial⟩ p hp
    obtain ⟨h2,q,h3⟩:=this
    exact ⟨h2,i,q,h3,by simp⟩
   | agg qR =>
    obtain ⟨cs,-,h1⟩:=h1
    obtain ⟨h2,q,h3⟩:=Iu.vI (κ:=κ) h1 p hp
    exact ⟨h2,i,q,h3,by simp⟩
   | Ie _ _=>cases hp
   | fn _ _=>cases hp
   | bx qR =>
    simp only [aci,List.mem_cons] at hp
    rcases hp with rfl | hp
    ·exact ⟨BxR.own h1,i,vL,rfl,by simp⟩
    ·obtain ⟨-,cs,-,h1⟩:=h1
     obtain ⟨h2,q,h3⟩:=Iu.vI (κ:=κ) h1 p hp
     exact ⟨h2,i,q,h3,by simp⟩
  ·obtain ⟨h2,r,q,h3,h4⟩:=AQ.vI h.2 p hp
   exact ⟨h2,r,q,h3,by simp only [List.length_cons]; omega⟩
 | _,_::_,[],h,_,_=>h.elim
theorem DT (k:Key) : ∀ (l:List (Key×Ch)),(Fj k l=⟨.gone,0,0⟩) \/ ∃ c,(k,c)∈l/\Fj k l=⟨c,0,0⟩
 | []=>.inl rfl
 | (u,c)::l=>by
  unfold Fj
  cases hb:dQ k u with
  | true =>
   have:=(eX _ _).1 hb
   subst this
   exact .inr ⟨c,by simp,rfl⟩
  | false =>
   simp only [cond_false]
   rcases DT k l with h | ⟨c',h1,h2⟩
   ·exact .inl h
   ·exact .inr ⟨c',by simp [h1],h2⟩
end
def Ww (nt:Nat) (args:List Arg) (hb:args.length<=1000000) (g0:Gh) (I A:aB):Fr:=⟨nt,args.length,hb,g0.h,g0.D,A,I⟩
theorem aiO {nt:Nat} {args:List Arg} (hb:args.length<=1000000) {g0:Gh} {I A:aB} {w:World} {vs:Array Value} (h:Pre g0 I A args w vs) (hn:args.length<=nt) :
  R (Ww nt args hb g0 I A) (nK (Lg args)) g0 I { tmps:=vs++Array.replicate (nt-vs.size) undef,defers:=[] } w:=by
 have hl:=h.rel.len
 simp only [Array.length_toList] at hl
 refine ⟨?_,rfl,fun t=>?_,fun k=>?_,fun k k'=>h.sep k k',fun k=>h.jP k,h.zu,⟨fun _ _ _=>rfl,rfl,h.da,fun k=>h.wW k,h.awf,fun _ _ h _=>h⟩⟩
 ·simp [Ww]; omega
 ·simp only [nK,Lg]
  rw [PL]
  split
  ·rename_i ht
   have h1:=h.rel.get t (by omega) (by simp; omega)
   simp only [Nat.zero_add,Nat.sub_zero] at h1 ⊢
   have e1:(vs++Array.replicate (nt-vs.size) undef).getD t undef=vs[t]'(by omega):=by
    rw [Array.getD_eq_getD_getElem?,Array.getElem?_append_left (by omega),Array.getElem?_eq_getElem (by omega)]
    rfl
   rw [e1]
   simpa using h1.ent
  ·trivial
 ·simp only [nK,Lg]
  rcases DT k (zq 0 args) with h1 | ⟨c,h1,h2⟩
  ·rw [h1]; trivial
  ·rw [h2]
   exact (h.rel.vI (k,c) h1).1
end Go.E

namespace Go.E
open Go
section
variable {np:Nat} {n:Fr} {σ:S} {g:Gh} {I:aB} {a:Act} {w:World} {g0:Gh}
def acz (σ:S) (np:Nat):RL->Prop
 | .own k es ms rows=>(σ.k k).ch = .row es ms rows /\ ¬ gN np k
 | _=>True
theorem PN (hR:R n σ g I a w) (hH:n.H=g0.h/\n.D=g0.D) {l:Leaf} {v:Value} {r:RL} (hl:ER σ.k g w I l v) (h:OA σ n.np l=some r) :
  Single v/\RlR g0 g w I r v/\acz σ n.np r:=by
 refine ⟨hl.1,?_⟩
 obtain ⟨st,lt,d⟩:=l
 obtain ⟨hs,hl⟩:=hl
 unfold OA at h
 simp only at h hl
 split at h
 ·cases h
  obtain ⟨s',e1,h1⟩:=hl
  cases e1
  exact ⟨h1,trivial⟩
 ·cases h
  exact ⟨hl.2.1,trivial⟩
 ·rename_i es ds
  cases ds with
  | nil =>
   simp only [Option.some.injEq] at h
   subst h
   obtain ⟨-,-,h1⟩:=hl
   have h2:=h1 (JD _)
   refine ⟨?_,trivial⟩
   have h3:aJ w I (.sl es) v d:=aJ.mono (fun b o hb=>hb.elim id (fun ⟨d,hd,_⟩=>(nomatch hd))) (fun _ _ _=>rfl) _ h2
   have h4:=h3
   unfold aJ at h4
   obtain ⟨_,_,rows,rfl,-⟩:=h4
   exact h3
  | cons d0 ds =>
   simp only at h
   cases hb0:(ajP (σ.k uS).ch&&(d0::ds).all fun d=>dQ d.1 uS&&Nat.beq (σ.k uS).cv d.2) with
   | false=>rw [hb0] at h; cases h
   | true =>
    rw [hb0] at h
    cases h
    simp only [Bool.and_eq_true] at hb0
    obtain ⟨hgn,hb⟩:=hb0
    have hdk : ¬ Live (σ.k uS).ch:=fun hl=>by
     cases hcd:(σ.k uS).ch <;> rw [hcd] at hgn hl <;> first | exact hl | cases hgn
    have hD:g.D=g0.D:=hR.x.dq.trans hH.2
    have hall : ∀ x∈d0::ds,x.1=uS/\(σ.k uS).cv=x.2:=fun x hx=>by
     have:=List.all_eq_true.1 hb x hx
     simp only [Bool.and_eq_true] at this
     exact ⟨(eX _ _).1 this.1,Nat.eq_of_beq_eq_true this.2⟩
    obtain ⟨-,-,h1⟩:=hl
    have h2:=h1 fun x hx=>by rw [(hall x hx).1]; exact (hall x hx).2
    refine ⟨?_,trivial⟩
    have h3:aJ w (ID g0 I) (.sl es) v d:=aJ.mono (fun b o hb=>by
     rcases hb with hb | ⟨x,hx,⟨-,hb⟩ | ⟨hl,-⟩⟩
     ·exact .inl hb
     ·exact .inr (hD ▸ hb)
     ·rw [(hall x hx).1] at hl; exact (hdk hl).elim) (fun _ _ _=>rfl) _ h2
    have h4:=h3
    unfold aJ at h4
    obtain ⟨_,_,rows,rfl,-⟩:=h4
    exact h3
 ·rename_i es0 k m
  obtain ⟨-,h1,h2⟩:=hl
  cases hb:Nat.beq (σ.k k).bQ m with
  | false=>rw [hb] at h; cases h
  | true =>
   rw [hb] at h
   simp only [cond_true] at h
   have hv:=h2 (Nat.eq_of_beq_eq_true hb)
   have hch:=hR.vI k
   cases hc:(σ.k k).ch with
   | box _=>rw [hc] at h; cases h
   | gone=>rw [hc] at h; cases h
   | K9 _ _ _=>rw [hc] at h; cases h
   | hol _ _ _ _ _=>rw [hc] at h; cases h
   | fz es rows =>
    rw [hc] at h hch
    simp only at h
    cases hq:LT.eH es0 es with
    | false=>rw [hq] at h; cases h
    | true =>
     rw [hq] at h
     cases h
     subst hv
     exact ⟨hch,trivial⟩
   | row es ms rows =>
    rw [hc] at h hch
    simp only at h
    cases hq:LT.eH es0 es with
    | false=>rw [hq] at h; cases h
    | true =>
     rw [hq] at h
     simp only [cond_true] at h
     have hown : ∀ (hp : ¬ gN n.np k),RlR g0 g w I (.own k es ms rows) v/\acz σ n.np (.own k es ms rows):=fun hp=>⟨⟨hv,by rw [hv]; exact hch⟩,hc,hp⟩
     split at h
     ·rename_i i j
      cases hlt:Nat.blt i n.np with
      | true =>
       rw [hlt] at h
       cases h
       have hp:gN n.np [i,j]:=by simpa [gN,Nat.blt_eq] using hlt
       have:=hR.x.par _ hp (by rw [hc]; trivial)
       refine ⟨?_,trivial⟩
       show v=g0.h [i,j]
       rw [hv,this,hH.1]
      | false =>
       rw [hlt] at h
       cases h
       refine hown fun hp=>?_
       have:Nat.blt i n.np=true:=by simpa [gN,Nat.blt_eq] using hp
       rw [this] at hlt; cases hlt
     ·cases hlt:Nat.blt (k.headD 0) n.np with
      | true=>rw [hlt] at h; cases h
      | false =>
       rw [hlt] at h
       cases h
       refine hown fun hp=>?_
       cases k with
       | nil=>exact hp
       | cons i r =>
        have:Nat.blt i n.np=true:=by simpa [gN,Nat.blt_eq] using hp
        simp only [List.headD_cons] at hlt
        rw [this] at hlt; cases hlt
 ·cases h
theorem yB (hR:R n σ g I a w) (hH:n.H=g0.h/\n.D=g0.D) : ∀ {ls:List Leaf} {vs:List Value} {rs:List RL},cu σ.k g w I ls vs->lV σ n.np ls=some rs->PK g0 g w I rs vs /\ ∀ r∈rs,acz σ n.np r
 | [],[],rs,_,h=>by cases h; exact ⟨trivial,fun _ h=>(nomatch h)⟩
 | l::ls,v::vs,rs,hl,h=>by
  simp only [lV] at h
  split at h
  ·rename_i r rs' h1 h2
   cases h
   obtain ⟨h3,h4,h5⟩:=PN hR hH hl.1 h1
   obtain ⟨h6,h7⟩:=yB hR hH hl.2 h2
   refine ⟨⟨h3,h4,h6⟩,fun r hr=>?_⟩
   rcases List.mem_cons.1 hr with rfl | hr
   ·exact h5
   ·exact h7 r hr
  ·cases h
 | [],_::_,_,hl,_=>hl.elim
 | _::_,[],_,hl,_=>hl.elim
theorem BU {np:Nat} : ∀ {ls:List Leaf} {rs:List RL},lV σ np ls=some rs->rs.length=ls.length
 | [],rs,h=>by cases h; rfl
 | l::ls,rs,h=>by
  simp only [lV] at h
  split at h
  ·rename_i r rs' h1 h2
   cases h
   simp only [List.length_cons,BU h2]
  ·cases h
theorem ad6 (hR:R n σ g I a w) (hH:n.H=g0.h/\n.D=g0.D) {e:fC} {v:Value} {r:RE} (he:jY σ.k g w I e v) (h:Pd σ n.np e=some r) :
  ReR g0 g w I r v /\ ∀ k∈eD r,Live (σ.k k).ch /\ ¬ gN n.np k:=by
 cases e with
 | one l =>
  simp only [Pd,Option.map_eq_some_iff] at h
  obtain ⟨r,h,rfl⟩:=h
  obtain ⟨h1,h2,h3⟩:=PN hR hH he h
  refine ⟨⟨h1,h2⟩,fun k hk=>?_⟩
  cases r with
  | own k' es ms rows =>
   simp only [eD,List.mem_cons,List.not_mem_nil,or_false] at hk
   subst hk
   exact ⟨by rw [h3.1]; trivial,h3.2⟩
  | _=>cases hk
 | agg ls =>
  simp only [Pd,Option.map_eq_some_iff] at h
  obtain ⟨rs,h,rfl⟩:=h
  obtain ⟨cs,rfl,he⟩:=he
  obtain ⟨h1,h2⟩:=yB hR hH he h
  refine ⟨⟨cs,rfl,h1⟩,fun k hk=>?_⟩
  simp only [eD,List.mem_filterMap] at hk
  obtain ⟨r,hr,hk⟩:=hk
  have h3:=h2 r hr
  cases r with
  | own k' es ms rows =>
   simp only [Option.some.injEq] at hk
   subst hk
   exact ⟨by rw [h3.1]; trivial,h3.2⟩
  | _=>cases hk
 | ptr k m i off =>
  simp only [Pd] at h
  cases hb:(Nat.beq (σ.k k).bQ m&&Nat.beq off 0 && !Nat.blt (k.headD 0) n.np) with
  | false=>rw [hb] at h; cases h
  | true =>
   rw [hb] at h
   simp only [Bool.and_eq_true,Bool.not_eq_true'] at hb
   obtain ⟨⟨hb1,hb2⟩,hb3⟩:=hb
   have hoff:=Nat.eq_of_beq_eq_true hb2
   subst hoff
   have hch:=hR.vI k
   cases hc:(σ.k k).ch with
   | box ls =>
    rw [hc] at h hch
    simp only [cond_true,Option.map_eq_some_iff] at h
    obtain ⟨rs,h,rfl⟩:=h
    obtain ⟨hs,-,he⟩:=he
    obtain ⟨b,o,rfl,ha⟩:=he (Nat.eq_of_beq_eq_true hb1)
    obtain ⟨cs,hat,hls⟩:=mZ.at hch
    obtain ⟨h1,h2⟩:=yB hR hH hls h
    have hlen:=BU h
    have hh:Value.pointer (some ⟨b,o,none⟩)=g.h k:=by
     obtain ⟨b',o',c',el,fz,e1,-⟩:=hat
     rw [e1] at ha ⊢
     simp only [addrIn,Nat.add_zero,Option.some.injEq,Prod.mk.injEq] at ha
     rw [ha.1,ha.2]
    refine ⟨⟨hh,cs,by rw [hlen]; exact hat,h1⟩,fun k' hk=>?_⟩
    simp only [eD,List.mem_cons] at hk
    rcases hk with rfl | hk
    ·refine ⟨by rw [hc]; trivial,fun hp=>?_⟩
     cases k' with
     | nil=>exact hp
     | cons i r =>
      have:Nat.blt i n.np=true:=by simpa [gN,Nat.blt_eq] using hp
      simp only [List.headD_cons] at hb3
      rw [this] at hb3; cases hb3
    ·obtain ⟨r,hr,hk⟩:=List.mem_flatMap.1 hk
     have h3:=h2 r hr
     cases r with
     | own k'' es ms rows =>
      simp only [je,List.mem_cons,List.not_mem_nil,or_false] at hk
      subst hk
      exact ⟨by rw [h3.1]; trivial,h3.2⟩
     | _=>cases hk
   | _=>rw [hc] at h; cases h
 | _=>cases h
def Wx (κ:Key->KE) (g:Gh) (w:World) (I:aB):List fC->List Value->Prop
 | [],[]=>True
 | e::es,v::vs=>jY κ g w I e v/\Wx κ g w I es vs
 | _,_=>False
theorem PO (hR:R n σ g I a w) (hH:n.H=g0.h/\n.D=g0.D) : ∀ {es:List fC} {vs:List Value} {rs:List RE},Wx σ.k g w I es vs->Jv σ n.np es=some rs ->
  aiM g0 g w I rs vs /\ ∀ k∈rs.flatMap eD,Live (σ.k k).ch /\ ¬ gN n.np k
 | [],[],rs,_,h=>by cases h; exact ⟨trivial,fun _ h=>(nomatch h)⟩
 | e::es,v::vs,rs,hl,h=>by
  simp only [Jv] at h
  split at h
  ·rename_i r rs' h1 h2
   cases h
   obtain ⟨h3,h4⟩:=ad6 hR hH hl.1 h1
   obtain ⟨h6,h7⟩:=PO hR hH hl.2 h2
   refine ⟨⟨h3,h6⟩,fun k hk=>?_⟩
   simp only [List.flatMap_cons,List.mem_append] at hk
   exact hk.elim (h4 k) (h7 k)
  ·cases h
 | [],_::_,_,hl,_=>hl.elim
 | _::_,[],_,hl,_=>hl.elim
theorem DU {i:Nat} : ∀ {qR:List AL} {j0 j:Nat} {x:List LT×List M×List (List T)},(Az σ i j0 qR).getD j none=some x->(σ.k [i,j0+j]).ch = .row x.1 x.2.1 x.2.2
 | [],j0,j,x,h=>by simp [Az] at h
 | al::qR,j0,0,x,h=>by
  simp only [Az,List.getD_cons_zero] at h
  cases al with
  | own _ _ _ =>
   simp only at h
   cases hc:(σ.k [i,j0]).ch with
   | row es ms rows=>rw [hc] at h; cases h; simpa using hc
   | _=>rw [hc] at h; cases h
  | _=>cases h
 | al::qR,j0,j+1,x,h=>by
  simp only [Az,List.getD_cons_succ] at h
  have:=DU h
  rwa [show j0+1+j=j0+(j+1) from by omega] at this
theorem PU : ∀ {args:List Arg} {i0 i j:Nat} {x:List LT×List M×List (List T)},(((wC σ i0 args).getD i []).getD j none)=some x->(σ.k [i0+i,j]).ch = .row x.1 x.2.1 x.2.2/\i<args.length
 | [],i0,i,j,x,h=>by simp [wC] at h
 | al::qR,i0,0,j,x,h=>by
  simp only [wC,List.getD_cons_zero] at h
  refine ⟨?_,by simp⟩
  cases al with
  | one al=>have:=DU (qR:=[al]) h; simpa using this
  | agg qR=>have:=DU h; simpa using this
  | bx qR=>have:=DU h; simpa using this
  | _=>simp [afu] at h
 | al::qR,i0,i+1,j,x,h=>by
  simp only [wC,List.getD_cons_succ] at h
  obtain ⟨h1,h2⟩:=PU h
  exact ⟨by rwa [show i0+1+i=i0+(i+1) from by omega] at h1,by simp; omega⟩
theorem Uu : ∀ {args:List Arg} {i0:Nat} {bs:List (Option (List RL))},BM σ n.np i0 args=some bs ->
  (∀ i rls,bs.getD i none=some rls->i<args.length /\ ∃ ls,(σ.k [i0+i,vL]).ch = .box ls/\lV σ n.np ls=some rls) /\
   ∀ k∈bs.flatMap jf,∃ i rls,bs.getD i none=some rls/\k∈rls.flatMap je
 | [],i0,bs,h=>by cases h; exact ⟨fun i rls h=>by simp at h,fun k hk=>(nomatch hk)⟩
 | al::args,i0,bs,h=>by
  have key : ∀ (o:Option (List RL)) (bs':List (Option (List RL))),BM σ n.np (i0+1) args=some bs'->bs=o::bs'->(∀ rls,o=some rls->∃ ls,(σ.k [i0,vL]).ch = .box ls/\lV σ n.np ls=some rls) ->
    (∀ i rls,bs.getD i none=some rls->i<(al::args).length /\ ∃ ls,(σ.k [i0+i,vL]).ch = .box ls/\lV σ n.np ls=some rls) /\ ∀ k∈bs.flatMap jf,∃ i rls,bs.getD i none=some rls/\k∈rls.flatMap je:=by
   intro o bs' h1 h2 h3
   subst h2
   obtain ⟨h4,h5⟩:=Uu h1
   refine ⟨fun i rls hi=>?_,fun k hk=>?_⟩
   ·cases i with
    | zero=>exact ⟨by simp,h3 rls hi⟩
    | succ i =>
     simp only [List.getD_cons_succ] at hi
     obtain ⟨h6,h7⟩:=h4 i rls hi
     exact ⟨by simp; omega,by rwa [show i0+1+i=i0+(i+1) from by omega] at h7⟩
   ·simp only [List.flatMap_cons,List.mem_append] at hk
    rcases hk with hk | hk
    ·cases o with
     | none=>cases hk
     | some rls=>exact ⟨0,rls,rfl,hk⟩
    ·obtain ⟨i,rls,h6,h7⟩:=h5 k hk
     exact ⟨i+1,rls,h6,h7⟩
  have none_:(BM σ n.np (i0+1) args).map (none :: ·)=some bs->(∀ i rls,bs.getD i none=some rls->i<(al::args).length /\ ∃ ls,(σ.k [i0+i,vL]).ch = .box ls/\lV σ n.np ls=some rls) /\
    ∀ k∈bs.flatMap jf,∃ i rls,bs.getD i none=some rls/\k∈rls.flatMap je:=fun h=>by
   cases hb:BM σ n.np (i0+1) args with
   | none=>rw [hb] at h; cases h
   | some bs' =>
    rw [hb] at h
    cases h
    exact key none bs' hb rfl fun _ h=>(nomatch h)
  cases al with
  | bx qR =>
   simp only [BM] at h
   cases hc:(σ.k [i0,vL]).ch with
   | box ls =>
    rw [hc] at h
    simp only at h
    cases h1:lV σ n.np ls with
    | none=>rw [h1] at h; cases h
    | some r =>
     rw [h1] at h
     cases hb:BM σ n.np (i0+1) args with
     | none=>rw [hb] at h; cases h
     | some bs' =>
      rw [hb] at h
      cases h
      exact key (some r) bs' hb rfl fun rls e=>by cases e; exact ⟨ls,hc,h1⟩
   | _=>rw [hc] at h; cases h
  | one _=>exact none_ h
  | agg _=>exact none_ h
  | Ie _ _=>exact none_ h
  | fn _ _=>exact none_ h
theorem JN : ∀ {ks:List Key},yX ks=true->ks.Nodup
 | [],_=>List.nodup_nil
 | k::ks,h=>by
  simp only [yX,Bool.and_eq_true,Bool.not_eq_true'] at h
  refine List.nodup_cons.2 ⟨fun hk=>?_,JN h.2⟩
  have:ks.any (dQ k)=true:=List.any_eq_true.2 ⟨k,hk,gu k⟩
  rw [this] at h
  cases h.1
theorem PV {P:Program} {f:ResultVar->Sem Value} {r:ResultVar} {rs:List ResultVar} {v:Value} {vs:List Value} (h1:(f r).run P w = .ok v w) (h2:(rs.mapM f).run P w = .ok vs w):((r::rs).mapM f).run P w = .ok (v::vs) w:=by
 rw [List.mapM_cons,Sem.run_bind,h1]
 simp only [Result.andThen_ok]
 rw [Sem.run_bind,h2]
 rfl
theorem Wy {Γ:Ctx} {P:Program} (hΓ:fE Γ P) (hR:R n σ g I a w) {f:ResultVar->Sem Value} (hf1 : ∀ t,f (.tmp t)=pure (a.tmps.getD t undef)) (hf2 : ∀ x t,f (.cell x t)=do loadVar t (<-asAddr (a.tmps.getD x undef))) :
  ∀ {rs:List ResultVar} {es:List fC},aaJ Γ σ rs=some es->∃ vs,(rs.mapM f).run P w = .ok vs w/\Wx σ.k g w I es vs
 | [],es,h=>by cases h; exact ⟨[],rfl,trivial⟩
 | .tmp t::rs,es,h=>by
  simp only [aaJ,Option.map_eq_some_iff] at h
  obtain ⟨es',h,rfl⟩:=h
  obtain ⟨vs,h1,h2⟩:=Wy hΓ hR hf1 hf2 h
  exact ⟨_::vs,PV (by rw [hf1]; rfl) h1,hR.slots t,h2⟩
 | .cell x t::rs,es,h=>by
  simp only [aaJ] at h
  split at h
  ·rename_i ti key m r off hty hsl
   cases hid:Nat.beq (σ.k key).bQ m with
   | false=>rw [hid] at h; cases h
   | true =>
    rw [hid] at h
    simp only [cond_true] at h
    have hs:=hR.slots x
    rw [hsl] at hs
    obtain ⟨-,-,hs⟩:=hs
    obtain ⟨b,o',hx,kH⟩:=hs (Nat.eq_of_beq_eq_true hid)
    have hch:=hR.vI key
    cases hc:(σ.k key).ch with
    | row _ _ _=>rw [hc] at h; cases h
    | fz _ _=>rw [hc] at h; cases h
    | gone=>rw [hc] at h; cases h
    | K9 _ _ _=>rw [hc] at h; cases h
    | hol _ _ _ _ _=>rw [hc] at h; cases h
    | box ls =>
     rw [hc] at h hch kH
     simp only at h
     cases hb:Nat.ble (off+ti.aR.length) ls.length with
     | false=>rw [hb] at h; cases h
     | true =>
      rw [hb] at h
      simp only [cond_true,Option.map_eq_some_iff] at h
      obtain ⟨es',h,rfl⟩:=h
      obtain ⟨vs,h1,h2⟩:=Wy hΓ hR hf1 hf2 h
      have auC:=Nat.le_of_ble_eq_true hb
      obtain ⟨bb,oo,c,el,fz,hh,hblk,hsz,-,-,hls⟩:=hch
      rw [hh] at kH
      simp only [addrIn,Option.some.injEq,Prod.mk.injEq] at kH
      obtain ⟨rfl,rfl⟩:=kH
      have hl:=cu.take ti.aR.length (cu.drop off hls)
      have hcell:bO w bb (oo+off) ((((c.toList.drop oo).take ls.length).drop off).take ti.aR.length):=by
       refine bO.of_block hblk _ _ fun j hj=>?_
       simp only [List.length_take,List.length_drop,Array.length_toList] at hj
       simp only [List.getElem_take,List.getElem_drop,Array.getElem_toList]
       rw [Array.getElem?_eq_getElem (by omega)]
       simp only [Nat.add_assoc]
      have hn:((((c.toList.drop oo).take ls.length).drop off).take ti.aR.length).length=ti.aR.length:=by
       simp only [List.length_take,List.length_drop,Array.length_toList]; omega
      have hty':=hΓ.ty _ _ hty
      have hrun : ∀ v,(loadVar t ⟨bb,oo+off,none⟩).run P w = .ok v w->(f (.cell x t)).run P w = .ok v w:=fun v hv=>by
       rw [hf2,hx]
       simp only [asAddr,pure_bind]
       exact hv
      cases ha:zh ti.kind with
      | true=>exact ⟨_,PV (hrun _ ((AJ hty' hcell hn).1 ha)) h1,Pk (by simpa using hl),h2⟩
      | false =>
       have hn1:=Ii hty' ha
       generalize hvs:(((c.toList.drop oo).take ls.length).drop off).take ti.aR.length=us at hl hcell hn
       rw [hn1] at hn
       match us,hn with
       | [v],_=>exact ⟨_,PV (hrun _ ((AJ hty' hcell (by simpa using hn1.symm)).2 ha v rfl)) h1,Li hl,h2⟩
  ·cases h
theorem Yb {P:Program} {fn:Func} {tmps:Array Value} {vs:List Value} (h : ∀ (f:ResultVar->Sem Value),(∀ t,f (.tmp t)=pure (tmps.getD t undef))->(∀ x t,f (.cell x t)=do loadVar t (<-asAddr (tmps.getD x undef)))->(fn.results.toList.mapM f).run P w = .ok vs w) :
  (results fn tmps).run P w = .ok (aiN vs) w:=by
 unfold results
 rw [show fn.results=fn.results.toList.toArray from by simp,List.mapM_toArray]
 rw [Sem.run_bind,map_eq_pure_bind,Sem.run_bind,h _ (fun _=>rfl) (fun _ _=>rfl)]
 match vs with
 | []=>rfl
 | [v]=>rfl
 | v::u::r=>rfl
theorem ad7 {Γ:Ctx} {P:Program} (hΓ:fE Γ P) {nt:Nat} {args:List Arg} {hb:args.length<=1000000} {A I0:aB} {w0:World} {fn:Func} {ret:fV} (hR:R (Ww nt args hb g0 I0 A) σ g I a w) (hinc : ∀ b o,I0 b o->I b o)
  (hk:Keeps (fun b o=>I0 b o\/A b o) w0 w) (h:Ez Γ fn args σ = .ok ret) : ∃ v,(results fn a.tmps).run P w = .ok v w/\JL g0 I0 A args w0 ret g I w v:=by
 unfold Ez at h
 simp only at h
 cases hre:aaJ Γ σ fn.results.toList with
 | none=>rw [hre] at h; cases h
 | some es =>
  rw [hre] at h
  simp only at h
  cases heo:Jv σ args.length es with
  | none=>rw [heo] at h; cases h
  | some rs =>
   rw [heo] at h
   simp only at h
   cases Wz:BM σ args.length 0 args with
   | none=>rw [Wz] at h; cases h
   | some bs =>
   rw [Wz] at h
   simp only at h
   cases hnd:yX (rs.flatMap eD++bs.flatMap jf) with
   | false=>rw [hnd] at h; cases h
   | true =>
    rw [hnd] at h
    cases h
    obtain ⟨vs,hrv,hev⟩ : ∃ vs,(results fn a.tmps).run P w = .ok (aiN vs) w/\Wx σ.k g w I es vs:=by
     have hx:=fun f h1 h2=>Wy hΓ hR (f:=f) h1 h2 hre
     obtain ⟨vs,h1,h2⟩:=hx (fun | .tmp t=>pure (a.tmps.getD t undef) | .cell x t=>do loadVar t (<-asAddr (a.tmps.getD x undef))) (fun _=>rfl) (fun _ _=>rfl)
     refine ⟨vs,Yb fun f hf1 hf2=>?_,h2⟩
     have:f=(fun | .tmp t=>pure (a.tmps.getD t undef) | .cell x t=>do loadVar t (<-asAddr (a.tmps.getD x undef))):=by
      funext r; cases r with
      | tmp t=>exact hf1 t
      | cell x t=>exact hf2 x t
     rw [this]; exact h1
    obtain ⟨h1,h2'⟩:=PO (n:=Ww nt args hb g0 I0 A) (g0:=g0) hR ⟨rfl,rfl⟩ hev heo
    obtain ⟨hb1,hb2⟩:=Uu (n:=Ww nt args hb g0 I0 A) Wz
    have hpg : ∀ k,gN args.length k->Live (σ.k k).ch->g.h k=g0.h k:=fun k hp hl=>hR.x.par k hp hl
    have afF : ∀ i ls,bs.getD i none=some ls->(∃ cs,w9 w (g0.h [i,vL]) (g.F [i,vL]) ls.length cs/\PK g0 g w I ls cs)/\(∀ r∈ls,acz σ args.length r) /\
      gN args.length [i,vL]/\Live (σ.k [i,vL]).ch:=by
     intro i ls hi
     obtain ⟨h3,ls0,h4,h5⟩:=hb1 i ls hi
     rw [Nat.zero_add] at h4
     have hp:gN args.length [i,vL]:=h3
     have hlv:Live (σ.k [i,vL]).ch:=by rw [h4]; trivial
     have e1:=hpg [i,vL] hp hlv
     have hch:=hR.vI [i,vL]
     rw [h4] at hch
     obtain ⟨cs,h6,h7⟩:=mZ.at hch
     obtain ⟨h8,h9⟩:=yB (n:=Ww nt args hb g0 I0 A) (g0:=g0) hR ⟨rfl,rfl⟩ h7 h5
     rw [e1] at h6
     refine ⟨⟨cs,?_,h8⟩,h9,hp,hlv⟩
     rw [BU h5]; exact h6
    have h2 : ∀ k∈iA ⟨rs,wC σ 0 args,bs⟩,Live (σ.k k).ch /\ ¬ gN args.length k:=by
     intro k hk
     rcases List.mem_append.1 hk with hk | hk
     ·exact h2' k hk
     ·obtain ⟨i,rls,h3,h4⟩:=hb2 k hk
      obtain ⟨-,h5,-⟩:=afF i rls h3
      obtain ⟨r,h6,h7⟩:=List.mem_flatMap.1 h4
      have h8:=h5 r h6
      cases r with
      | own k' es ms rows =>
       simp only [je,List.mem_singleton] at h7
       subst h7
       exact ⟨by rw [h8.1]; trivial,h8.2⟩
      | _=>cases h7
    have hown : ∀ i j es ms rows,lI ⟨rs,wC σ 0 args,bs⟩ i j=some (es,ms,rows)->(σ.k [i,j]).ch = .row es ms rows/\gN args.length [i,j]:=by
     intro i j es ms rows ho
     obtain ⟨h3,h4⟩:=PU ho
     simp only [Nat.zero_add] at h3
     exact ⟨h3,h4⟩
    have hP : ∀ i j,alH ⟨rs,wC σ 0 args,bs⟩ i j->Live (σ.k [i,j]).ch/\gN args.length [i,j]:=fun i j ho=>by
     rcases ho with ⟨⟨es,ms,rows⟩,ho⟩ | ⟨rfl,ls,ho⟩
     ·obtain ⟨h3,h4⟩:=hown i j es ms rows ho
      exact ⟨by rw [h3]; trivial,h4⟩
     ·obtain ⟨-,-,h3,h4⟩:=afF i ls ho
      exact ⟨h4,h3⟩
    have hO : ∀ k,Out ⟨rs,wC σ 0 args,bs⟩ k->Live (σ.k k).ch:=fun k ho=>by
     rcases ho with ho | ⟨i,j,ho,rfl⟩
     ·exact (h2 k ho).1
     ·exact (hP i j ho).1
    refine ⟨_,hrv,⟨_,rfl,h1⟩,fun i j es ms rows ho=>?_,fun i ls hi=>(afF i ls hi).1,JN hnd,fun k hk i j ho e=>(h2 k hk).2 (by rw [e]; exact (hP i j ho).2),fun k k' hk hk'=>hR.sep k k' (hO k hk) (hO k' hk'),
     fun k hk=>hR.jP k (hO k hk),fun k hk=>hR.x.wW k (hO k hk),hinc,hR.x.ia,hR.zu,hk⟩
    obtain ⟨h3,h4⟩:=hown i j es ms rows ho
    have hch:=hR.vI [i,j]
    rw [h3] at hch
    rw [<-hpg [i,j] h4 (by rw [h3]; trivial)]
    exact hch
end
end Go.E

namespace Go.E
open Go
section
variable {Γ:Ctx} {P:Program} {cf:FuncId->List Arg->R3 fV}
variable {n:Fr} {σ:S} {g:Gh} {I:aB} {a:Act} {w w':World}
variable {o:Oper} {f:FuncId} {tr:Tr} {Q:S->Tr->Prop} {K:Act->World->Prop} {Qm:Exit->Act->World->Prop}
structure Fits (σ:S) (g:Gh) (I:aB) (g0:Gh) (I0:aB) (c:Pass):Prop where
 lend : ∀ l∈c.gq,g0.h [l.i,l.j]=g.h l.key/\g0.F [l.i,l.j]=g.F l.key
 dep : ∀ b o,dF σ.k g I c.deps b o->ID g0 I0 b o
 inc : ∀ b o,I b o->I0 b o
structure gP (σ:S) (c:Pass):Prop where
 lend : ∀ l∈c.gq,(σ.k l.key).bQ=l.bQ/\((l.j=vL /\ ∃ ls,(σ.k l.key).ch = .box ls)\/(l.j≠vL /\ ∃ ms rows,(σ.k l.key).ch = .row l.es ms rows))
 old:Old σ.k c.deps
structure Ext (c c':Pass):Prop where
 lend : ∀ l∈c.gq,l∈c'.gq
 dep : ∀ d∈c.deps,d∈c'.deps
theorem Ext.refl (c:Pass):Ext c c:=⟨fun _ h=>h,fun _ h=>h⟩
theorem Ext.trans {c c' c'':Pass} (h:Ext c c') (h':Ext c' c''):Ext c c'':=⟨fun l hl=>h'.lend l (h.lend l hl),fun d hd=>h'.dep d (h.dep d hd)⟩
theorem Fits.ext {g0:Gh} {I0:aB} {c c':Pass} (h:Fits σ g I g0 I0 c') (e:Ext c c'):Fits σ g I g0 I0 c :=
 ⟨fun l hl=>h.lend l (e.lend l hl),fun b o hb=>h.dep b o (hb.imp id fun ⟨d,hd,h⟩=>⟨d,e.dep d hd,h⟩),h.inc⟩
theorem AR {κ:Key->KE} {ds ds':List Dp} (h : ∀ d∈ds,d∈ds') : ∀ b o,dF κ g I ds b o->dF κ g I ds' b o :=
 fun b o hb=>hb.imp id fun ⟨d,hd,h1⟩=>⟨d,h d hd,h1⟩
theorem aJ.same {S S':aB} (hs : ∀ b o,S b o->S' b o) {lt:LT} {v:Value} {d:T} (h:aJ w S lt v d):aJ w S' lt v d:=aJ.mono hs (fun _ _ _=>rfl) lt h
theorem dK.same {A A' S S':aB} (ha : ∀ b o,A b o->A' b o) (hs : ∀ b o,S b o->S' b o) {es:List LT} {b o:Nat} {row:List T} (h:dK w A S es b o row):dK w A' S' es b o row :=
 dK.mono ha (fun _ _ _=>rfl) hs (fun _ _ _=>rfl) es h
theorem gP.deps {c:Pass} (h:gP σ c) {ds:List Dp} (ho:Old σ.k ds):gP σ { c with deps:=ds++c.deps } :=
 ⟨h.lend,fun d hd=>(List.mem_append.1 hd).elim (ho d) (h.old d)⟩
theorem Ext.deps (c:Pass) (ds:List Dp):Ext c { c with deps:=ds++c.deps }:=⟨fun _ h=>h,fun d hd=>List.mem_append.2 (.inr hd)⟩
theorem gP.aaU {c:Pass} (h:gP σ c) {k:Key} : gP σ { c with deps:=(k,(σ.k k).cv)::c.deps } :=
 ⟨h.lend,fun d hd=>by rcases List.mem_cons.1 hd with rfl | hd; exact Nat.le_refl _; exact h.old d hd⟩
theorem Ext.aaU (c:Pass) (d:Dp):Ext c { c with deps:=d::c.deps }:=⟨fun _ h=>h,fun d hd=>List.mem_cons.2 (.inr hd)⟩
def AU (c:Pass) (i j:Nat):AL->Prop
 | .own _ _ _=>∃ l∈c.gq,l.i=i/\l.j=j
 | _=>True
theorem AU.ext {c c':Pass} (e:Ext c c') {i j:Nat} {al:AL} (h:AU c i j al):AU c' i j al:=by
 cases al with
 | own _ _ _=>obtain ⟨l,h1,h2⟩:=h; exact ⟨l,e.lend l h1,h2⟩
 | _=>trivial
theorem uK (hR:R n σ g I a w) {i j:Nat} {m:PM} {l:Leaf} {v:Value} {c:Pass} {k:AL->Pass->Prog} (hc:gP σ c) (hl:ER σ.k g w I l v) (h:(wR i j m l c k).wp cf σ tr Q) :
  ∃ al c' dI,(k al c').wp cf σ dI Q/\gP σ c'/\Ext c c'/\AU c' i j al /\ ∀ g0 I0,Fits σ g I g0 I0 c'->AlR g0 w I0 i j al v:=by
 have hnil : ∀ (S:aB) (es:List LT),aJ w S (.sl es) (.slice none 0 0) (.l []):=fun S es=>by unfold aJ; exact ⟨none,0,[],rfl,rfl,Nat.le_refl _,Nat.zero_le _,.inl rfl⟩
 obtain ⟨st,lt,d⟩:=l
 obtain ⟨hs,hl⟩:=hl
 unfold wR at h
 simp only at h hl
 split at h
 ·obtain ⟨s',e1,h1⟩:=hl
  cases e1
  exact ⟨_,c,tr,h,hc,Ext.refl c,trivial,fun _ _ _=>h1⟩
 ·obtain ⟨-,rfl,-⟩:=hl
  cases m with
  | R=>exact ⟨_,c,tr,h,hc,Ext.refl c,trivial,fun _ _ _=>hnil _ _⟩
  | F=>exact ⟨_,c,tr,h,hc,Ext.refl c,trivial,fun _ _ _=>hnil _ _⟩
  | O _=>exact ⟨_,c,tr,h,hc,Ext.refl c,trivial,fun _ _ _=>rfl⟩
 ·rename_i es deps
  obtain ⟨-,h1,h2⟩:=hl
  cases m with
  | O _=>exact h.elim
  | R =>
   obtain ⟨h3,dI,h⟩:=uF h
   have h4:=h2 h3
   refine ⟨_,_,dI,h,hc.deps h1,Ext.deps c deps,trivial,fun g0 I0 hf=>?_⟩
   have h5:aJ w (ID g0 I0) (.sl es) v d:=h4.same fun b o hb=>hf.dep b o (AR (fun d hd=>List.mem_append.2 (.inl hd)) b o hb)
   have h6:=h5
   unfold aJ at h6
   obtain ⟨_,_,rows,rfl,-⟩:=h6
   exact h5
  | F =>
   cases deps with
   | cons _ _=>exact h.elim
   | nil =>
    have h4:=h2 (JD _)
    refine ⟨_,c,tr,h,hc,Ext.refl c,trivial,fun g0 I0 hf=>?_⟩
    have h5:aJ w I0 (.sl es) v d:=h4.same fun b o hb=>hb.elim (hf.inc b o) fun ⟨d,hd,_⟩=>(nomatch hd)
    have h6:=h5
    unfold aJ at h6
    obtain ⟨_,_,rows,rfl,-⟩:=h6
    exact h5
 ·rename_i es key mm cv r off
  obtain ⟨-,-,h1,h2⟩:=hl
  cases m with
  | O _=>exact h.elim
  | F=>exact h.elim
  | R =>
   obtain ⟨h3,dI,h⟩:=uF h
   have h4:=(h2 h3).1
   refine ⟨_,_,dI,h,hc.deps h1,Ext.deps c [(key,cv)],trivial,fun g0 I0 hf=>?_⟩
   have h5:aJ w (ID g0 I0) (.sl es) v d:=h4.same fun b o hb=>hf.dep b o (AR (fun d hd=>List.mem_append.2 (.inl hd)) b o hb)
   have h6:=h5
   unfold aJ at h6
   obtain ⟨_,_,rows,rfl,-⟩:=h6
   exact h5
 ·rename_i es0 key m'
  obtain ⟨-,h1,h2⟩:=hl
  obtain ⟨h3,h⟩:=h
  have hid:=Nat.eq_of_beq_eq_true h3
  have hv:=h2 hid
  have hch:=hR.vI key
  cases hcc:(σ.k key).ch with
  | box _=>rw [hcc] at h; cases m <;> exact h.elim
  | gone=>rw [hcc] at h; cases m <;> exact h.elim
  | K9 _ _ _=>rw [hcc] at h; cases m <;> exact h.elim
  | hol _ _ _ _ _=>rw [hcc] at h; cases m <;> exact h.elim
  | fz es rows =>
   rw [hcc] at h hch
   cases m with
   | O _=>exact h.elim
   | R =>
    obtain ⟨hq,h⟩:=h
    refine ⟨_,c,_,h,hc,Ext.refl c,trivial,fun g0 I0 hf=>?_⟩
    subst hv
    exact aJ.same (fun b o hb=>.inl (hf.inc b o hb)) hch
   | F =>
    obtain ⟨hq,h⟩:=h
    refine ⟨_,c,_,h,hc,Ext.refl c,trivial,fun g0 I0 hf=>?_⟩
    subst hv
    exact aJ.same hf.inc hch
  | row es ms rows =>
   rw [hcc] at h hch
   cases m with
   | F=>exact h.elim
   | R =>
    obtain ⟨hq,h⟩:=h
    refine ⟨_,_,_,h,hc.aaU,Ext.aaU c _,trivial,fun g0 I0 hf=>?_⟩
    subst hv
    exact aV.leaf hch (fun b o hb=>.inl (hf.inc b o hb)) fun b o hb=>hf.dep b o (.inr ⟨(key,(σ.k key).cv),by simp,.inr ⟨by simp only [hcc]; trivial,hb⟩⟩)
   | O _ =>
    obtain ⟨hq,h⟩:=h
    refine ⟨_,_,_,h,⟨fun l hl=>?_,hc.old⟩,⟨fun l hl=>List.mem_cons.2 (.inr hl),fun _ h=>h⟩,⟨_,List.mem_cons.2 (.inl rfl),rfl,rfl⟩,fun g0 I0 hf=>?_⟩
    ·rcases List.mem_cons.1 hl with rfl | hl
     ·refine ⟨hid,.inr ⟨fun e=>?_,ms,rows,hcc⟩⟩
      simp only [Bool.and_eq_true] at hq
      have h9:=Nat.le_of_ble_eq_true hq.2
      have e:j=vL:=e
      omega
     ·exact hc.lend l hl
    ·obtain ⟨h4,h5⟩:=hf.lend _ (List.mem_cons.2 (.inl rfl))
     subst hv
     refine ⟨h4.symm,?_⟩
     rw [h5]
     exact aV.same hf.inc hch
 ·exact h.elim
def jh (c:Pass) (i:Nat):Nat->List AL->Prop
 | _,[]=>True
 | j,a::as=>AU c i j a/\jh c i (j+1) as
theorem jh.ext {c c':Pass} (e:Ext c c') {i:Nat} : ∀ {j:Nat} {qR:List AL},jh c i j qR->jh c' i j qR
 | _,[],_=>trivial
 | _,_::_,h=>⟨h.1.ext e,jh.ext e h.2⟩
theorem Hl (hR:R n σ g I a w) {i:Nat} : ∀ {ls:List Leaf} {vs:List Value} {j:Nat} {ms:List PM} {c:Pass} {k:List AL->Pass->Prog} {tr:Tr},gP σ c->cu σ.k g w I ls vs ->
  (Ig i j ms ls c k).wp cf σ tr Q->∃ qR c' dI,(k qR c').wp cf σ dI Q/\gP σ c'/\Ext c c'/\jh c' i j qR /\ ∀ g0 I0,Fits σ g I g0 I0 c'->Iu g0 w I0 i j qR vs
 | [],[],j,ms,c,k,tr,hc,hl,h=>⟨[],c,tr,h,hc,Ext.refl c,trivial,fun _ _ _=>trivial⟩
 | l::ls,v::vs,j,ms,c,k,tr,hc,hl,h=>by
  obtain ⟨al,c1,t1,h,h1,h2,h3,h4⟩:=uK hR hc hl.1 h
  obtain ⟨qR,c2,t2,h,h5,h6,h7,h8⟩:=Hl hR h1 hl.2 h
  exact ⟨_,c2,t2,h,h5,h2.trans h6,⟨h3.ext h6,h7⟩,fun g0 I0 hf=>⟨h4 g0 I0 (hf.ext h6),h8 g0 I0 hf⟩⟩
 | [],_::_,_,_,_,_,_,_,hl,_=>hl.elim
 | _::_,[],_,_,_,_,_,_,hl,_=>hl.elim
theorem WA (hR:R n σ g I a w) {i j:Nat} {l:Leaf} {v:Value} {c:Pass} {k:AL->Pass->Prog} (hc:gP σ c) (hl:ER σ.k g w I l v) (h:(Lb i j l c k).wp cf σ tr Q) :
  ∃ al c' dI,(k al c').wp cf σ dI Q/\gP σ c'/\Ext c c'/\AU c' i j al /\ ∀ g0 I0,Fits σ g I g0 I0 c'->AlR g0 w I0 i j al v:=by
 unfold Lb at h
 split at h
 ·simp only [Prog.wp] at h
  split at h
  ·exact uK hR hc hl h
  ·exact uK hR hc hl h
 ·exact uK hR hc hl h
 ·exact uK hR hc hl h
theorem FC (hR:R n σ g I a w) {i:Nat} : ∀ {ls:List Leaf} {vs:List Value} {j:Nat} {c:Pass} {k:List AL->Pass->Prog} {tr:Tr},gP σ c->cu σ.k g w I ls vs ->
  (Fa i j ls c k).wp cf σ tr Q->∃ qR c' dI,(k qR c').wp cf σ dI Q/\gP σ c'/\Ext c c'/\jh c' i j qR/\qR.length=ls.length /\ ∀ g0 I0,Fits σ g I g0 I0 c'->Iu g0 w I0 i j qR vs
 | [],[],j,c,k,tr,hc,hl,h=>⟨[],c,tr,h,hc,Ext.refl c,trivial,rfl,fun _ _ _=>trivial⟩
 | l::ls,v::vs,j,c,k,tr,hc,hl,h=>by
  obtain ⟨al,c1,t1,h,h1,h2,h3,h4⟩:=WA hR hc hl.1 h
  obtain ⟨qR,c2,t2,h,h5,h6,h7,h9,h8⟩:=FC hR h1 hl.2 h
  exact ⟨_,c2,t2,h,h5,h2.trans h6,⟨h3.ext h6,h7⟩,by simp [h9],fun g0 I0 hf=>⟨h4 g0 I0 (hf.ext h6),h8 g0 I0 hf⟩⟩
 | [],_::_,_,_,_,_,_,hl,_=>hl.elim
 | _::_,[],_,_,_,_,_,hl,_=>hl.elim
def acA (c:Pass) (i:Nat):Prop:=∃ l∈c.gq,l.i=i/\l.j=vL
theorem aaV (hR:R n σ g I a w) {i sz:Nat} {e:fC} {v:Value} {c:Pass} {k:Arg->Pass->Prog} (hc:gP σ c) (he:r9 σ.k g w I e v) (h:(VP i sz e c k).wp cf σ tr Q) :
  ∃ qR c' dI,(k (.bx qR) c').wp cf σ dI Q/\gP σ c'/\Ext c c'/\(acA c' i/\jh c' i 0 qR) /\ ∀ g0 I0,Fits σ g I g0 I0 c'->BxR g0 w I0 i qR v:=by
 cases e with
 | ptr key m r off =>
  obtain ⟨hs,hm1,hm2⟩:=he
  simp only [VP] at h
  obtain ⟨h3,h⟩:=h
  have hid:=Nat.eq_of_beq_eq_true h3
  obtain ⟨b,o',rfl,ha⟩:=hm2 hid
  have hch:=hR.vI key
  cases hcc:(σ.k key).ch with
  | box ls =>
   rw [hcc] at h hch ha
   obtain ⟨hq,h⟩:=h
   simp only [Bool.and_eq_true] at hq
   have hoff:=Nat.eq_of_beq_eq_true hq.1.1
   subst hoff
   obtain ⟨cs,hb,hl⟩:=mZ.at hch
   have hv:Value.pointer (some ⟨b,o',none⟩)=g.h key:=by
    obtain ⟨b',o1,cc,el,fz,hh,-⟩:=hb
    rw [hh] at ha ⊢
    simp only [addrIn,Nat.add_zero,Option.some.injEq,Prod.mk.injEq] at ha
    obtain ⟨rfl,rfl⟩:=ha
    rfl
   have hc1:gP σ { c with gq:=⟨key,m,[],i,vL⟩::c.gq }:=⟨fun l hl=>by
    rcases List.mem_cons.1 hl with rfl | hl
    ·exact ⟨hid,.inl ⟨rfl,ls,hcc⟩⟩
    ·exact hc.lend l hl,hc.old⟩
   have e1:Ext c { c with gq:=⟨key,m,[],i,vL⟩::c.gq }:=⟨fun l hl=>List.mem_cons.2 (.inr hl),fun _ h=>h⟩
   obtain ⟨qR,c2,t2,h,h5,h6,h7,h9,h8⟩:=FC hR hc1 hl h
   have hmem:(⟨key,m,[],i,vL⟩:wQ)∈c2.gq:=h6.lend _ (List.mem_cons.2 (.inl rfl))
   refine ⟨qR,c2,t2,h,h5,e1.trans h6,⟨⟨_,hmem,rfl,rfl⟩,h7⟩,fun g0 I0 hf=>?_⟩
   obtain ⟨h10,h11⟩:=hf.lend _ hmem
   refine ⟨hv.trans h10.symm,cs,?_,h8 g0 I0 hf⟩
   have h10:g0.h [i,vL]=g.h key:=h10
   have h11:g0.F [i,vL]=g.F key:=h11
   rw [h10,h11,h9]
   exact hb
  | row _ _ _=>rw [hcc] at h; exact h.elim
  | fz _ _=>rw [hcc] at h; exact h.elim
  | gone=>rw [hcc] at h; exact h.elim
  | K9 _ _ _=>rw [hcc] at h; exact h.elim
  | hol _ _ _ _ _=>rw [hcc] at h; exact h.elim
 | one _=>exact h.elim
 | agg _=>exact h.elim
 | OT _=>exact h.elim
 | rp _ _ _=>exact h.elim
 | fn _ _=>exact h.elim
 | und=>exact h.elim
 | junk=>exact h.elim
theorem BX (hR:R n σ g I a w) : ∀ {ls:List Leaf} {vs:List Value} {c:Pass} {k:List LT->List T->Pass->Prog} {tr:Tr},gP σ c->cu σ.k g w I ls vs ->
  (zk ls c k).wp cf σ tr Q->∃ aR ds c' dI,(k aR ds c').wp cf σ dI Q/\gP σ c'/\Ext c c' /\ ∀ g0 I0,Fits σ g I g0 I0 c'->aW w (ID g0 I0) aR vs ds
 | [],[],c,k,tr,hc,hl,h=>⟨[],[],c,tr,h,hc,Ext.refl c,fun _ _ _=>trivial⟩
 | l::ls,v::vs,c,k,tr,hc,hl,h=>by
  have hl1:=hl.1
  obtain ⟨st,lt,d⟩:=l
  simp only [zk] at h
  split at h
  ·obtain ⟨hs,s',e1,h1⟩:=hl1
   cases e1
   obtain ⟨aR,ds,c',dI,h,h2,h3,h4⟩:=BX hR hc hl.2 h
   exact ⟨_,_,c',dI,h,h2,h3,fun g0 I0 hf=>⟨by unfold aJ; exact h1,h4 g0 I0 hf⟩⟩
  ·obtain ⟨es,rows,deps,t1,h,h1,h2,h3⟩:=qZ hR hl1 h
   obtain ⟨aR,ds,c',dI,h,h4,h5,h6⟩:=BX hR (hc.deps h3) hl.2 h
   refine ⟨_,_,c',dI,h,h4,(Ext.deps c deps).trans h5,fun g0 I0 hf=>⟨h1.same fun b o hb=>?_,h6 g0 I0 hf⟩⟩
   exact (hf.ext h5).dep b o (AR (fun d hd=>List.mem_append.2 (.inl hd)) b o hb)
 | [],_::_,_,_,_,_,hl,_=>hl.elim
 | _::_,[],_,_,_,_,hl,_=>hl.elim
theorem dK.drop {S A:aB} : ∀ {es:List LT} {b o:Nat} {row:List T} (k:Nat),dK w A S es b o row->dK w A S (es.drop k) b (o+k) (row.drop k)
 | es,b,o,row,0,h=>by simpa using h
 | [],b,o,row,k+1,h=>by
  unfold dK at h
  subst h
  simp only [List.drop_nil]
  unfold dK; rfl
 | e::es,b,o,row,k+1,h=>by
  unfold dK at h
  obtain ⟨d,rest,v,rfl,h2,h3,h4,h5⟩:=h
  have:=dK.drop k h5
  simpa [show o+1+k=o+(k+1) from by omega] using this
theorem dK.take {S A:aB} : ∀ {es:List LT} {b o:Nat} {row:List T} (k:Nat),dK w A S es b o row->dK w A S (es.take k) b o (row.take k)
 | es,b,o,row,0,h=>by simp only [List.take_zero]; unfold dK; rfl
 | [],b,o,row,k+1,h=>by
  unfold dK at h
  subst h
  simp only [List.take_nil]
  unfold dK; rfl
 | e::es,b,o,row,k+1,h=>by
  unfold dK at h
  obtain ⟨d,rest,v,rfl,h2,h3,h4,h5⟩:=h
  simp only [List.take_succ_cons]
  unfold dK
  exact ⟨d,_,v,rfl,h2,h3,h4,dK.take k h5⟩
def JO {α:Type} (sz:Option Nat) (l:List α):List α:=match sz with | some n=>l.take n | none=>l
theorem dK.JO {S A:aB} {es:List LT} {b o:Nat} {row:List T} (sz:Option Nat) (h:dK w A S es b o row):dK w A S (JO sz es) b o (JO sz row):=by
 cases sz with
 | none=>exact h
 | some k=>exact h.take k
theorem Iw (hR:R n σ g I a w) {sz:Option Nat} {e:fC} {v:Value} {c:Pass} {k:Arg->Pass->Prog} (hc:gP σ c) (he:r9 σ.k g w I e v) (h:(Jm sz e c k).wp cf σ tr Q) :
  ∃ aR row c' dI,(k (.Ie aR row) c').wp cf σ dI Q/\gP σ c'/\Ext c c' /\ ∀ g0 I0,Fits σ g I g0 I0 c'->ad5 w (ID g0 I0) aR row v:=by
 cases e with
 | ptr key m r off =>
  obtain ⟨hs,hm1,hm2⟩:=he
  simp only [Jm] at h
  obtain ⟨h3,h⟩:=h
  have hid:=Nat.eq_of_beq_eq_true h3
  obtain ⟨b,o',rfl,ha⟩:=hm2 hid
  have hch:=hR.vI key
  cases hcc:(σ.k key).ch with
  | gone=>rw [hcc] at h; exact h.elim
  | box ls =>
   rw [hcc] at h hch ha
   obtain ⟨b',o1,cc,el,fz,hh,hblk,hsz,hfz,hF,hl⟩:=hch
   rw [hh] at ha
   simp only [addrIn,Option.some.injEq,Prod.mk.injEq] at ha
   obtain ⟨rfl,rfl⟩:=ha
   have hdl:=hl.drop off
   have key1 : ∀ (ls':List Leaf) (vs':List Value),ls'=JO sz (ls.drop off)->vs'=JO sz (((cc.toList.drop o1).take ls.length).drop off)->cu σ.k g w I ls' vs'/\bO w b' (o1+off) vs'/\(∀ j,j<vs'.length->g.F key b' (o1+off+j)):=by
    have c1:bO w b' (o1+off) (((cc.toList.drop o1).take ls.length).drop off):=by
     refine bO.of_block hblk _ _ fun j hj=>?_
     simp only [List.length_drop,List.length_take,Array.length_toList] at hj
     simp only [List.getElem_drop,List.getElem_take,Array.getElem_toList]
     rw [Array.getElem?_eq_getElem (by omega)]
     simp only [Nat.add_assoc]
    have c2 : ∀ j,j<(((cc.toList.drop o1).take ls.length).drop off).length->g.F key b' (o1+off+j):=fun j hj=>by
     simp only [List.length_drop,List.length_take,Array.length_toList] at hj
     exact (hF b' _).2 ⟨rfl,by omega,by omega⟩
    intro ls' vs' e1 e2
    subst e1; subst e2
    cases sz with
    | none=>exact ⟨hdl,c1,c2⟩
    | some m=>exact ⟨hdl.take m,c1.take m,fun j hj=>c2 j (by simp only [JO,List.length_take] at hj; omega)⟩
   obtain ⟨k1,k2,k3⟩:=key1 _ _ rfl rfl
   obtain ⟨aR,ds,c',dI,h,h4,h5,h6⟩:=BX hR (gP.aaU hc (k:=key)) k1 h
   refine ⟨aR,ds,c',dI,h,h4,(Ext.aaU c _).trans h5,fun g0 I0 hf=>⟨b',o1+off,rfl,dK.CB (h6 g0 I0 hf) k2 fun j hj=>?_⟩⟩
   exact (hf.ext h5).dep _ _ (.inr ⟨(key,(σ.k key).cv),by simp,.inr ⟨by simp only [hcc]; trivial,k3 j hj⟩⟩)
  | K9 _ _ _=>rw [hcc] at h; exact h.elim
  | hol _ _ _ _ _=>rw [hcc] at h; exact h.elim
  | row es ms rows =>
   rw [hcc] at h hch ha
   obtain ⟨hr,h⟩:=h
   have hr:=of_decide_eq_true hr
   obtain ⟨b',cap,vs,bs,hh,h6,h7,h8,h9⟩:=aV.row hch hr
   rw [hh] at ha
   simp only [addrIn,mW,Option.some.injEq,Prod.mk.injEq,Nat.zero_add] at ha
   obtain ⟨rfl,rfl⟩:=ha
   refine ⟨_,_,_,_,h,hc.aaU,Ext.aaU c _,fun g0 I0 hf=>⟨b',_,rfl,?_⟩⟩
   have e1:rows.getD r []=rows[r]:=by simp [hr]
   rw [e1]
   have hd : ∀ b o,g.F key b o->ID g0 I0 b o:=fun b o hb=>hf.dep b o (.inr ⟨(key,(σ.k key).cv),by simp,.inr ⟨by simp only [hcc]; trivial,hb⟩⟩)
   have h1:dK w (ID g0 I0) (ID g0 I0) es b' (r * es.length) rows[r]:=dK.CB (au.leaves (fun b o hb=>.inl (hf.inc b o hb)) es (fun b o hb=>hd b o (h8 b o hb)) h7) h6 fun j hj=>hd _ _ (h9 j (by rw [(au.len es h7).1] at hj; exact hj))
   exact (h1.drop off).JO sz
  | fz es rows =>
   rw [hcc] at h hch ha
   obtain ⟨hr,h⟩:=h
   have hr:=of_decide_eq_true hr
   refine ⟨_,_,_,_,h,hc,Ext.refl c,fun g0 I0 hf=>⟨b,o',rfl,?_⟩⟩
   simp only [Hf] at hch
   unfold aJ at hch
   obtain ⟨aa,cap,rows',e1,hh,h4,h5,h6⟩:=hch
   cases e1
   rcases h6 with rfl | ⟨b1,o1,rfl,h6⟩
   ·simp at hr
   rw [hh] at ha
   simp only [addrIn,mW,Option.some.injEq,Prod.mk.injEq] at ha
   obtain ⟨rfl,rfl⟩:=ha
   have e1:rows.getD r []=rows[r]:=by simp [hr]
   rw [e1]
   exact (((h6 r hr).same (fun b o hb=>.inl (hf.inc b o hb)) (fun b o hb=>.inl (hf.inc b o hb))).drop off).JO sz
 | rp deps aR row =>
  simp only [Jm] at h
  obtain ⟨hs,h1,h2⟩:=he
  obtain ⟨h3,dI,h⟩:=uF h
  obtain ⟨b,o',rfl,h4⟩:=h2 h3
  refine ⟨_,_,_,dI,h,hc.deps h1,Ext.deps c deps,fun g0 I0 hf=>⟨b,o',rfl,?_⟩⟩
  have hd : ∀ b o,dF σ.k g I deps b o->ID g0 I0 b o:=fun b o hb=>hf.dep b o (AR (fun d hd=>List.mem_append.2 (.inl hd)) b o hb)
  exact (h4.same hd hd).JO sz
 | _=>exact h.elim
theorem MG (hR:R n σ g I a w) : ∀ {es:List fC} {vs:List Value} {c:Pass} {k:List Arg->Pass->Prog} {tr:Tr},gP σ c->pY σ.k g w I es vs ->
  (OX es c k).wp cf σ tr Q->∃ as c' dI,(k as c').wp cf σ dI Q/\gP σ c'/\Ext c c' /\ ∀ g0 I0,Fits σ g I g0 I0 c'->Ut g0 w I0 as vs
 | [],[],c,k,tr,hc,hl,h=>⟨[],c,tr,h,hc,Ext.refl c,fun _ _ _=>trivial⟩
 | e::es,v::vs,c,k,tr,hc,hl,h=>by
  obtain ⟨aR,row,c1,t1,h,h1,h2,h3⟩:=Iw hR hc hl.1 h
  obtain ⟨as,c2,t2,h,h4,h5,h6⟩:=MG hR h1 hl.2 h
  exact ⟨_,c2,t2,h,h4,h2.trans h5,fun g0 I0 hf=>⟨⟨aR,row,rfl,h3 g0 I0 (hf.ext h5)⟩,h6 g0 I0 hf⟩⟩
 | [],_::_,_,_,_,_,hl,_=>hl.elim
 | _::_,[],_,_,_,_,hl,_=>hl.elim
def JQ (c:Pass) (i:Nat):Arg->Prop
 | .one al=>AU c i 0 al
 | .agg qR=>jh c i 0 qR
 | .bx qR=>acA c i/\jh c i 0 qR
 | _=>True
theorem jg {p q:Prog} {b:Bool} (h:(cond b p q).wp cf σ tr Q):(b=true/\p.wp cf σ tr Q)\/(b=false/\q.wp cf σ tr Q):=by
 cases b
 ·exact .inr ⟨rfl,h⟩
 ·exact .inl ⟨rfl,h⟩
theorem aaW (hR:R n σ g I a w) {i:Nat} {pm:List PM} {e:fC} {v:Value} {c:Pass} {k:Arg->Pass->Prog} (hc:gP σ c) (he:jY σ.k g w I e v) (h:(VQ i pm e c k).wp cf σ tr Q) :
  ∃ x c' dI,(k x c').wp cf σ dI Q/\gP σ c'/\Ext c c'/\JQ c' i x /\ ∀ g0 I0,Fits σ g I g0 I0 c'->Ti g0 w I0 i x v:=by
 unfold VQ at h
 cases e with
 | one l =>
  obtain ⟨al,c1,t1,h,h1,h2,h3,h4⟩:=uK hR hc he h
  exact ⟨_,c1,t1,h,h1,h2,h3,h4⟩
 | agg ls =>
  obtain ⟨cs,rfl,he⟩:=he
  obtain ⟨qR,c1,t1,h,h1,h2,h3,h4⟩:=Hl hR hc he h
  exact ⟨_,c1,t1,h,h1,h2,h3,fun g0 I0 hf=>⟨cs,rfl,h4 g0 I0 hf⟩⟩
 | fn f caps =>
  obtain ⟨vs,rfl,he⟩:=he
  obtain ⟨as,c1,t1,h,h1,h2,h3⟩:=MG hR hc he h
  exact ⟨_,c1,t1,h,h1,h2,trivial,fun g0 I0 hf=>⟨vs,rfl,h3 g0 I0 hf⟩⟩
 | ptr k m r off =>
  rcases jg h with ⟨-,h⟩ | ⟨-,h⟩
  ·obtain ⟨qR,c1,t1,h,h1,h2,h3,h4⟩:=aaV hR hc (e:=.ptr k m r off) he h
   exact ⟨_,c1,t1,h,h1,h2,h3,h4⟩
  ·obtain ⟨aR,row,c1,t1,h,h1,h2,h3⟩:=Iw hR hc (e:=.ptr k m r off) he h
   exact ⟨_,c1,t1,h,h1,h2,trivial,h3⟩
 | rp ds aR row =>
  rcases jg h with ⟨-,h⟩ | ⟨-,h⟩
  ·exact h.elim
  ·obtain ⟨aR,row,c1,t1,h,h1,h2,h3⟩:=Iw hR hc (e:=.rp ds aR row) he h
   exact ⟨_,c1,t1,h,h1,h2,trivial,h3⟩
 | OT _=>rcases jg h with ⟨-,h⟩ | ⟨-,h⟩ <;> exact h.elim
 | und=>rcases jg h with ⟨-,h⟩ | ⟨-,h⟩ <;> exact h.elim
 | junk=>rcases jg h with ⟨-,h⟩ | ⟨-,h⟩ <;> exact h.elim
def CO (c:Pass):Nat->List Arg->Prop
 | _,[]=>True
 | i,a::as=>JQ c i a/\CO c (i+1) as
theorem JQ.ext {c c':Pass} (e:Ext c c') {i:Nat} {x:Arg} (h:JQ c i x):JQ c' i x:=by
 cases x with
 | one al=>exact AU.ext (al:=al) e h
 | agg qR=>exact jh.ext e h
 | bx qR=>obtain ⟨⟨l,h1,h2⟩,h3⟩:=h; exact ⟨⟨l,e.lend l h1,h2⟩,jh.ext e h3⟩
 | _=>trivial
theorem PX (hR:R n σ g I a w) {pms:List (List PM)} : ∀ {es:List fC} {vs:List Value} {i:Nat} {c:Pass} {k:List Arg->Pass->Prog} {tr:Tr},gP σ c->wZ σ.k g w I es vs ->
  (VR pms i es c k).wp cf σ tr Q->∃ as c' dI,(k as c').wp cf σ dI Q/\gP σ c'/\Ext c c'/\CO c' i as /\ ∀ g0 I0,Fits σ g I g0 I0 c'->AQ g0 w I0 i as vs
 | [],[],i,c,k,tr,hc,hl,h=>⟨[],c,tr,h,hc,Ext.refl c,trivial,fun _ _ _=>trivial⟩
 | e::es,v::vs,i,c,k,tr,hc,hl,h=>by
  obtain ⟨x,c1,t1,h,h1,h2,h3,h4⟩:=aaW hR hc hl.1 h
  obtain ⟨as,c2,t2,h,h5,h6,h7,h8⟩:=PX hR h1 hl.2 h
  exact ⟨_,c2,t2,h,h5,h2.trans h6,⟨h3.ext h6,h7⟩,fun g0 I0 hf=>⟨h4 g0 I0 (hf.ext h6),h8 g0 I0 hf⟩⟩
 | [],_::_,_,_,_,_,_,hl,_=>hl.elim
 | _::_,[],_,_,_,_,_,hl,_=>hl.elim
theorem jh.mem {c:Pass} {i:Nat} : ∀ {j:Nat} {qR:List AL},jh c i j qR->∀ p∈He i j qR,∃ l∈c.gq,p.1=[l.i,l.j]
 | _,[],_,p,hp=>by cases hp
 | j,al::qR,h,p,hp=>by
  have ih:=jh.mem h.2 p
  cases al with
  | own es ms rows =>
   simp only [He,List.mem_cons] at hp
   rcases hp with rfl | hp
   ·obtain ⟨l,h1,rfl,rfl⟩:=h.1
    exact ⟨l,h1,rfl⟩
   ·exact ih hp
  | sc _ _=>exact ih hp
  | fz _ _=>exact ih hp
  | nl _=>exact ih hp
  | dz _ _=>exact ih hp
theorem CO.mem {c:Pass} : ∀ {i:Nat} {as:List Arg},CO c i as->∀ p∈zq i as,∃ l∈c.gq,p.1=[l.i,l.j]
 | _,[],_,p,hp=>by cases hp
 | i,x::as,h,p,hp=>by
  simp only [zq,List.mem_append] at hp
  rcases hp with hp | hp
  ·cases x with
   | one al=>exact jh.mem (j:=0) (qR:=[al]) ⟨h.1,trivial⟩ p hp
   | agg qR=>exact jh.mem h.1 p hp
   | Ie _ _=>cases hp
   | fn _ _=>cases hp
   | bx qR =>
    obtain ⟨⟨⟨l,h1,h2,h3⟩,h4⟩,-⟩:=h
    simp only [aci,List.mem_cons] at hp
    rcases hp with rfl | hp
    ·exact ⟨l,h1,by rw [h2,h3]⟩
    ·exact jh.mem h4 p hp
  ·exact CO.mem h.2 p hp
end
end Go.E

