/- A part of the proof: texts EIns1, EIns, EDel1, EDel, VNS2, VNS3, VDK1, VDK2, VDK3, VDK4, VDK5, VEDelR, VEDelW, VTIns, VLays, QH: see the last part's opening words. -/
import Derived.Test.YtpchnmbcbcfhjaaGreatE3
import Derived.Shelf.RegionOpenPlain
import Derived.Lib.AppendZerosOnto
import Derived.Lib.Overlaps
import Derived.Laws.Externs
import Derived.Laws.IdiomCopy
import Derived.Lib.JoinLaws
import Derived.Lib.AppendZeros
import Derived.Shelf.Spec.SlicesInsert
import Derived.Deep.RegionLaw
import Derived.Test.YtpchnmbcbcfhjaaGreatProg
import Derived.StillTailTactics
import Derived.Maps.OwnOps
import Derived.Maps.OwnSet
import Derived.Maps.Views
set_option linter.unusedVariables false
set_option linter.unusedSimpArgs false
set_option linter.unnecessarySimpa false
namespace Go.E
open Go Go.Proofs Go.RowKit Go.Lib
theorem Gq {P:Program} {w:World} {dT sT ty elem:TypeId} {k:Nat} (hu:P.underlying dT=some (.slice elem)) (hs:(P.info? elem).map (·.size)=some k) {b o dLen dCap:Nat} {a:Addr} {sLen sCap:Nat} {cs:List Value} {c:Array Value} {el:TypeId} {fz:Nat×Nat}
  (hB:Block w b c el fz) (hn:cs.length=min sLen dLen * k) (hsrc : ∀ j v,cs[j]? = some v->w.cell? (a.add j)=some v) (hc:o+cs.length<=c.size) (hfz : ∀ o,o<=c.size->¬ (fz.1<=o/\o<fz.2)) (h1 : ∀ v∈cs,Single v) :
  (Builtin.copy_ #[dT,sT] ty #[.slice (some ⟨b,o,none⟩) dLen dCap,.slice (some a) sLen sCap]).run P w = .ok (goInt ((Nat.min sLen dLen:Nat):Int)) (World.put w b (c.toList.take o++cs++c.toList.drop (o+cs.length)).toArray el fz):=by
 obtain ⟨c',hst,hc'⟩:=qA (P:=P) cs 0 o c w hB (by simpa using hc) h1 (fun j hj=>hfz _ (by omega))
 have hl:=run_loadCells_list (P:=P) w a cs hsrc
 rw [hn] at hl
 have hcc:c'=(c.toList.take o++cs++c.toList.drop (o+cs.length)).toArray:=by
  rw [Nat.add_zero] at hc'
  rw [<-hc']
 rw [<-hcc]
 cases hq:P.info? elem with
 | none=>simp [hq] at hs
 | some i =>
  have hi:i.size=k:=by simpa [hq] using hs
  simp [Builtin.copy_,run_underlying hu,Builtin.lenOf,Builtin.firstCells,sizeOf,typeInfo,hq,hi,hl,hst]
theorem agj {α:Type} (C cs vs:List α) (a:Nat) (h:a+vs.length+cs.length<=C.length) :
  (((C.take (a+vs.length)++cs++C.drop (a+vs.length+cs.length)).take a++vs++(C.take (a+vs.length)++cs++C.drop (a+vs.length+cs.length)).drop (a+vs.length)).take (a+vs.length+cs.length))=C.take a++vs++cs:=by
 have h1:(C.take (a+vs.length)).length=a+vs.length:=by rw [List.length_take]; omega
 have e1:(C.take (a+vs.length)++cs++C.drop (a+vs.length+cs.length)).take a=C.take a:=by
  rw [List.append_assoc,List.take_append_of_le_length (by omega),List.take_take]
  congr 1; omega
 have e2:(C.take (a+vs.length)++cs++C.drop (a+vs.length+cs.length)).drop (a+vs.length)=cs++C.drop (a+vs.length+cs.length):=by
  rw [List.append_assoc,List.drop_append_of_le_length (by omega),List.drop_eq_nil_of_le (by omega),List.nil_append]
 rw [e1,e2,<-List.append_assoc,List.take_append_of_le_length (by simp; omega),List.take_of_length_le (by simp; omega)]
theorem Eb {P:Program} {w:World} {t tx ty el:TypeId} {inf:TypeInfo} {k:Nat} (ht:P.underlying t=some (.slice el)) (hi:P.info? el=some inf) (hk:inf.size=k) {b sLen sCap m:Nat} {x:Value} {news:List Value} (hs:Src P k tx x m news w)
  (hroom:sLen+m<=sCap) {c:Array Value} {SQ:TypeId} {fz:Nat×Nat} (hblk:Block w b c SQ fz) (hcs:sLen * k+news.length<=c.size) (hsg : ∀ v∈news,Single v) (hfz : ∀ o,o<=c.size->¬ (fz.1<=o/\o<fz.2)) :
  (Builtin.append_ #[t,tx] ty #[.slice (some ⟨b,0,none⟩) sLen sCap,x]).run P w = .ok (.slice (some ⟨b,0,none⟩) (sLen+m) sCap) (World.put w b (c.toList.take (sLen * k)++news++c.toList.drop (sLen * k+news.length)).toArray SQ fz):=by
 subst hk
 obtain ⟨c',h1,h2⟩:=xZ (ty:=ty) ht hi hs hroom hblk hcs hsg hfz
 have:c'=(c.toList.take (sLen * inf.size)++news++c.toList.drop (sLen * inf.size+news.length)).toArray:=by rw [<-h2]
 rw [<-this]
 exact h1
theorem aei {w:World} {c c':Array Value} {t:TypeId} : World.put (w.alloc (.cells c t)) w.heap.size c' t (0,0)=w.alloc (.cells c' t):=by
 show ({ heap:=(w.heap.push _).setIfInBounds _ _,tape:=_,drawn:=_,os:=_,output:=_ } : World) = { heap:=w.heap.push _,tape:=_,drawn:=_,os:=_,output:=_ }
 congr 1
 apply Array.ext_getElem?
 intro j
 rw [Array.getElem?_setIfInBounds]
 by_cases hj:w.heap.size=j
 ·subst hj; simp
 ·rw [if_neg hj]
  by_cases hl:j<w.heap.size
  ·rw [Array.getElem?_push_lt hl,Array.getElem?_push_lt hl]
  ·rw [Array.getElem?_eq_none (by simp; omega),Array.getElem?_eq_none (by simp; omega)]
theorem Ba {w:World} {c:Array Value} {t:TypeId} : Block (w.alloc (.cells c t)) w.heap.size c t (0,0):=by
 show (w.heap.push _)[w.heap.size]? = _
 simp
theorem ED {w:World} {c c':Array Value} {t t':TypeId} {b:Nat} {fz:Nat×Nat} (h:Block w b c' t' fz):Block (w.alloc (.cells c t)) b c' t' fz:=by
 have hl:=(Array.getElem?_eq_some_iff.1 h).1
 show (w.heap.push _)[b]? = _
 rw [Array.getElem?_push_lt hl]
 rw [<-Array.getElem?_eq_getElem hl]
 exact h
theorem cellP {w:World} {b:Nat} {c:Array Value} {el:TypeId} {fz:Nat×Nat} (hB:Block w b c el fz) (o:Nat):w.cell? ⟨b,o,none⟩=c[o]?:=by
 unfold World.cell?
 simp only [show w.heap[({ block:=b,off:=o } : Addr).block]? = some (.cells c el fz) from hB]
 rfl
theorem UJ {w:World} {b b':Nat} {c:Array Value} {el:TypeId} {fz:Nat×Nat} {c':Array Value} {SQ:TypeId} {fz':Nat×Nat} (h:Block w b' c' SQ fz') (hne:b'≠b):Block (World.put w b c el fz) b' c' SQ fz':=by
 unfold Block World.put
 simp only
 rw [Array.getElem?_setIfInBounds_ne (Ne.symm hne)]
 exact h
theorem Kc {w:World} {b:Nat} {c c':Array Value} {el:TypeId} {fz:Nat×Nat} : World.put (World.put w b c el fz) b c' el fz=World.put w b c' el fz:=by
 unfold World.put
 simp
end Go.E

namespace Go.E
open Go Go.Proofs Go.RowKit Go.Lib
structure acO (P:Program) (f:FuncId) (k by':Nat) (te:TypeId):Prop where
 shift : ∀ {b n cap i vb m vc:Nat} {c:Array Value} {el:TypeId} {fz:Nat×Nat} {vs:List Value} {cv:Array Value} {MW:TypeId} {fv:Nat×Nat} {w:World},Block w b c el fz->c.size=cap * k->(∀ o,o<=c.size->¬ (fz.1<=o/\o<fz.2))->(∀ v∈c.toList.take (n * k),Single v) ->
  Block w vb cv MW fv->(∀ o,o<=cv.size->¬ (fv.1<=o/\o<fv.2))->vb≠b->vs.length=m * k->cv.size=vc * k->m<=vc->cv.toList.take (m * k)=vs->(∀ v∈vs,Single v)->i<n->0<m->n+m<=cap->n+m<=9223372036854775807 ->
  Calls P f #[.slice (some ⟨b,0,none⟩) n cap,.int .i64 i,.slice (some ⟨vb,0,none⟩) m vc] w fun e w'=>e = .returned (.slice (some ⟨b,0,none⟩) (n+m) cap) /\ ∃ c' q,w'=(World.put w b c' el fz).drewN q/\c'.size=c.size /\
   c'.toList.take ((n+m) * k)=c.toList.take (i * k)++vs++(c.toList.take (n * k)).drop (i * k)
 room : ∀ {b n cap vb m vc:Nat} {c:Array Value} {el:TypeId} {fz:Nat×Nat} {vs:List Value} {cv:Array Value} {MW:TypeId} {fv:Nat×Nat} {w:World},Block w b c el fz->c.size=cap * k->(∀ o,o<=c.size->¬ (fz.1<=o/\o<fz.2)) ->
  Block w vb cv MW fv->vs.length=m * k->cv.toList.take (m * k)=vs->(∀ v∈vs,Single v)->0<m->n+m<=cap->n+m<=9223372036854775807 ->
  Calls P f #[.slice (some ⟨b,0,none⟩) n cap,.int .i64 n,.slice (some ⟨vb,0,none⟩) m vc] w fun e w'=>e = .returned (.slice (some ⟨b,0,none⟩) (n+m) cap) /\ ∃ c' q,w'=(World.put w b c' el fz).drewN q/\c'.size=c.size /\
   c'.toList.take ((n+m) * k)=c.toList.take (n * k)++vs++(c.toList.take (n * k)).drop (n * k)
 alY : ∀ {base:Option Addr} {n cap vb m vc:Nat} {olds vs:List Value} {cv:Array Value} {MW:TypeId} {fv:Nat×Nat} {w:World},n<=cap->(Builtin.firstCells k n (.slice base n cap)).run P w.drew = .ok olds.toArray w.drew->olds.length=n * k ->
  Block w vb cv MW fv->vs.length=m * k->cv.toList.take (m * k)=vs->(∀ v∈vs,Single v)->0<m->cap<n+m->(n+m) * by'<=140737488355328 ->
  Calls P f #[.slice base n cap,.int .i64 n,.slice (some ⟨vb,0,none⟩) m vc] w fun e w'=>e = .returned (.slice (some ⟨w.heap.size,0,none⟩) (n+m) (grownCap w (n+m) cap te)) /\ ∃ c' q,w'=(w.alloc (.cells c' te)).drewN q/\c'.size=grownCap w (n+m) cap te * k/\n+m<=grownCap w (n+m) cap te /\
   c'.toList.take ((n+m) * k)=olds++vs
 grow : ∀ {b n cap i vb m vc:Nat} {c:Array Value} {el:TypeId} {fz:Nat×Nat} {vs:List Value} {cv:Array Value} {MW:TypeId} {fv:Nat×Nat} {w:World},Block w b c el fz->c.size=cap * k->n<=cap->(∀ v∈c.toList.take (n * k),Single v) ->
  Block w vb cv MW fv->vs.length=m * k->cv.toList.take (m * k)=vs->(∀ v∈vs,Single v)->i<n->0<m->cap<n+m->(n+m) * by'<=140737488355328 ->
  Calls P f #[.slice (some ⟨b,0,none⟩) n cap,.int .i64 i,.slice (some ⟨vb,0,none⟩) m vc] w fun e w'=>e = .returned (.slice (some ⟨w.heap.size,0,none⟩) (n+m) (grownCap w (n+m) cap te)) /\ ∃ c' q,w'=(w.alloc (.cells c' te)).drewN q/\c'.size=grownCap w (n+m) cap te * k/\n+m<=grownCap w (n+m) cap te /\
   c'.toList.take ((n+m) * k)=c.toList.take (i * k)++vs++(c.toList.take (n * k)).drop (i * k)
section
variable {g0:Gh} {I A:aB} {w w':World} {vs:Array Value} {es:List LT} {ms:List M} {rows:List (List T)}
theorem Ke {args:List Arg} {owns:List (List (Option (List LT×List M×List (List T))))} {h:Value} {F:aB} (hno' : ∀ i j,lI ⟨[.one (.own [7000000] es ms rows)],owns,[]⟩ i j=none) (hp:Pre g0 I A args w vs) (hk:Keeps (fun b o=>I b o\/A b o) w w')
  (hrow:aV w' I es ms rows h F) (hI:aB.apart F I) (hA:aB.apart F A) (hs:Single h) :
  JL g0 I A args w ⟨[.one (.own [7000000] es ms rows)],owns,[]⟩ (g0.set [7000000] h F) I w' h:=by
 have hno : ∀ {i j:Nat} {x:List LT×List M×List (List T)},lI ⟨[.one (.own [7000000] es ms rows)],owns,[]⟩ i j≠some x:=by
  intro i j x
  rw [hno']
  exact fun h=>nomatch h
 have hout : ∀ {k:Key},Out ⟨[.one (.own [7000000] es ms rows)],owns,[]⟩ k->k=[7000000]:=by
  intro k h
  rcases h with h | ⟨i,j,⟨y,h⟩ | ⟨-,ls,h⟩,rfl⟩
  ·simpa [iA,eD] using h
  ·exact absurd h hno
  ·simp [xO] at h
 refine ⟨⟨[h],rfl,⟨hs,?_⟩,trivial⟩,fun i j es1 ms1 J7 h=>absurd h hno,fun i ls h=>by simp [xO] at h,by simp [iA,eD],fun k hk i j hij=>?_,fun k k' h h' hne=>absurd ((hout h).trans (hout h').symm) hne,fun k h=>?_,fun k h=>?_,fun _ _ h=>h,fun _ _ h _=>h,fun b o hi=>?_,hk⟩
 ·exact ⟨by rw [Gh.oz],by rw [Gh.jR]; exact hrow⟩
 ·rcases hij with ⟨y,h⟩ | ⟨-,ls,h⟩
  ·exact absurd h hno
  ·simp [xO] at h
 ·rw [hout h,Gh.jR]; exact hI
 ·rw [hout h,Gh.jR]; exact hA
 ·obtain ⟨v,hv⟩:=hp.zu b o hi
  exact ⟨v,(hk.cell (.inl hi) ⟨v,hv⟩).trans hv⟩
theorem acP (es:List LT):noO (es.map fun _=>M.F):=fun m hm x=>by
 obtain ⟨_,-,rfl⟩:=List.mem_map.1 hm
 exact fun h=>nomatch h
theorem YC {I F:aB} {h:Value} (hf:xM es=true) (hr:aV w I es ms rows h F) :
  es≠[]/\rows.length<=bG/\(((∃ a,h = .slice a 0 0)/\rows=[] /\ ∀ b o,¬ F b o) \/
   ∃ b cap c el fz,h = .slice (some ⟨b,0,none⟩) rows.length cap/\rows.length<=cap/\Block w b c el fz/\c.size=cap * es.length/\(∀ o,o<=c.size->¬ (fz.1<=o/\o<fz.2))/\(∀ o,o<c.size->F b o) /\
    ∀ J i,dR w J es (rows.take i) (c.toList.take (i * es.length))/\dR w J es (rows.drop i) ((c.toList.take (rows.length * es.length)).drop (i * es.length))):=by
 obtain ⟨h1,h2,h3 | ⟨b,cap,c,el,fz,bs,e1,hcap,hB,hsz,hfz,hro,-,hF⟩⟩:=hr.cases
 ·exact ⟨h1,h2,.inl h3⟩
 ·refine ⟨h1,h2,.inr ⟨b,cap,c,el,fz,e1,hcap,hB,hsz,hfz,fun o ho=>(hF b o).2 (.inl ⟨rfl,ho⟩),fun J i=>?_⟩⟩
  obtain ⟨b1,b2,-,ha,hb⟩:=aN.split i hro
  have ha':=aN.cells (cs':=c.toList.take (i * es.length)) ha (by rw [List.take_take,List.length_take]; congr 1; exact Nat.min_eq_left (Nat.mul_le_mul_right _ (Nat.min_le_left _ _)))
  have hb':=aN.cells (cs':=(c.toList.take (rows.length * es.length)).drop (i * es.length)) hb (by
   rw [List.length_drop,Nat.sub_mul,List.take_drop,List.take_drop,List.take_take]
   by_cases hle:i * es.length<=rows.length * es.length
   ·rw [Nat.add_sub_of_le hle,Nat.min_self]
   ·rw [Nat.sub_eq_zero_of_le (by omega),Nat.add_zero,Nat.min_eq_right (by omega)]
    rw [List.drop_eq_nil_of_le (by rw [List.length_take]; omega),List.drop_eq_nil_of_le (by rw [List.length_take]; omega)])
  exact ⟨(aN.toV (S:=fun _ _=>True) (fun _ _ _=>trivial) (fun _ _ _=>trivial) ha').flat hf,(aN.toV (S:=fun _ _=>True) (fun _ _ _=>trivial) (fun _ _ _=>trivial) hb').flat hf⟩
end
def zD (es:List LT):List Arg->R3 fV
 | [.one (.own es1 _ rows),.one (.sc (.int .i64) d),.one (.own es2 _ vs)] =>
  cond (LT.eH es es1&&LT.eH es es2) (cond (decide (0<=d.int/\d.int<=(rows.length:Int))&&decide (0<vs.length)&&decide ((rows.length+vs.length) * es.length<=ak))
   (.ok ⟨[.one (.own [7000000] es (es.map fun _=>.F) (rows.take d.int.toNat++vs++rows.drop d.int.toNat))],[[none],[none],[none]],[]⟩) .bad) .bad
 | _=>.bad
theorem Tp {P:Program} {f:FuncId} {es:List LT} {by':Nat} {te:TypeId} (hf:xM es=true) (hb:by'<=16 * es.length) (L:acO P f es.length by' te) {args:List Arg} (h:zD es args ≠ .bad):Nv P f args (zD es args):=by
 unfold zD at h ⊢
 split at h
 ·rename_i es1 ms rows d es2 ms2 vs
  cases hc:(LT.eH es es1&&LT.eH es es2) with
  | false=>rw [hc] at h; exact absurd rfl h
  | true =>
   cases hm:(decide (0<=d.int/\d.int<=(rows.length:Int))&&decide (0<vs.length)&&decide ((rows.length+vs.length) * es.length<=ak)) with
   | false=>rw [hc,hm] at h; exact absurd rfl h
   | true =>
    simp only [Bool.and_eq_true] at hc hm
    obtain rfl:=LT.bP hc.1
    obtain rfl:=LT.bP hc.2
    obtain ⟨⟨hd,hv0⟩,hmr⟩:=hm
    have hd:=of_decide_eq_true hd
    have hv0:=of_decide_eq_true hv0
    have hmr:=of_decide_eq_true hmr
    intro g0 I A w vals hp
    obtain ⟨v1,v2,v3,rfl,h1,h2,h3⟩ : ∃ v1 v2 v3,vals = #[v1,v2,v3]/\AlR g0 w I 0 0 (.own es ms rows) v1/\Ms (.int .i64) v2 d/\AlR g0 w I 2 0 (.own es ms2 vs) v3:=by
     have hrel:=hp.rel
     match hl:vals.toList,hrel with
     | [v1,v2,v3],hrel=>exact ⟨v1,v2,v3,Array.toList_inj.1 (by simpa using hl),hrel.1,hrel.2.1,hrel.2.2.1⟩
     | [],hrel=>exact hrel.elim
     | [_],hrel=>exact hrel.2.elim
     | [_,_],hrel=>exact hrel.2.2.elim
     | _::_::_::_::_,hrel=>exact hrel.2.2.2.elim
    obtain ⟨e1,hr1⟩:=h1
    obtain ⟨n2,rfl,rfl,-,-⟩:=h2
    obtain ⟨e3,hr3⟩:=h3
    simp only [T.int] at hd ⊢
    have hh0:Held [.one (.own es ms rows),.one (.sc (.int .i64) (.i n2)),.one (.own es ms2 vs)] [0,0]:=trivial
    have hh2:Held [.one (.own es ms rows),.one (.sc (.int .i64) (.i n2)),.one (.own es ms2 vs)] [2,0]:=trivial
    obtain ⟨hes,hmax,ho1⟩:=YC hf hr1
    obtain ⟨-,atG,ho3⟩:=YC hf hr3
    have hk0:0<es.length:=List.length_pos_iff.2 hes
    obtain ⟨i,rfl⟩ : ∃ i:Nat,n2=(i:Int):=⟨n2.toNat,by omega⟩
    have hi:i<=rows.length:=by omega
    have hno : ∀ a b,lI ⟨[.one (.own [7000000] es (es.map fun _=>.F) (rows.take i++vs++rows.drop i))],[[none],[none],[none]],[]⟩ a b=none:=fun a b=>by
     unfold lI
     match a,b with
     | 0,0=>rfl
     | 0,j+1=>rfl
     | 1,0=>rfl
     | 1,j+1=>rfl
     | 2,0=>rfl
     | 2,j+1=>rfl
     | a+3,j=>rfl
    rcases ho3 with ⟨-,rfl,-⟩ | ⟨vb,vc,cv,MW,fv,e3',hcv,XJ,alZ,arh,hFv,hRv⟩
    ·simp at hv0
    rw [e3'] at e3
    have aiX:=fun J=>(hRv J vs.length).1
    rw [List.take_length] at aiX
    obtain ⟨vcs,abb⟩ : ∃ vcs,vcs=cv.toList.take (vs.length * es.length):=⟨_,rfl⟩
    have htl : ∀ (c:Array Value) (n cap:Nat),c.size=cap * es.length->n<=cap->(c.toList.take (n * es.length)).length=n * es.length:=fun c n cap h1 h2=>by
     have:=Nat.mul_le_mul_right es.length h2
     rw [List.length_take]
     simp only [Array.length_toList]
     omega
    have hvl:vcs.length=vs.length * es.length:=by rw [abb]; exact htl cv _ _ alZ hcv
    rw [<-abb] at aiX
    have hSv : ∀ v∈vcs,Single v:=(aiX I).single hvl
    have hbig:(rows.length+vs.length) * by'<=140737488355328:=by
     have h1:(rows.length+vs.length) * by'<=(rows.length+vs.length) * (16 * es.length):=Nat.mul_le_mul_left _ hb
     have h2:(rows.length+vs.length) * (16 * es.length)=16 * ((rows.length+vs.length) * es.length):=by rw [Nat.mul_left_comm]
     unfold ak at hmr
     omega
    have agk:rows.length+vs.length<=9223372036854775807:=by
     have:=Nat.le_mul_of_pos_right (rows.length+vs.length) hk0
     unfold ak at hmr
     omega
    have hle1:(rows.length+vs.length)<=(rows.length+vs.length) * es.length:=Nat.le_mul_of_pos_right _ hk0
    have agl:(rows.take i++vs++rows.drop i).length=rows.length+vs.length:=by simp; omega
    have fin : ∀ (W':World) (b cap:Nat) (c':Array Value) (el:TypeId) (fz:Nat×Nat) (F:aB) (pre post:List Value),Block W' b c' el fz->c'.size=cap * es.length->(∀ o,o<=c'.size->¬ (fz.1<=o/\o<fz.2))->rows.length+vs.length<=cap ->
      c'.toList.take ((rows.length+vs.length) * es.length)=pre++vcs++post->(∀ J,dR w J es (rows.take i) pre)->pre.length=i * es.length->(∀ J,dR w J es (rows.drop i) post)->(∀ b' o,F b' o ↔ b'=b/\o<c'.size) ->
      aV W' I es (es.map fun _=>.F) (rows.take i++vs++rows.drop i) (.slice (some ⟨b,0,none⟩) (rows.length+vs.length) cap) F:=by
     intro W' b cap c' el fz F pre post hB hsz hfz hcap ht hpre acR hpost hF
     rw [<-agl]
     have r1:=(((hpre I).flat (w':=W') (I':=I) hf).app (by rw [acR,List.length_take,Nat.min_eq_left hi]) ((aiX I).flat (w':=W') (I':=I) hf))
     have r2:=r1.app (by rw [List.length_append,acR,hvl,List.length_append,List.length_take,Nat.min_eq_left hi,Nat.add_mul]) ((hpost I).flat (w':=W') (I':=I) hf)
     rw [<-ht] at r2
     have r3:=r2.tail (cs':=c'.toList.drop ((rows.length+vs.length) * es.length))
     rw [List.take_append_drop] at r3
     exact aV.mk' (bs:=[]) hes (by rw [agl]; unfold bG; unfold ak at hmr; omega) (by rw [agl]; exact hcap) hB hsz hfz (r3.toM (acP es)) ⟨fun h=>(nomatch h),trivial⟩
      (fun b' o=>(hF b' o).trans ⟨.inl,fun h=>h.elim (fun h=>h) fun h=>(nomatch h.1)⟩)
    have acS : ∀ (a:Option Addr) (n c:Nat),Single (.slice a n c):=fun _ _ _=>⟨fun _ h=>(nomatch h),fun _ h=>(nomatch h)⟩
    have acT : ∀ (b cap:Nat) (c c':Array Value) (el:TypeId) (fz:Nat×Nat) (q:Nat),Block w b c el fz->c.size=cap * es.length->(∀ o,o<=c.size->¬ (fz.1<=o/\o<fz.2))->(∀ o,o<c.size->g0.F [0,0] b o)->rows.length+vs.length<=cap->c'.size=c.size ->
      (∀ J i,dR w J es (rows.take i) (c.toList.take (i * es.length))/\dR w J es (rows.drop i) ((c.toList.take (rows.length * es.length)).drop (i * es.length))) ->
      c'.toList.take ((rows.length+vs.length) * es.length)=c.toList.take (i * es.length)++vcs++(c.toList.take (rows.length * es.length)).drop (i * es.length) ->
      ∃ ret g' I',R3.ok (⟨[.one (.own [7000000] es (es.map fun _=>.F) (rows.take i++vs++rows.drop i))],[[none],[none],[none]],[]⟩:fV) = .ok ret/\JL g0 I A [.one (.own es ms rows),.one (.sc (.int .i64) (.i (i:Int))),.one (.own es ms2 vs)] w ret g' I' ((World.put w b c' el fz).drewN q) (.slice (some ⟨b,0,none⟩) (rows.length+vs.length) cap):=by
     intro b cap c c' el fz q hB hsz hfz hF hcap hs' hR ht
     have hB':Block ((World.put w b c' el fz).drewN q) b c' el fz:=kI hB
     have al0:=fin _ b cap c' el fz (fun b' o=>b'=b/\o<c'.size) _ _ hB' (by omega) (by rw [hs']; exact hfz) hcap ht (fun J=>(hR J i).1) (htl c _ _ hsz (by omega)) (fun J=>(hR J i).2) (fun _ _=>Iff.rfl)
     refine ⟨_,_,I,rfl,Ke hno hp ?_ al0 (fun b' o h1 h2=>?_) (fun b' o h1 h2=>?_) (acS _ _ _)⟩
     ·refine Keeps.trans (fun _ _ h=>h) (vS hB hs' (A:=fun b o=>I b o\/A b o) fun o ho=>?_) ((uJ _ _).weaken fun _ _ _=>trivial)
      by_cases hlt:o<c.size
      ·exact absurd (hF o hlt) (fun h=>ho.elim (hp.jP _ hh0 b o h) (hp.wW _ hh0 b o h))
      ·rw [Array.getElem?_eq_none (by omega),Array.getElem?_eq_none (by omega)]
     ·obtain ⟨rfl,h1⟩:=h1
      exact hp.jP _ hh0 _ o (hF o (by omega)) h2
     ·obtain ⟨rfl,h1⟩:=h1
      exact hp.wW _ hh0 _ o (hF o (by omega)) h2
    have anew : ∀ (cap:Nat) (c':Array Value) (q:Nat) (pre post:List Value),c'.size=cap * es.length->rows.length+vs.length<=cap->c'.toList.take ((rows.length+vs.length) * es.length)=pre++vcs++post->(∀ J,dR w J es (rows.take i) pre)->pre.length=i * es.length->(∀ J,dR w J es (rows.drop i) post) ->
      ∃ ret g' I',R3.ok (⟨[.one (.own [7000000] es (es.map fun _=>.F) (rows.take i++vs++rows.drop i))],[[none],[none],[none]],[]⟩:fV) = .ok ret/\JL g0 I A [.one (.own es ms rows),.one (.sc (.int .i64) (.i (i:Int))),.one (.own es ms2 vs)] w ret g' I' ((w.alloc (.cells c' te)).drewN q) (.slice (some ⟨w.heap.size,0,none⟩) (rows.length+vs.length) cap):=by
     intro cap c' q pre post hsz hcap ht hpre acR hpost
     have hB':Block ((w.alloc (.cells c' te)).drewN q) w.heap.size c' te (0,0):=Ba
     have al0:=fin _ _ cap c' te (0,0) (fun b' o=>b'=w.heap.size/\o<c'.size) pre post hB' hsz (fun o _=>by simp) hcap ht hpre acR hpost (fun _ _=>Iff.rfl)
     refine ⟨_,_,I,rfl,Ke hno hp ?_ al0 (fun b' o h1 h2=>?_) (fun b' o h1 h2=>?_) (acS _ _ _)⟩
     ·exact Keeps.trans (fun _ _ h=>h) ((qz w _).weaken fun _ _ _=>trivial) ((uJ _ _).weaken fun _ _ _=>trivial)
     ·obtain ⟨rfl,-⟩:=h1
      exact absurd (nO (hp.zu _ o h2)) (by omega)
     ·obtain ⟨rfl,-⟩:=h1
      exact absurd (nO (hp.awf _ o h2)) (by omega)
    rcases ho1 with ⟨⟨aa,e1'⟩,rfl,-⟩ | ⟨b,cap,c,el,fz,e1',hcap,hB,hsz,hfz,hFb,hR⟩
    ·rw [e1',e3']
     have h0:i=0:=by simpa using hi
     subst h0
     have hnil:(Builtin.firstCells es.length 0 (.slice aa 0 0)).run P w.drew = .ok ([]:List Value).toArray w.drew:=by
      cases aa with
      | none=>exact run_firstCells_none w.drew es.length 0 0 0
      | some a=>exact run_firstCells_some w.drew es.length 0 a 0 0 [] (by simp) (by simp)
     refine (L.alY (base:=aa) (n:=0) (cap:=0) (Nat.le_refl _) hnil (by simp) XJ hvl abb.symm hSv hv0 (by omega) (by simpa using hbig)).mono ?_
     rintro e w' ⟨rfl,c',q,rfl,h2,h3,h4⟩
     have:=anew _ c' q [] [] (by simpa using h2) (by simpa using h3) (by simpa using h4) (fun J=>trivial) (by simp) (fun J=>trivial)
     simpa using this
    ·rw [e1',e3']
     have acU : ∀ v∈c.toList.take (rows.length * es.length),Single v:=by
      have:=(hR I rows.length).1
      rw [List.take_length] at this
      exact this.single (htl c _ _ hsz hcap)
     have hne:vb≠b:=by
      intro e
      subst e
      have hh:=hp.sep [0,0] [2,0] hh0 hh2 (by decide)
      have hcc:(Obj.cells c el fz)=Obj.cells cv MW fv:=Option.some.inj (hB.symm.trans XJ)
      obtain ⟨rfl,-,-⟩:=Obj.cells.inj hcc
      have h0:0<c.size:=by rw [alZ]; exact Nat.mul_pos (by omega) hk0
      exact hh vb 0 (hFb 0 h0) (hFv 0 h0)
     by_cases hin:i=rows.length
     ·subst hin
      by_cases hroom:rows.length+vs.length<=cap
      ·refine (L.room hB hsz hfz XJ hvl abb.symm hSv hv0 hroom agk).mono ?_
       rintro e w' ⟨rfl,c',q,rfl,h2,h3⟩
       exact acT b cap c c' el fz q hB hsz hfz hFb hroom h2 hR h3
      ·have hold:(Builtin.firstCells es.length rows.length (.slice (some ⟨b,0,none⟩) rows.length cap)).run P w.drew = .ok (c.toList.take (rows.length * es.length)).toArray w.drew :=
        run_firstCells_some w.drew es.length rows.length ⟨b,0,none⟩ rows.length cap _ (htl c _ _ hsz hcap) (fun j v hj=>by
         rw [Go.E.addr_add,Nat.zero_add]
         show w.cell? _=_
         rw [cellP hB]
         rw [List.getElem?_take] at hj
         split at hj
         ·simpa using hj
         ·cases hj)
       refine (L.alY (base:=some ⟨b,0,none⟩) hcap hold (htl c _ _ hsz hcap) XJ hvl abb.symm hSv hv0 (by omega) hbig).mono ?_
       rintro e w' ⟨rfl,c',q,rfl,h2,h3,h4⟩
       refine anew _ c' q (c.toList.take (rows.length * es.length)) [] h2 h3 (by rw [List.append_nil]; exact h4) (fun J=>(hR J rows.length).1) (htl c _ _ hsz hcap) (fun J=>by rw [List.drop_length]; trivial)
     ·have hlt:i<rows.length:=by omega
      by_cases hroom:rows.length+vs.length<=cap
      ·refine (L.shift hB hsz hfz acU XJ arh hne hvl alZ hcv abb.symm hSv hlt hv0 hroom agk).mono ?_
       rintro e w' ⟨rfl,c',q,rfl,h2,h3⟩
       exact acT b cap c c' el fz q hB hsz hfz hFb hroom h2 hR h3
      ·refine (L.grow hB hsz hcap acU XJ hvl abb.symm hSv hlt hv0 (by omega) hbig).mono ?_
       rintro e w' ⟨rfl,c',q,rfl,h2,h3,h4⟩
       exact anew _ c' q _ _ h2 h3 h4 (fun J=>(hR J i).1) (htl c _ _ hsz (by omega)) (fun J=>(hR J i).2)
 ·exact absurd rfl h
end Go.E

namespace Go.E
open Go Go.Proofs Go.RowKit Go.Lib
theorem IE {P:Program} {w:World} {t elem:TypeId} {zc:Array Value} {z:Value} (hu:P.underlying t=some (.slice elem)) (hz : ∀ w,(zeroValue elem).run P w = .ok z w) (hzc:z.cells=zc) (ty:TypeId) {b o n cap:Nat} {c:Array Value} {el:TypeId} {fz:Nat×Nat}
  (hB:Block w b c el fz) (hn:0<n) (hc:o+n * zc.size<=c.size) (hfz : ∀ o,o<=c.size->¬ (fz.1<=o/\o<fz.2)) (h1 : ∀ v∈zc,Single v) :
  (Builtin.clear_ #[t] ty #[.slice (some ⟨b,o,none⟩) n cap]).run P w = .ok (.tuple #[]) (World.put w b (c.toList.take o++(Builtin.zeroCells zc n).toList++c.toList.drop (o+n * zc.size)).toArray el fz):=by
 have hl:(Builtin.zeroCells zc n).toList.length=n * zc.size:=by rw [Array.length_toList,size_zeroCells]
 have hs : ∀ v∈(Builtin.zeroCells zc n).toList,Single v:=by
  intro v hv
  unfold Builtin.zeroCells at hv
  simp only [Array.toList_map,List.mem_map] at hv
  obtain ⟨i,hi,rfl⟩:=hv
  have hi':i<n * zc.size:=by simpa using hi
  have hp:0<zc.size:=by
   rcases Nat.eq_zero_or_pos zc.size with h | h
   ·rw [h] at hi'; omega
   ·exact h
  have:=Nat.mod_lt i hp
  exact h1 _ (by rw [getElem!_pos zc _ this]; exact Array.getElem_mem this)
 obtain ⟨c',hst,hc'⟩:=qA (P:=P) (Builtin.zeroCells zc n).toList 0 o c w hB (by omega) hs (fun j hj=>hfz _ (by omega))
 have hcc:c'=(c.toList.take o++(Builtin.zeroCells zc n).toList++c.toList.drop (o+n * zc.size)).toArray:=by
  rw [Nat.add_zero,hl] at hc'
  rw [<-hc']
 rw [<-hcc]
 obtain ⟨m,rfl⟩ : ∃ m,n=m+1:=⟨n-1,by omega⟩
 simp [Builtin.clear_,run_underlying hu,hz,hzc,hst]
theorem CQ {P:Program} {ops:Array Oper} {o:Oper} {a:Act} {w:World} {K:Act->World->Prop} {Q:Exit->Act->World->Prop} {E:Prop}
  (hg:o.guard=none) (s x:Operand) (dT sT:TypeId) (hop:o.op=Op.call { callee:=Callee.builtin Builtin.append,args:=#[s,x],argTypes:=#[dT,sT] })
  (v u:Value) (hd:a.eval s=v) (hx:a.eval x=u) {v':Value} {w':World} (hr:(Builtin.append_ #[dT,sT] o.type #[v,u]).run P w = .ok v' w') (hK:K (a.put o.dst v') w') :
  if Region.wanted o (yielded ops a.tmps)=true then Oper.wp P o a w K Q else E:=by
 have hw:Region.wanted o (yielded ops a.tmps)=true:=by simp [Region.wanted,hg]
 rw [if_pos hw]
 unfold Oper.wp
 simp [execOp,hop,resolve,invoke,builtin,hd,hx,hr,Result.andThen]
 exact hK
theorem YD {α:Type} (C cs zs:List α) (a:Nat) (h:a+cs.length<=C.length) :
  (((C.take a++cs++C.drop (a+cs.length)).take (a+cs.length)++zs++(C.take a++cs++C.drop (a+cs.length)).drop (a+cs.length+zs.length)).take (a+cs.length))=C.take a++cs:=by
 have h1:(C.take a++cs).length=a+cs.length:=by rw [List.length_append,List.length_take]; omega
 have e1:(C.take a++cs++C.drop (a+cs.length)).take (a+cs.length)=C.take a++cs:=by
  rw [<-h1]; exact List.take_left
 rw [e1,List.append_assoc,<-h1]; exact List.take_left
end Go.E

namespace Go.E
open Go Go.Proofs Go.RowKit Go.Lib
def WL (P:Program) (f:FuncId) (k:Nat):Prop:=∀ {b n cap i j:Nat} {c:Array Value} {el:TypeId} {fz:Nat×Nat} {w:World},Block w b c el fz->c.size=cap * k->(∀ o,o<=c.size->¬ (fz.1<=o/\o<fz.2))->(∀ v∈c.toList.take (n * k),Single v) ->
  i<j->j<=n->n<=cap->n<=9223372036854775807 ->
  Calls P f #[.slice (some ⟨b,0,none⟩) n cap,.int .i64 i,.int .i64 j] w fun e w'=>e = .returned (.slice (some ⟨b,0,none⟩) (n-(j-i)) cap) /\ ∃ c' q,w'=(World.put w b c' el fz).drewN q/\c'.size=c.size /\
   c'.toList.take ((n-(j-i)) * k)=c.toList.take (i * k)++(c.toList.take (n * k)).drop (j * k)
section
variable {w:World} {es:List LT} {ms:List M} {rows:List (List T)}
theorem abd {I F:aB} {h:Value} (hm:noO ms) (hr:aV w I es ms rows h F) :
  es≠[]/\rows.length<=bG/\(((∃ a,h = .slice a 0 0)/\rows=[] /\ ∀ b o,¬ F b o) \/
   ∃ b cap c el fz,h = .slice (some ⟨b,0,none⟩) rows.length cap/\rows.length<=cap/\Block w b c el fz/\c.size=cap * es.length/\(∀ o,o<=c.size->¬ (fz.1<=o/\o<fz.2))/\(∀ o,o<c.size->F b o) /\
    ∀ i,dR w I es (rows.take i) (c.toList.take (i * es.length))/\dR w I es (rows.drop i) ((c.toList.take (rows.length * es.length)).drop (i * es.length))):=by
 obtain ⟨h1,h2,h3 | ⟨b,cap,c,el,fz,bs,e1,hcap,hB,hsz,hfz,hro,-,hF⟩⟩:=hr.cases
 ·exact ⟨h1,h2,.inl h3⟩
 ·refine ⟨h1,h2,.inr ⟨b,cap,c,el,fz,e1,hcap,hB,hsz,hfz,fun o ho=>(hF b o).2 (.inl ⟨rfl,ho⟩),fun i=>?_⟩⟩
  obtain ⟨b1,b2,-,ha,hb⟩:=aN.split i hro
  obtain rfl:=CG hm ha
  obtain rfl:=CG hm hb
  have ha':=aN.cells (cs':=c.toList.take (i * es.length)) ha (by rw [List.take_take,List.length_take]; congr 1; exact Nat.min_eq_left (Nat.mul_le_mul_right _ (Nat.min_le_left _ _)))
  have hb':=aN.cells (cs':=(c.toList.take (rows.length * es.length)).drop (i * es.length)) hb (by
   rw [List.length_drop,Nat.sub_mul,List.take_drop,List.take_drop,List.take_take]
   by_cases hle:i * es.length<=rows.length * es.length
   ·rw [Nat.add_sub_of_le hle,Nat.min_self]
   ·rw [Nat.sub_eq_zero_of_le (by omega),Nat.add_zero,Nat.min_eq_right (by omega)]
    rw [List.drop_eq_nil_of_le (by rw [List.length_take]; omega),List.drop_eq_nil_of_le (by rw [List.length_take]; omega)])
  exact ⟨aN.toV (S:=I) (fun _ _ h=>h) (fun _ _ h=>absurd h.1 (by simp)) ha',aN.toV (S:=I) (fun _ _ h=>h) (fun _ _ h=>absurd h.1 (by simp)) hb'⟩
end
def uh (es:List LT):List Arg->R3 fV
 | [.one (.own es1 ms1 rows),.one (.sc (.int .i64) d1),.one (.sc (.int .i64) d2)] =>
  cond (LT.eH es es1&&OU ms1) (cond (decide (0<=d1.int/\d1.int<d2.int/\d2.int<=(rows.length:Int)))
   (.ok ⟨[.one (.own [7000000] es (es.map fun _=>.F) (rows.take d1.int.toNat++rows.drop d2.int.toNat))],[[none],[none],[none]],[]⟩) .bad) .bad
 | _=>.bad
theorem Ht {P:Program} {f:FuncId} {es:List LT} (L:WL P f es.length) {args:List Arg} (h:uh es args ≠ .bad):Nv P f args (uh es args):=by
 unfold uh at h ⊢
 split at h
 ·rename_i es1 ms rows d1 d2
  cases hc:(LT.eH es es1&&OU ms) with
  | false=>rw [hc] at h; exact absurd rfl h
  | true =>
   cases hm:decide (0<=d1.int/\d1.int<d2.int/\d2.int<=(rows.length:Int)) with
   | false=>rw [hc,hm] at h; exact absurd rfl h
   | true =>
    simp only [Bool.and_eq_true] at hc
    obtain rfl:=LT.bP hc.1
    have hno':=zx hc.2
    have hd:=of_decide_eq_true hm
    intro g0 I A w vals hp
    obtain ⟨v1,v2,v3,rfl,h1,h2,h3⟩ : ∃ v1 v2 v3,vals = #[v1,v2,v3]/\AlR g0 w I 0 0 (.own es ms rows) v1/\Ms (.int .i64) v2 d1/\Ms (.int .i64) v3 d2:=by
     have hrel:=hp.rel
     match hl:vals.toList,hrel with
     | [v1,v2,v3],hrel=>exact ⟨v1,v2,v3,Array.toList_inj.1 (by simpa using hl),hrel.1,hrel.2.1,hrel.2.2.1⟩
     | [],hrel=>exact hrel.elim
     | [_],hrel=>exact hrel.2.elim
     | [_,_],hrel=>exact hrel.2.2.elim
     | _::_::_::_::_,hrel=>exact hrel.2.2.2.elim
    obtain ⟨e1,hr1⟩:=h1
    obtain ⟨n2,rfl,rfl,-,-⟩:=h2
    obtain ⟨n3,rfl,rfl,-,-⟩:=h3
    simp only [T.int] at hd ⊢
    obtain ⟨i,rfl⟩ : ∃ i:Nat,n2=(i:Int):=⟨n2.toNat,by omega⟩
    obtain ⟨j,rfl⟩ : ∃ j:Nat,n3=(j:Int):=⟨n3.toNat,by omega⟩
    have hij:i<j:=by omega
    have hjn:j<=rows.length:=by omega
    have hh0:Held [.one (.own es ms rows),.one (.sc (.int .i64) (.i (i:Int))),.one (.sc (.int .i64) (.i (j:Int)))] [0,0]:=trivial
    have hno : ∀ a b,lI ⟨[.one (.own [7000000] es (es.map fun _=>.F) (rows.take i++rows.drop j))],[[none],[none],[none]],[]⟩ a b=none:=fun a b=>by
     unfold lI
     match a,b with
     | 0,0=>rfl
     | 0,j+1=>rfl
     | 1,0=>rfl
     | 1,j+1=>rfl
     | 2,0=>rfl
     | 2,j+1=>rfl
     | a+3,j=>rfl
    obtain ⟨hes,hmax,⟨-,hr0,-⟩ | ⟨b,cap,c,el,fz,e1',hcap,hB,hsz,hfz,hFb,hR⟩⟩:=abd hno' hr1
    ·rw [hr0] at hjn; simp at hjn; omega
    have htl : ∀ n:Nat,n<=cap->(c.toList.take (n * es.length)).length=n * es.length:=fun n h2=>by
     have:=Nat.mul_le_mul_right es.length h2
     rw [List.length_take]
     simp only [Array.length_toList]
     omega
    have hS : ∀ v∈c.toList.take (rows.length * es.length),Single v:=by
     have:=(hR rows.length).1
     rw [List.take_length] at this
     exact this.single (htl _ hcap)
    rw [e1']
    refine (L (i:=i) (j:=j) hB hsz hfz hS hij hjn hcap (by unfold bG at hmax; omega)).mono ?_
    rintro e w' ⟨rfl,c',q,rfl,hs',ht⟩
    have hln:(rows.take i++rows.drop j).length=rows.length-(j-i):=by simp; omega
    have hB':Block ((World.put w b c' el fz).drewN q) b c' el fz:=kI hB
    have hk:Keeps (fun b o=>I b o\/A b o) w ((World.put w b c' el fz).drewN q):=by
     refine Keeps.trans (fun _ _ h=>h) (vS hB hs' (A:=fun b o=>I b o\/A b o) fun o ho=>?_) ((uJ _ _).weaken fun _ _ _=>trivial)
     by_cases hlt:o<c.size
     ·exact absurd (hFb o hlt) (fun h=>ho.elim (hp.jP _ hh0 b o h) (hp.wW _ hh0 b o h))
     ·rw [Array.getElem?_eq_none (by omega),Array.getElem?_eq_none (by omega)]
    have hIm : ∀ b' o,I b' o->I b' o/\cellAt ((World.put w b c' el fz).drewN q) b' o=cellAt w b' o:=fun b o h=>⟨h,hk.cell (.inl h) (hp.zu b o h)⟩
    have r1:=((hR i).1.mono hIm).app (by rw [htl i (by omega),List.length_take,Nat.min_eq_left (by omega)]) ((hR j).2.mono hIm)
    rw [<-ht] at r1
    have r3:=r1.tail (cs':=c'.toList.drop ((rows.length-(j-i)) * es.length))
    rw [List.take_append_drop] at r3
    have hrow:aV ((World.put w b c' el fz).drewN q) I es (es.map fun _=>.F) (rows.take i++rows.drop j) (.slice (some ⟨b,0,none⟩) (rows.length-(j-i)) cap) (fun b' o=>b'=b/\o<c'.size):=by
     rw [<-hln]
     exact aV.mk' (bs:=[]) hes (by rw [hln]; omega) (by rw [hln]; omega) hB' (by omega) (by rw [hs']; exact hfz) (r3.toM (acP es)) ⟨fun h=>(nomatch h),trivial⟩
      (fun b' o=>⟨.inl,fun h=>h.elim (fun h=>h) fun h=>(nomatch h.1)⟩)
    refine ⟨_,_,I,rfl,Ke hno hp hk hrow (fun b' o h1 h2=>?_) (fun b' o h1 h2=>?_) ⟨fun _ h=>(nomatch h),fun _ h=>(nomatch h)⟩⟩
    ·obtain ⟨rfl,h1⟩:=h1
     exact hp.jP _ hh0 _ o (hFb o (by omega)) h2
    ·obtain ⟨rfl,h1⟩:=h1
     exact hp.wW _ hh0 _ o (hFb o (by omega)) h2
 ·exact absurd rfl h
end Go.E

namespace Go.Proofs.YtpchnmbcbcfhjaaGreat
open Go Go.E Go.Proofs Go.RowKit Go.Maps
theorem al1:Keyed Tryz.prog 3:=int_keyed Tryz.underlying3
theorem aoH (w:World):(zeroValue 3).run Tryz.prog w = .ok (.int .i64 0) w:=by kernel_rfl
def UK {H:Type} (D:DataW H) (S:List Int):Prop:=IsMap D /\ ∀ x:Int,(Lit.int .i64 x).wf=true->D.atKey (.int .i64 x) (.lit (.int .i64 0)) = .lit (.int .i64 (if x∈S then 1 else 0))
theorem UL {H:Type} : UK (H:=H) (.map []) []:=⟨isMap_empty,fun x _=>by simp [DataW.atKey]⟩
theorem UM {H:Type} {D:DataW H} {S:List Int} (h:UK D S) (x:Int):UK (D.put (.int .i64 x) (.lit (.int .i64 1))) (S++[x]):=by
 refine ⟨h.1.put _ _,fun y hy=>?_⟩
 by_cases e:y=x
 ·subst e
  rw [atKey_put_same h.1 (by trivial)]
  simp
 ·rw [atKey_put_other (by simpa using e),h.2 y hy]
  simp [e]
def UN (k:Int) (p:List (Int×Int)):List Int:=(p.filter fun x=>x.1==k).map (·.2)
def acV (p:List (Int×Int)):Prop:=∀ x∈UN 2 p,x ∉ UN 3 p
def NSr (w0 wr:World) (b1 b2:Nat) (p:List (Int×Int)):Prop :=
 ∃ (D1 D2:DataW Unit),wr.ownsMap Tryz.prog 3 (plainElem Tryz.prog 3) b1 p.length D1/\wr.ownsMap Tryz.prog 3 (plainElem Tryz.prog 3) b2 p.length D2/\UK D1 (UN 2 p)/\UK D2 (UN 3 p)/\acV p/\Below w0.heap.size w0 wr
def mJ (recs:Nat->List (Int×Int)) (i:Nat):List (Int×Int):=(List.range i).flatMap recs
theorem uN (recs:Nat->List (Int×Int)) (i:Nat):mJ recs (i+1)=mJ recs i++recs i:=by simp [mJ,List.range_succ]
theorem yE {W:World} {b n:Nat} {D:DataW Unit} {X:Int} (hX:(Lit.int .i64 X).wf=true) (h:W.ownsMap Tryz.prog 3 (plainElem Tryz.prog 3) b n D) {S:List Int} (hS:UK D S) {v:Int} (hv:(if X∈S then 1 else 0)=v):(Instr.lookup 133 (.map (some b)) (.int .i64 X) false).run Tryz.prog W = .ok (.int .i64 v) W:=by
 obtain ⟨c,h1,h2,h3⟩:=h.lookup_int al1 Tryz.underlying133 Tryz.underlying3 (aoH _) (keyOf_int_mk Tryz.underlying3 hX)
 have:=hS.2 X hX
 rw [h2] at this
 simp only [DataW.lit.injEq,Lit.int.injEq,true_and] at this
 rw [<-hv,<-this]
 exact h1
theorem acW {wr w1:World} {b1 t:Nat} {K X:Int} {v:Value} (hg:(wr.alloc (Obj.cells #[Value.int IntKind.i64 K,Value.int IntKind.i64 X,v] t)).grownBy w1 (some b1)) (hne:b1<wr.heap.size):w1.cell? ⟨wr.heap.size,1,none⟩=some (.int .i64 X):=by
 have h1:w1.heap[wr.heap.size]? = (wr.alloc (Obj.cells #[Value.int IntKind.i64 K,Value.int IntKind.i64 X,v] t)).heap[wr.heap.size]?:=hg.block wr.heap.size (by simp) (by simp; omega)
 have h2:(wr.alloc (Obj.cells #[Value.int IntKind.i64 K,Value.int IntKind.i64 X,v] t)).heap[wr.heap.size]? = some (Obj.cells #[Value.int IntKind.i64 K,Value.int IntKind.i64 X,v] t):=by
  show (wr.heap.push _)[wr.heap.size]? = _
  simp
 unfold World.cell?
 simp only
 rw [h1,h2]
 rfl
def nsB (p:List (Int×Int)):Bool:=(UN 2 p).all fun x=>!(UN 3 p).contains x
theorem aoI {p:List (Int×Int)} (h:acV p):nsB p=true:=by
 unfold nsB
 rw [List.all_eq_true]
 intro x hx
 have:=h x hx
 simpa using this
theorem mU (k:Int) (a b:List (Int×Int)):UN k (a++b)=UN k a++UN k b:=by simp [UN]
theorem aj5 {p q:List (Int×Int)} {x:Int} (h2:x∈UN 2 p) (h3:x∈UN 3 p):nsB (p++q)=false:=by
 unfold nsB
 rw [List.all_eq_false]
 refine ⟨x,by rw [mU]; simp [h2],?_⟩
 rw [mU]
 simp [h3]
theorem qd (k:Int) (K X:Int):UN k [(K,X)]=if K=k then [X] else []:=by
 unfold UN
 by_cases h:K=k <;> simp [h]
theorem abf (recs:Nat->List (Int×Int)) {i n:Nat} (h:i<n) (j:Nat) : ∃ q,mJ recs n=(mJ recs i++(recs i).take j)++q:=by
 obtain ⟨k,rfl⟩ : ∃ k,n=i+1+k:=⟨n-(i+1),by omega⟩
 refine ⟨(recs i).drop j++(List.range' (i+1) k).flatMap recs,?_⟩
 have e:List.range (i+1+k)=List.range (i+1)++List.range' (i+1) k:=by
  rw [List.range_eq_range',List.range_eq_range',<-List.range'_append_1,Nat.zero_add]
 unfold mJ
 rw [e,List.flatMap_append,List.range_succ,List.flatMap_append]
 simp only [List.flatMap_cons,List.flatMap_nil,List.append_nil,List.append_assoc]
 rw [<-List.append_assoc (List.take j (recs i)),List.take_append_drop]
def agm (w:World) (lb lo j:Nat) (r:Int×Int) (v:Value):Prop:=w.cell? ⟨lb,lo+j * 3,none⟩=some (.int .i64 r.1)/\w.cell? ⟨lb,lo+j * 3+1,none⟩=some (.int .i64 r.2)/\w.cell? ⟨lb,lo+j * 3+2,none⟩=some v
def acX (w:World) (b k:Nat) (l:List (Int×Int)):Prop:=∃ (C0 C2:Int) (LA:Option Addr) (LC:Nat) (L3:Option Addr) (N3 K3:Nat) (L4:Option Addr) (N4 K4:Nat),
 w.cell? ⟨b,k,none⟩=some (.int .i64 C0)/\w.cell? ⟨b,k+1,none⟩=some (.slice LA l.length LC)/\w.cell? ⟨b,k+2,none⟩=some (.int .i64 C2)/\w.cell? ⟨b,k+3,none⟩=some (.slice L3 N3 K3)/\w.cell? ⟨b,k+4,none⟩=some (.slice L4 N4 K4)/\l.length<=140737488355328 /\
 ∀ j,j<l.length->(Lit.int .i64 (l.getD j default).2).wf=true /\ ∃ lb lo VA VN VC,LA=some ⟨lb,lo,none⟩/\lb<w.heap.size/\agm w lb lo j (l.getD j default) (.slice VA VN VC)
set_option maxRecDepth 1000000 in
theorem al2 (aa:Option Addr) (n cap:Nat) (v0 v1 v2 v3 v4 v5 v7 v8 v9:Value) (recs:Nat->List (Int×Int)) (w:World) (htot:(mJ recs n).length<=1099511627776) (hn:n<=140737488355328)
  (hA:Hid (0<n->∃ b o,aa=some ⟨b,o,none⟩/\b<w.heap.size /\ ∀ i,i<n->acX w b (o+i * 5) (recs i))) :
  Calls Tryz.prog 51 #[.agg #[v0,v1,v2,v3,v4,v5,.slice aa n cap,v7,v8,v9]] w fun e w'=>e = .returned (.bool (nsB (mJ recs n)))/\Below w.heap.size w w':=by
 have hmm:=@run_makeMap Tryz.prog
 go_enter Tryz.func51,Tryz.ntmps51
 go_wp2
 go_loopw [14] (fun vi wr=>∃ i:Nat,vi = .int .i64 i/\i<=n/\NSr w wr (w.heap.size+1) (w.heap.size+2) (mJ recs i)) (fun vi _=>n-(intOf vi).toNat)
 case atStart =>
  refine ⟨0,rfl,Nat.zero_le _,.map [],.map [],?_,?_,UL,UL,fun x hx=>by simp [UN,mJ] at hx,?_⟩
  ·have:=World.ownsMap_made (w.alloc (Obj.cells #[v0,v1,v2,v3,v4,v5,Value.slice aa n cap,v7,v8,v9] 37)) Tryz.prog 3 (plainElem (H:=Unit) Tryz.prog 3)
   rw [World.size_alloc] at this
   exact (this.alloc _).mono (Nat.zero_le _)
  ·have:=World.ownsMap_made ((w.alloc (Obj.cells #[v0,v1,v2,v3,v4,v5,Value.slice aa n cap,v7,v8,v9] 37)).alloc (Obj.map #[] 0)) Tryz.prog 3 (plainElem (H:=Unit) Tryz.prog 3)
   rw [World.size_alloc,World.size_alloc] at this
   exact this.mono (Nat.zero_le _)
  ·exact (((Below.refl _ w).alloc (Nat.le_refl _) _).alloc (by simp) _).alloc (by simp; omega) _
 case round =>
  obtain ⟨i,rfl,hi,hR⟩:=hrel
  have hR':Hid (NSr w _ (w.heap.size+1) (w.heap.size+2) (mJ recs i)):=hR
  obtain ⟨D1,D2,m1,m2,q1,q2,hcl,hb⟩:=hR
  by_cases hlt:i<n
  ·obtain ⟨b,o,haa,hbl,hS⟩:=hA.out (by omega)
   obtain ⟨C0,C2,LA,LC,L3,N3,K3,L4,N4,K4,e0,e1,e2,e3,e4,hln,h5⟩:=hS i hlt
   have hcx:=fun (k:Nat) (v:Value) (h:w.cell? ⟨b,k,none⟩=some v)=>(hb.cell (p:=⟨b,k,none⟩) hbl).trans h
   have g0:=hcx _ _ e0
   have g1:=hcx _ _ e1
   have g2:=hcx _ _ e2
   have g3:=hcx _ _ e3
   have g4:=hcx _ _ e4
   have h5':Hid (∀ j,j<(recs i).length->(Lit.int .i64 ((recs i).getD j default).2).wf=true /\ ∃ lb lo VA VN VC,LA=some ⟨lb,lo,none⟩/\lb<w.heap.size/\agm w lb lo j ((recs i).getD j default) (.slice VA VN VC)):=h5
   clear e0 e1 e2 e3 e4 h5 hS
   have hlt':(i:Int)<(n:Int):=by omega
   clear hcx m1 m2
   go_wp2
   go_loopw [21] (fun vj w2=>∃ j:Nat,vj = .int .i64 j/\j<=(recs i).length/\NSr w w2 (w.heap.size+1) (w.heap.size+2) (mJ recs i++(recs i).take j)) (fun vj _=>(recs i).length-(intOf vj).toNat)
   case atStart =>
    have hR0:=hR'.out
    obtain ⟨E1,E2,m1,m2,x1,x2,x3,x4⟩:=hR0
    refine ⟨0,rfl,Nat.zero_le _,E1,E2,?_,?_,?_,?_,?_,x4.alloc x4.size _⟩
    ·simpa using m1.alloc _
    ·simpa using m2.alloc _
    ·simpa using x1
    ·simpa using x2
    ·simpa using x3
   case round =>
    obtain ⟨j,rfl,hj,hR2⟩:=hrel
    clear g0 g1 g2 g3 g4 hb q1 q2 hcl
    obtain ⟨D1,D2,m1,m2,q1,q2,hcl,hb⟩:=hR2
    by_cases hjl:j<(recs i).length
    ·obtain ⟨hwf,lb,lo,VA,VN,VC,hLA,hlb,c0,c1,c2⟩:=h5'.out j hjl
     have k0:=(hb.cell (p:=⟨lb,lo+j * 3,none⟩) hlb).trans c0
     have k1:=(hb.cell (p:=⟨lb,lo+j * 3+1,none⟩) hlb).trans c1
     have k2:=(hb.cell (p:=⟨lb,lo+j * 3+2,none⟩) hlb).trans c2
     clear c0 c1 c2
     obtain ⟨r,hr⟩ : ∃ r,r=(recs i).getD j default:=⟨_,rfl⟩
     rw [<-hr] at hwf k0 k1
     obtain ⟨K,X⟩:=r
     simp only at hwf k0 k1
     have auZ:(j:Int)<((recs i).length:Int):=by omega
     obtain ⟨q,hq⟩:=abf recs hlt (j+1)
     have hpl:(mJ recs i++(recs i).take j).length<maxLen:=by
      have h9:=congrArg List.length hq
      simp only [List.length_append,List.length_take] at h9 ⊢
      unfold maxLen
      omega
     have htk:(recs i).take (j+1)=(recs i).take j++[(K,X)]:=by
      rw [hr,List.take_add_one,List.getElem?_eq_getElem hjl]
      simp [List.getD,hjl]
     rw [htk,<-List.append_assoc] at hq
     obtain ⟨p,hp⟩ : ∃ p,p=mJ recs i++(recs i).take j:=⟨_,rfl⟩
     rw [<-hp] at m1 m2 q1 q2 hcl hq hpl
     have hkey:=keyOf_int_mk (P:=Tryz.prog) Tryz.underlying3 hwf
     have M1:=m1.alloc (Obj.cells #[Value.int IntKind.i64 K,Value.int IntKind.i64 X,Value.slice VA VN VC] 104)
     have M2:=m2.alloc (Obj.cells #[Value.int IntKind.i64 K,Value.int IntKind.i64 X,Value.slice VA VN VC] 104)
     have hb0:=hb.alloc hb.size (Obj.cells #[Value.int IntKind.i64 K,Value.int IntKind.i64 X,Value.slice VA VN VC] 104)
     have hN:Hid (∀ w2,NSr w w2 (w.heap.size+1) (w.heap.size+2) (p++[(K,X)])->NSr w w2 (w.heap.size+1) (w.heap.size+2) (mJ recs i++(recs i).take (j+1))):=fun w2 h=>by rw [htk,<-List.append_assoc,<-hp]; exact h
     by_cases hK2:K=2
     ·subst hK2
      obtain ⟨w1,hup,M1',hg⟩:=M1.update al1 Tryz.underlying133 hpl (val:=.int .i64 1) hkey (plainElem_int Tryz.underlying3 (by decide))
      have M2':=M2.kept hg (by simp)
      have q1':=UM q1 X
      have hb1:=hb0.grown hg hb0.size (fun k hk=>by simp at hk; omega)
      have L1:=yE hwf M1' q1' (v:=1) (by simp)
      have hc1:=acW (X:=X) hg (by have:=m1.lt; omega)
      clear m1 m2 M1 hb hb0
      by_cases hX3:X∈UN 3 p
      ·have L2:=yE hwf M2' q2 (v:=1) (by simp [hX3])
       have hres:nsB (mJ recs n)=false:=by rw [hq]; exact aj5 (x:=X) (by rw [mU,qd]; simp) (by rw [mU]; simp [hX3])
       have hQ:Hid (nsB (mJ recs n)=false):=hres
       have hB:Hid (Below w.heap.size w w1):=hb1
       clear hq hp hpl htk q1 q2 hcl hR' M1' M2' q1' hb1 hres hN
       go_wp2
       go_ret
       exact ⟨by rw [hQ.out]; rfl,hB.out⟩
      ·have L2:=yE hwf M2' q2 (v:=0) (by simp [hX3])
       have PE:Hid (NSr w w1 (w.heap.size+1) (w.heap.size+2) (p++[(2,X)])):=by
        refine ⟨_,_,by simpa using M1',by simpa using M2'.mono (Nat.le_succ _),?_,?_,?_,hb1⟩
        ·rw [mU,qd]; exact q1'
        ·rw [mU,qd]; simpa using q2
        ·intro x hx
         rw [mU,qd] at hx
         rw [mU,qd]
         simp only [if_pos,List.mem_append,List.mem_singleton] at hx
         rcases hx with hx | hx
         ·simpa using hcl x hx
         ·rw [hx]; simpa using hX3
       have hjj:Hid (j<(recs i).length):=hjl
       clear hq hp hpl htk q1 q2 hcl hR' M1' M2' q1' hb1
       go_wp2
       go_roundw
       case rel=>exact ⟨j+1,by go_num,hjj.out,hN.out _ PE.out⟩
       case measure=>simp [intOf]; have:=hjj.out; omega
     ·by_cases hK3:K=3
      ·subst hK3
       obtain ⟨w1,hup,M2',hg⟩:=M2.update al1 Tryz.underlying133 hpl (val:=.int .i64 1) hkey (plainElem_int Tryz.underlying3 (by decide))
       have M1':=M1.kept hg (by simp)
       have q2':=UM q2 X
       have hb1:=hb0.grown hg hb0.size (fun k hk=>by simp at hk; omega)
       have L2:=yE hwf M2' q2' (v:=1) (by simp)
       have hc1:=acW (X:=X) hg (by have:=m2.lt; omega)
       clear m1 m2 M2 hb hb0
       by_cases hX2:X∈UN 2 p
       ·have L1:=yE hwf M1' q1 (v:=1) (by simp [hX2])
        have hres:nsB (mJ recs n)=false:=by rw [hq]; exact aj5 (x:=X) (by rw [mU]; simp [hX2]) (by rw [mU,qd]; simp)
        have hQ:Hid (nsB (mJ recs n)=false):=hres
        have hB:Hid (Below w.heap.size w w1):=hb1
        clear hq hp hpl htk q1 q2 hcl hR' M1' M2' q2' hb1 hres hN
        go_wp2
        go_ret
        exact ⟨by rw [hQ.out]; rfl,hB.out⟩
       ·have L1:=yE hwf M1' q1 (v:=0) (by simp [hX2])
        have PE:Hid (NSr w w1 (w.heap.size+1) (w.heap.size+2) (p++[(3,X)])):=by
         refine ⟨_,_,by simpa using M1'.mono (Nat.le_succ _),by simpa using M2',?_,?_,?_,hb1⟩
         ·rw [mU,qd]; simpa using q1
         ·rw [mU,qd]; exact q2'
         ·intro x hx
          rw [mU,qd] at hx
          rw [mU,qd]
          have hx':x∈UN 2 p:=by simpa using hx
          have h9:=hcl x hx'
          have h8:x≠X:=fun e=>hX2 (e ▸ hx')
          simp [h9,h8]
        have hjj:Hid (j<(recs i).length):=hjl
        clear hq hp hpl htk q1 q2 hcl hR' M1' M2' q2' hb1
        go_wp2
        go_roundw
        case rel=>exact ⟨j+1,by go_num,hjj.out,hN.out _ PE.out⟩
        case measure=>simp [intOf]; have:=hjj.out; omega
      ·have hK2' : ¬ ((K:Int)=2):=hK2
       have au0 : ¬ ((K:Int)=3):=hK3
       have PE:Hid (NSr w (wr.alloc (Obj.cells #[Value.int IntKind.i64 K,Value.int IntKind.i64 X,Value.slice VA VN VC] 104)) (w.heap.size+1) (w.heap.size+2) (p++[(K,X)])):=by
        refine ⟨D1,D2,by simpa using M1.mono (Nat.le_succ _),by simpa using M2.mono (Nat.le_succ _),?_,?_,?_,hb0⟩
        ·rw [mU,qd,if_neg hK2]; simpa using q1
        ·rw [mU,qd,if_neg hK3]; simpa using q2
        ·intro x hx
         rw [mU,qd,if_neg hK2] at hx
         rw [mU,qd,if_neg hK3]
         simpa using hcl x (by simpa using hx)
       have hjj:Hid (j<(recs i).length):=hjl
       by_cases hX2:X∈UN 2 p
       ·have L1:=yE hwf M1 q1 (v:=1) (by simp [hX2])
        have L2:=yE hwf M2 q2 (v:=0) (by simp [hcl X hX2])
        clear m1 m2 M1 M2 hb hb0 hq hp hpl htk q1 q2 hcl hR'
        go_wp2
        go_roundw
        case rel=>exact ⟨j+1,by go_num,hjj.out,hN.out _ PE.out⟩
        case measure=>simp [intOf]; have:=hjj.out; omega
       ·have L1:=yE hwf M1 q1 (v:=0) (by simp [hX2])
        clear m1 m2 M1 M2 hb hb0 hq hp hpl htk q1 q2 hcl hR'
        go_wp2
        go_roundw
        case rel=>exact ⟨j+1,by go_num,hjj.out,hN.out _ PE.out⟩
        case measure=>simp [intOf]; have:=hjj.out; omega
    ·have hjn:j=(recs i).length:=by omega
     subst hjn
     have hR4:Hid (NSr w wr (w.heap.size+1) (w.heap.size+2) (mJ recs (i+1))):=by
      refine ⟨D1,D2,?_,?_,?_,?_,?_,hb⟩
      ·simpa [uN] using m1
      ·simpa [uN] using m2
      ·simpa [uN] using q1
      ·simpa [uN] using q2
      ·simpa [uN] using hcl
     have hii:Hid (i<n):=hlt
     clear m1 m2 q1 q2 hcl hb hR'
     go_wp2
     go_roundw
     case rel=>exact ⟨i+1,by go_num,hii.out,hR4.out⟩
     case measure=>simp [intOf]; have:=hii.out; omega
  ·have hin:i=n:=by omega
   have hres:Hid (nsB (mJ recs n)=true):=by rw [<-hin]; exact aoI hcl
   have hB:Hid (Below w.heap.size w wr):=hb
   subst hin
   clear m1 m2 q1 q2 hcl hb hR'
   go_wp2
   go_ret
   exact ⟨by rw [hres.out]; rfl,hB.out⟩
end Go.Proofs.YtpchnmbcbcfhjaaGreat

namespace Go.Proofs.YtpchnmbcbcfhjaaGreat
open Go Go.E Go.Proofs Go.RowKit
def esR:List LT:=[.sc (.int .i64),.sc (.int .i64),.sl [.sc (.int .i64),.sc (.str),.sc (.str)]]
def esS:List LT:=[.sc (.int .i64),.sl esR,.sc (.int .i64),.sl [.sc (.str),.sc (.str)],.sl esR]
def YE (r:List T):Int×Int:=((r.getD 0 dflt).int,(r.getD 1 dflt).int)
def IG (s:List T):List (Int×Int):=((s.getD 1 dflt).rows).map YE
def vT (rows:List (List T)):List (Int×Int):=rows.flatMap IG
def xu:List Arg->R3 fV
 | [.agg [_,_,_,_,_,_,.dz es rows,_,_,_]]=>cond (LT.eH esS es) (cond (decide ((vT rows).length<=ak)) (.ok ⟨[.one (.sc .bool (.b (nsB (vT rows))))],[List.replicate 10 none],[]⟩) .bad) .bad
 | _=>.bad
theorem wf_i64 {n:Int} (h1:IntKind.i64.min<=n) (h2:n<=IntKind.i64.max):(Lit.int .i64 n).wf=true:=by
 simp only [Lit.wf,Bool.and_eq_true,decide_eq_true_eq]
 exact ⟨h1,h2⟩
theorem agn {w:World} {S:aB} {b k:Nat} {row:List T} (hcl : ∀ b' o' v,cellAt w b' o'=some v->b'<w.heap.size) (h:dK w S S esS b k row):acX w b k (IG row):=by
 simp only [esS,dK] at h
 obtain ⟨d0,r0,v0,rfl,-,c0,l0,d1,r1,v1,rfl,-,c1,l1,d2,r2,v2,rfl,-,c2,l2,d3,r3,v3,rfl,-,c3,l3,d4,r4,v4,rfl,-,c4,l4,rfl⟩:=h
 rw [aJ] at l0 l2
 obtain ⟨n0,rfl,-⟩:=l0
 obtain ⟨n2,rfl,-⟩:=l2
 rw [aJ] at l1 l3 l4
 obtain ⟨a1,q1,J7,rfl,rfl,h1a,h1b,h1c⟩:=l1
 obtain ⟨a3,q3,aoJ,rfl,rfl,-⟩:=l3
 obtain ⟨a4,q4,aoK,rfl,rfl,-⟩:=l4
 have hrec:IG [d0,T.l J7,d2,T.l aoJ,T.l aoK]=J7.map YE:=rfl
 rw [hrec]
 refine ⟨n0,n2,a1,q1,a3,_,_,a4,_,_,c0,by rw [List.length_map]; exact c1,c2,c3,c4,by rw [List.length_map]; exact h1b,fun j hj=>?_⟩
 rw [List.length_map] at hj
 rcases h1c with rfl | ⟨lb,lo,rfl,hr⟩
 ·simp at hj
 have hrow:=hr j hj
 have hg:(J7.map YE).getD j default=YE J7[j]:=by simp [List.getD,hj]
 rw [hg]
 generalize J7[j]=row at hrow
 simp only [esR,dK,List.length_cons,List.length_nil] at hrow
 obtain ⟨e0,t0,u0,rfl,-,k0,m0,e1,t1,u1,rfl,-,k1,m1,e2,t2,u2,rfl,-,k2,m2,rfl⟩:=hrow
 rw [aJ] at m0 m1
 obtain ⟨x0,rfl,rfl,-⟩:=m0
 obtain ⟨x1,rfl,rfl,p1,p2⟩:=m1
 rw [aJ] at m2
 obtain ⟨a2,q2,atJ,rfl,rfl,-⟩:=m2
 exact ⟨wf_i64 p1 p2,lb,lo,a2,_,q2,rfl,hcl _ _ _ k0,k0,k1,k2⟩
theorem MX (rows:List (List T)) : ∀ i,i<=rows.length->mJ (fun i=>IG (rows.getD i [])) i=vT (rows.take i)
 | 0,_=>rfl
 | i+1,h=>by
  have e:rows.take (i+1)=rows.take i++[rows[i]'(by omega)]:=by rw [List.take_add_one,List.getElem?_eq_getElem (by omega)]; rfl
  rw [uN,MX rows i (by omega),e]
  have eg:rows.getD i []=rows[i]'(by omega):=by simp [List.getD,List.getElem?_eq_getElem (show i<rows.length by omega)]
  unfold vT
  rw [List.flatMap_append,eg]
  simp only [List.flatMap_cons,List.flatMap_nil,List.append_nil]
theorem Qu {args:List Arg} (h:xu args ≠ .bad):Nv Tryz.prog 51 args (xu args):=by
 unfold xu at h ⊢
 split at h
 ·rename_i a0 a1 a2 a3 a4 a5 es rows a7 a8 a9
  cases hc:LT.eH esS es with
  | false=>rw [hc] at h; exact absurd rfl h
  | true =>
   cases hm:decide ((vT rows).length<=ak) with
   | false=>rw [hc,hm] at h; exact absurd rfl h
   | true =>
    have:=LT.bP hc
    subst this
    intro g0 I A w vs hp
    obtain ⟨v,hvs,hav⟩ : ∃ v,vs = #[v]/\Ti g0 w I 0 (.agg [a0,a1,a2,a3,a4,a5,.dz esS rows,a7,a8,a9]) v:=by
     have hrel:=hp.rel
     match hl:vs.toList,hrel with
     | [v],hrel=>exact ⟨v,Array.toList_inj.1 (by simpa using hl),hrel.1⟩
     | [],hrel=>exact hrel.elim
     | _::_::_,hrel=>exact hrel.2.elim
    obtain ⟨cs,hcs,al4⟩:=hav
    obtain ⟨c0,c1,c2,c3,c4,c5,c6,c7,c8,c9,hl,h6⟩ : ∃ c0 c1 c2 c3 c4 c5 c6 c7 c8 c9,cs.toList=[c0,c1,c2,c3,c4,c5,c6,c7,c8,c9]/\aJ w (ID g0 I) (.sl esS) c6 (.l rows):=by
     match hl:cs.toList,al4 with
     | [c0,c1,c2,c3,c4,c5,c6,c7,c8,c9],al4=>exact ⟨c0,c1,c2,c3,c4,c5,c6,c7,c8,c9,rfl,al4.2.2.2.2.2.2.1⟩
    have hcs2:cs = #[c0,c1,c2,c3,c4,c5,c6,c7,c8,c9]:=Array.toList_inj.1 (by simpa using hl)
    subst hvs hcs
    rw [hcs2]
    rw [aJ] at h6
    obtain ⟨aa,cap,rows',e1,rfl,hcap,hmax,hpl⟩:=h6
    cases e1
    have hfl:mJ (fun i=>IG (rows.getD i [])) rows.length=vT rows:=by rw [MX rows rows.length (Nat.le_refl _),List.take_length]
    have hlt:(vT rows).length<=1099511627776:=of_decide_eq_true hm
    refine (al2 aa rows.length cap c0 c1 c2 c3 c4 c5 c7 c8 c9 (fun i=>IG (rows.getD i [])) w (by rw [hfl]; exact hlt) hmax (fun hpos=>?_)).mono ?_
    ·rcases hpl with rfl | ⟨b,o,rfl,hr⟩
     ·simp at hpos
     ·have hcl : ∀ b' o' v,cellAt w b' o'=some v->b'<w.heap.size:=fun b' o' v hv=>nO ⟨v,hv⟩
      refine ⟨b,o,rfl,?_,fun i hi=>?_⟩
      ·have:=hr 0 hpos
       simp only [esS,dK] at this
       obtain ⟨d0,r0,v0,-,-,c0,-⟩:=this
       exact hcl _ _ _ c0
      ·have:=hr i hi
       have e:rows.getD i []=rows[i]:=by simp [List.getD,hi]
       rw [e]
       exact agn hcl this
    ·rintro e w' ⟨rfl,hbel⟩
     refine ⟨_,g0,I,rfl,aeg hp hbel ⟨fun _ h=>(nomatch h),fun _ h=>(nomatch h)⟩ (fun g'=>⟨_,rfl,by rw [hfl]⟩) rfl fun i j=>?_⟩
     unfold lI
     match i with
     | 0 =>
      show (List.replicate 10 (none:Option (List LT×List M×List (List T)))).getD j none=none
      rw [List.getD_eq_getElem?_getD,List.getElem?_replicate]
      split <;> rfl
     | i+1=>rfl
 ·exact absurd rfl h
end Go.Proofs.YtpchnmbcbcfhjaaGreat

namespace Go.Proofs.YtpchnmbcbcfhjaaGreat
open Go Go.E Go.Proofs Go.RowKit Go.Lib Go.Shelf
abbrev Ec:=ByteArray×ByteArray
def XK (key:ByteArray) (r:Ec):Bool:=r.1.toList==key.toList
def RowsIn (c:Array Value) (rs:List Ec):Prop:=∀ t,t<rs.length->c[t * 2]? = some (.string (rs.getD t default).1)/\c[t * 2+1]? = some (.string (rs.getD t default).2)
abbrev dkF (kb:Nat):Value:=.func (.func 94) #[] #[.pointer (some ⟨kb,0,none⟩)]
set_option maxHeartbeats 8000000 in
set_option maxRecDepth 1000000 in
theorem acY {k v key:ByteArray} {kb:Nat} {w:World} (hk:w.cell? ⟨kb,0,none⟩=some (.string key)) :
  Calls Tryz.prog 94 #[.agg #[.string k,.string v],.pointer (some ⟨kb,0,none⟩)] w fun e w'=>e = .returned (.bool (XK key (k,v)))/\w'=w.alloc (Obj.cells #[.string k,.string v] 83):=by
 have h2:(w.alloc (Obj.cells #[.string k,.string v] 83)).cell? ⟨kb,0,none⟩=some (.string key):=Lib.cell?_alloc_some _ hk
 go_enter Tryz.func94,Tryz.ntmps94
 go_wp2
 go_ret
 exact ⟨rfl,rfl⟩
def Df (b:Nat) (w wr:World):Prop:=Keeps (fun k _=>k≠b) w wr
theorem Df.refl (b:Nat) (w:World):Df b w w:=Keeps.refl _ w
theorem Df.alloc {b:Nat} {w wr:World} (h:Df b w wr) (o:Obj):Df b w (wr.alloc o):=Keeps.trans (fun _ _ h=>h) h ((qz wr o).weaken fun _ _ _=>trivial)
theorem Df.cell {b:Nat} {w wr:World} (h:Df b w wr) {k o:Nat} {v:Value} (hk:k≠b) (hv:w.cell? ⟨k,o,none⟩=some v):wr.cell? ⟨k,o,none⟩=some v:=(Keeps.cell h hk ⟨v,hv⟩).trans hv
theorem oU {w:World} {o:Obj} {b:Nat} {c':Array Value} {t':TypeId} {fz:Nat×Nat} (h:Block w b c' t' fz):Block (w.alloc o) b c' t' fz:=by
 have hl:=(Array.getElem?_eq_some_iff.1 h).1
 show (w.heap.push _)[b]? = _
 rw [Array.getElem?_push_lt hl]
 rw [<-Array.getElem?_eq_getElem hl]
 exact h
theorem RowsIn.cells {w:World} {b:Nat} {c:Array Value} {el:TypeId} {fz:Nat×Nat} {rs:List Ec} (hB:Block w b c el fz) (h:RowsIn c rs) {t:Nat} (ht:t<rs.length) :
  w.cell? ⟨b,t * 2,none⟩=some (.string (rs.getD t default).1)/\w.cell? ⟨b,t * 2+1,none⟩=some (.string (rs.getD t default).2):=by
 rw [cellP hB,cellP hB]
 exact h t ht
set_option maxHeartbeats 8000000 in
set_option maxRecDepth 1000000 in
theorem agp {b cap kb:Nat} {c:Array Value} {el:TypeId} {fz:Nat×Nat} {w:World} {rs:List Ec} {key:ByteArray} (hB:Block w b c el fz) (hR:RowsIn c rs) (hn:rs.length<=140737488355328)
  (hk:w.cell? ⟨kb,0,none⟩=some (.string key)) (hkb:kb≠b) :
  Calls Tryz.prog 149 #[.slice (some ⟨b,0,none⟩) rs.length cap,dkF kb] w fun e w'=>Df b w w'/\Block w' b c el fz /\
   ((e = .returned (.int .i64 (-1)) /\ ∀ t,t<rs.length->XK key (rs.getD t default)=false) \/
   ∃ i:Nat,e = .returned (.int .i64 i)/\i<rs.length/\XK key (rs.getD i default)=true /\ ∀ t,t<i->XK key (rs.getD t default)=false):=by
 obtain ⟨n,hnn⟩ : ∃ n,n=rs.length:=⟨_,rfl⟩
 have hR':Hid (RowsIn c rs):=hR
 have hB':Hid (Block w b c el fz):=hB
 have hk':Hid (w.cell? ⟨kb,0,none⟩=some (.string key)):=hk
 rw [<-hnn] at hn ⊢
 have Qv:Hid (n=rs.length):=hnn
 clear hR hB hk hnn
 go_enter Tryz.func149,Tryz.ntmps149
 go_wp2
 go_loopw [8] (fun vi wr=>∃ i:Nat,vi = .int .i64 i/\i<=n/\Df b w wr/\Block wr b c el fz /\ ∀ t,t<i->XK key (rs.getD t default)=false) (fun vi _=>n-(intOf vi).toNat)
 case atStart=>exact ⟨0,rfl,Nat.zero_le _,Df.refl _ _,hB'.out,fun t ht=>absurd ht (Nat.not_lt_zero _)⟩
 case round =>
  obtain ⟨i,rfl,hi,hD,hBr,hall⟩:=hrel
  have hD':Hid (Df b w _):=hD
  have YF:Hid (Block _ b c el fz):=hBr
  have agq:Hid (∀ t,t<i->XK key (rs.getD t default)=false):=hall
  by_cases hlt:i<n
  ·have hlt':(i:Int)<(n:Int):=by omega
   obtain ⟨c0,c1⟩:=hR'.out.cells hBr (t:=i) (by rw [<-Qv.out]; exact hlt)
   have kc:=hD.cell hkb hk'.out
   obtain ⟨r,hr⟩ : ∃ r,r=rs.getD i default:=⟨_,rfl⟩
   rw [<-hr] at c0 c1
   obtain ⟨K,X⟩:=r
   simp only at c0 c1
   have hp:=fun (W:World) (h:W.cell? ⟨kb,0,none⟩=some (.string key))=>acY (k:=K) (v:=X) h
   have hr':Hid ((K,X)=rs.getD i default):=hr
   clear hD hBr hall hr
   cases hq:XK key (K,X) with
   | true =>
    rw [hq] at hp
    go_wp2_with (go_at_call 94; refine (hp _ kc).mono ?_; rintro e w' ⟨rfl,rfl⟩)
    go_ret
    refine ⟨hD'.out.alloc _,oU YF.out,.inr ⟨i,rfl,hlt,by rw [<-hr'.out]; exact hq,agq.out⟩⟩
   | false =>
    rw [hq] at hp
    go_wp2_with (go_at_call 94; refine (hp _ kc).mono ?_; rintro e w' ⟨rfl,rfl⟩)
    go_roundw
    case rel =>
     refine ⟨i+1,by go_num,hlt,hD'.out.alloc _,oU YF.out,fun t ht=>?_⟩
     by_cases h:t=i
     ·subst h; rw [<-hr'.out]; exact hq
     ·exact agq.out t (by omega)
    case measure=>simp [intOf]; omega
  ·obtain rfl:i=n:=by omega
   have hlt' : ¬ (i:Int)<(i:Int):=by omega
   clear hD hBr hall
   go_wp2
   go_ret
   exact ⟨hD'.out,YF.out,.inl ⟨rfl,agq.out⟩⟩
end Go.Proofs.YtpchnmbcbcfhjaaGreat

namespace Go.Proofs.YtpchnmbcbcfhjaaGreat
open Go Go.E Go.Proofs Go.RowKit Go.Lib Go.Shelf
def Gr (key:ByteArray) (rs:List Ec):List Ec:=rs.filter fun r=>!XK key r
structure DkI (key:ByteArray) (rs:List Ec) (c c':Array Value) (i j:Nat):Prop where
 lt:i<j
 le:j<=rs.length
 size:c'.size=c.size
 len:(Gr key (rs.take j)).length=i
 low:RowsIn c' (Gr key (rs.take j))
 high : ∀ t,j<=t->t<rs.length->c'[t * 2]? = some (.string (rs.getD t default).1)/\c'[t * 2+1]? = some (.string (rs.getD t default).2)
theorem II {rs:List Ec} {j:Nat} (h:j<rs.length):rs.take (j+1)=rs.take j++[rs.getD j default]:=by
 rw [List.take_add_one,List.getElem?_eq_getElem h]
 simp [List.getD,h]
theorem acZ {key:ByteArray} {rs:List Ec} {i:Nat} (hi:i<=rs.length) (h : ∀ t,t<i->XK key (rs.getD t default)=false):Gr key (rs.take i)=rs.take i:=by
 unfold Gr
 rw [List.filter_eq_self]
 intro r hr
 obtain ⟨t,ht,rfl⟩:=List.getElem_of_mem hr
 have h1:t<i:=by simp at ht; omega
 have:=h t h1
 rw [List.getElem_take]
 simp [List.getD,show t<rs.length by omega] at this
 simp [this]
theorem DkI.start {key:ByteArray} {rs:List Ec} {c:Array Value} {i:Nat} (hR:RowsIn c rs) (hi:i<rs.length) (ht:XK key (rs.getD i default)=true) (h : ∀ t,t<i->XK key (rs.getD t default)=false):DkI key rs c c i (i+1):=by
 have e:Gr key (rs.take (i+1))=rs.take i:=by
  rw [II hi]
  unfold Gr
  rw [List.filter_append]
  have:=acZ (key:=key) (rs:=rs) (i:=i) (by omega) h
  unfold Gr at this
  rw [this,List.filter_cons_of_neg (by rw [ht]; decide)]
  simp
 refine ⟨Nat.lt_succ_self _,hi,rfl,?_,?_,fun t _ h=>hR t h⟩
 ·rw [e,List.length_take]; omega
 ·rw [e]
  intro t ht
  have h1:t<i:=by rw [List.length_take] at ht; omega
  have:=hR t (by omega)
  rw [show (rs.take i).getD t default=rs.getD t default by simp [List.getD,List.getElem?_take,h1]]
  exact this
theorem DkI.skip {key:ByteArray} {rs:List Ec} {c c':Array Value} {i j:Nat} (I:DkI key rs c c' i j) (hj:j<rs.length) (ht:XK key (rs.getD j default)=true):DkI key rs c c' i (j+1):=by
 have e:Gr key (rs.take (j+1))=Gr key (rs.take j):=by
  rw [II hj]; unfold Gr; rw [List.filter_append,List.filter_cons_of_neg (by rw [ht]; decide)]; simp
 exact ⟨by have:=I.lt; omega,hj,I.size,by rw [e]; exact I.len,by rw [e]; exact I.low,fun t h=>I.high t (by omega)⟩
theorem DkI.keep {key:ByteArray} {rs:List Ec} {c c':Array Value} {i j:Nat} (I:DkI key rs c c' i j) (hj:j<rs.length) (hsz:rs.length * 2<=c.size) {K X:ByteArray} (hr:(K,X)=rs.getD j default) (ht:XK key (K,X)=false) :
  DkI key rs c ((c'.setIfInBounds (i * 2) (.string K)).setIfInBounds (i * 2+1) (.string X)) (i+1) (j+1):=by
 have e:Gr key (rs.take (j+1))=Gr key (rs.take j)++[(K,X)]:=by
  rw [II hj]; unfold Gr; rw [List.filter_append,<-hr]; simp [ht]
 have hs:=I.size
 have h1:=I.lt
 refine ⟨by omega,hj,by simp [hs],by rw [e]; simp [I.len],?_,fun t h1' h2=>?_⟩
 ·rw [e]
  intro t ht
  rw [List.length_append,I.len] at ht
  simp at ht
  by_cases h:t=i
  ·subst h
   have e2:(Gr key (rs.take j)++[(K,X)]).getD t default=(K,X):=by
    rw [List.getD,List.getElem?_append_right (by rw [I.len]; exact Nat.le_refl _),I.len]; simp
   rw [e2]
   constructor
   ·rw [Array.getElem?_setIfInBounds_ne (by omega),Array.getElem?_setIfInBounds_self_of_lt (by omega)]
   ·rw [Array.getElem?_setIfInBounds_self_of_lt (by simp; omega)]
  ·have e2:(Gr key (rs.take j)++[(K,X)]).getD t default=(Gr key (rs.take j)).getD t default:=by
    rw [List.getD,List.getD,List.getElem?_append_left (by rw [I.len]; omega)]
   rw [e2,Array.getElem?_setIfInBounds_ne (by omega),Array.getElem?_setIfInBounds_ne (by omega),Array.getElem?_setIfInBounds_ne (by omega),Array.getElem?_setIfInBounds_ne (by omega)]
   exact I.low t (by rw [I.len]; omega)
 ·rw [Array.getElem?_setIfInBounds_ne (by omega),Array.getElem?_setIfInBounds_ne (by omega),Array.getElem?_setIfInBounds_ne (by omega),Array.getElem?_setIfInBounds_ne (by omega)]
  exact I.high t (by omega) h2
theorem YG {w:World} {b o:Nat} {c:Array Value} {el:TypeId} {fz:Nat×Nat} (hB:Block w b c el fz) (h : ¬ (fz.1<=o/\o<fz.2)):w.frozen? ⟨b,o,none⟩=false:=by
 unfold World.frozen?
 rw [show w.heap[({ block:=b,off:=o } : Addr).block]? = some (.cells c el fz) from hB]
 simp only [Bool.and_eq_false_iff,decide_eq_false_iff_not]
 omega
theorem MZ {w:World} {b o:Nat} {c:Array Value} {el:TypeId} {fz:Nat×Nat} {v:Value} (hB:Block w b c el fz):w.setCell ⟨b,o,none⟩ v=World.put w b (c.setIfInBounds o v) el fz:=by
 have hl:=(Array.getElem?_eq_some_iff.1 hB).1
 unfold World.setCell World.put
 congr 1
 apply Array.ext_getElem?
 intro j
 rw [Array.getElem?_modify,Array.getElem?_setIfInBounds]
 by_cases hj:b=j
 ·subst hj
  rw [if_pos rfl,if_pos rfl,if_pos hl]
  rw [show w.heap[b]? = some (.cells c el fz) from hB]
  rfl
 ·rw [if_neg hj,if_neg hj]
theorem Df.put {b:Nat} {w wr:World} (h:Df b w wr) {c c':Array Value} {el:TypeId} {fz:Nat×Nat} (hB:Block wr b c el fz) (hs:c'.size=c.size):Df b w (World.put wr b c' el fz) :=
 Keeps.trans (fun _ _ h=>h) h (vS hB hs fun o ho=>absurd rfl ho)
theorem agr {wr w2:World} {b i:Nat} {c':Array Value} {el:TypeId} {fz:Nat×Nat} {K X:ByteArray} (hB:Block wr b c' el fz) (hi:i * 2+1<c'.size) (hfz : ∀ o,o<=c'.size->¬ (fz.1<=o/\o<fz.2))
  (hw:w2=(wr.alloc (Obj.cells #[.string K,.string X] 83)).alloc (Obj.cells #[.string K,.string X] 83)) :
  w2.cell? ⟨wr.heap.size,0,none⟩=some (.string K)/\w2.cell? ⟨wr.heap.size,1,none⟩=some (.string X)/\(∃ v,w2.cell? ⟨b,i * 2,none⟩=some v)/\(∃ v,w2.cell? ⟨b,i * 2+1,none⟩=some v)/\w2.frozen? ⟨b,i * 2,none⟩=false/\w2.frozen? ⟨b,i * 2+1,none⟩=false/\Block w2 b c' el fz:=by
 have hB2:Block w2 b c' el fz:=by rw [hw]; exact oU (oU hB)
 have hv:Block w2 wr.heap.size #[.string K,.string X] 83 (0,0):=by rw [hw]; exact oU Ba
 refine ⟨by rw [cellP hv]; rfl,by rw [cellP hv]; rfl,?_,?_,YG hB2 (hfz _ (by omega)),YG hB2 (hfz _ (by omega)),hB2⟩
 ·rw [cellP hB2,Array.getElem?_eq_getElem (by omega)]; exact ⟨_,rfl⟩
 ·rw [cellP hB2,Array.getElem?_eq_getElem (by omega)]; exact ⟨_,rfl⟩
set_option maxHeartbeats 8000000 in
set_option maxRecDepth 1000000 in
theorem aej {b cap kb:Nat} {c:Array Value} {el:TypeId} {fz:Nat×Nat} {w:World} {rs:List Ec} {key:ByteArray} (hB:Block w b c el fz) (hR:RowsIn c rs) (hn:rs.length<=140737488355328) (hsz:c.size=cap * 2) (hcap:rs.length<=cap)
  (hfz : ∀ o,o<=c.size->¬ (fz.1<=o/\o<fz.2)) (hk:w.cell? ⟨kb,0,none⟩=some (.string key)) (hkb:kb≠b) :
  Calls Tryz.prog 93 #[.slice (some ⟨b,0,none⟩) rs.length cap,dkF kb] w fun e w'=>e = .returned (.slice (some ⟨b,0,none⟩) (Gr key rs).length cap)/\Df b w w' /\ ∃ c',Block w' b c' el fz/\c'.size=c.size/\RowsIn c' (Gr key rs):=by
 have hIF:=agp (cap:=cap) hB hR hn hk hkb
 have hR':Hid (RowsIn c rs):=hR
 have hB':Hid (Block w b c el fz):=hB
 have hk':Hid (w.cell? ⟨kb,0,none⟩=some (.string key)):=hk
 have hfz':Hid (∀ o,o<=c.size->¬ (fz.1<=o/\o<fz.2)):=hfz
 obtain ⟨n,hnn⟩ : ∃ n,n=rs.length:=⟨_,rfl⟩
 have Qv:Hid (n=rs.length):=hnn
 rw [<-hnn] at hn hcap hIF ⊢
 clear hR hB hk hnn hfz
 by_cases hex : ∃ i:Nat,i<n/\XK key (rs.getD i default)=true /\ ∀ t,t<i->XK key (rs.getD t default)=false
 ·obtain ⟨i0,hi0,ht0,hall⟩:=hex
  have al6:Calls Tryz.prog 149 #[.slice (some ⟨b,0,none⟩) n cap,dkF kb] w fun e w'=>e = .returned (.int .i64 i0)/\Df b w w'/\Block w' b c el fz:=by
   refine hIF.mono ?_
   rintro e w' ⟨h1,h2,⟨-,h3⟩ | ⟨i,rfl,h3,h4,h5⟩⟩
   ·rw [h3 i0 hi0] at ht0; cases ht0
   ·obtain rfl:i=i0:=by
     rcases Nat.lt_trichotomy i i0 with h | h | h
     ·rw [hall i h] at h4; cases h4
     ·exact h
     ·rw [h5 i0 h] at ht0; cases ht0
    exact ⟨rfl,h1,h2⟩
  have hS:Hid (DkI key rs c c i0 (i0+1)):=DkI.start hR'.out (by rw [<-Qv.out]; exact hi0) ht0 hall
  have hne1:((i0:Int) == -1)=false:=beq_eq_false_iff_ne.2 (by omega)
  have hsz':Hid (c.size=cap * 2):=hsz
  clear hIF ht0 hall hsz
  go_enter Tryz.func93,Tryz.ntmps93
  go_wp2_with (go_at_call 149; refine al6.mono ?_; rintro e w1 ⟨rfl,hD1,hB1⟩; have al7:Hid (Df b w w1):=hD1; have al8:Hid (Block w1 b c el fz):=hB1; clear hD1 hB1)
  go_loopw [5,6,7] (fun s5 s6 _ wr=>∃ (i j:Nat) (c':Array Value),s5 = .int .i64 i/\s6 = .int .i64 j/\j<=n/\Df b w wr/\Block wr b c' el fz/\Aside (DkI key rs c c' i j)) (fun _ s6 _ _=>n-(intOf s6).toNat)
  case atStart=>exact ⟨i0,i0+1,c,rfl,by go_num,by omega,al7.out,al8.out,hS.out⟩
  case round =>
   obtain ⟨i,j,c',rfl,rfl,hj,hD,hBr,hI⟩:=hrel
   have hD':Hid (Df b w _):=hD
   have YF:Hid (Block _ b c' el fz):=hBr
   have hI':Hid (DkI key rs c c' i j):=hI.out
   by_cases hlt:j<n
   ·have hlt':(j:Int)<(n:Int):=by omega
    have hj2:j<rs.length:=by rw [<-Qv.out]; exact hlt
    have hij:i<n:=by have:=hI'.out.lt; omega
    obtain ⟨c0,c1⟩:=hI'.out.high j (Nat.le_refl _) hj2
    rw [<-cellP hBr] at c0 c1
    have kc:=hD.cell hkb hk'.out
    obtain ⟨r,hr⟩ : ∃ r,r=rs.getD j default:=⟨_,rfl⟩
    rw [<-hr] at c0 c1
    obtain ⟨K,X⟩:=r
    simp only at c0 c1
    have hr':Hid ((K,X)=rs.getD j default):=hr
    have hp:=fun (W:World) (h:W.cell? ⟨kb,0,none⟩=some (.string key))=>acY (k:=K) (v:=X) h
    clear hD hBr hI hr hj2
    cases hq:XK key (K,X) with
    | true =>
     rw [hq] at hp
     go_wp2_with (go_at_call 94; refine (hp _ (Lib.cell?_alloc_some _ kc)).mono ?_; rintro e w' ⟨rfl,rfl⟩)
     go_roundw
     case rel=>exact ⟨i,j+1,c',rfl,by go_num,hlt,(hD'.out.alloc _).alloc _,oU (oU YF.out),(show Aside _ from hI'.out.skip (by rw [<-Qv.out]; exact hlt) (by rw [<-hr'.out]; exact hq))⟩
     case measure=>simp [intOf]; omega
    | false =>
     rw [hq] at hp
     have hF:=fun w2=>agr (w2:=w2) (i:=i) (K:=K) (X:=X) YF.out (by have:=hI'.out.size; have:=hsz'.out; omega) (by rw [hI'.out.size]; exact hfz'.out)
     go_wp2_with (go_at_call 94; refine (hp _ (Lib.cell?_alloc_some _ kc)).mono ?_; rintro e w2 ⟨rfl,hw2⟩; obtain ⟨v0,v1,⟨o0,g0⟩,⟨o1,g1⟩,h0,h1,hB2⟩:=hF w2 hw2; have hB2':Hid (Block w2 b c' el fz):=hB2; have arj:Hid (w2=(wr.alloc (Obj.cells #[.string K,.string X] 83)).alloc (Obj.cells #[.string K,.string X] 83)):=hw2; clear hw2 hB2 hF)
     go_roundw
     case rel =>
      have e1:=MZ (o:=i * 2) (v:=.string K) hB2'.out
      have hb1:Block (World.put w2 b (c'.setIfInBounds (i * 2) (.string K)) el fz) b (c'.setIfInBounds (i * 2) (.string K)) el fz:=kI hB2'.out
      have e2:=MZ (o:=i * 2+1) (v:=.string X) hb1
      rw [e1,e2,Kc]
      have hD2:Df b w w2:=by rw [arj.out]; exact (hD'.out.alloc _).alloc _
      exact ⟨i+1,j+1,_,by go_num,by go_num,hlt,hD2.put hB2'.out (by simp),kI hB2'.out,(show Aside _ from hI'.out.keep (by rw [<-Qv.out]; exact hlt) (by rw [<-Qv.out,hsz'.out]; omega) hr'.out hq)⟩
     case measure=>simp [intOf]; omega
   ·obtain rfl:j=n:=by omega
    have hlt' : ¬ (j:Int)<(j:Int):=by omega
    have hij:=hI'.out.lt
    have hlen:=hI'.out.len
    have hlow:=hI'.out.low
    have hsz2:=hI'.out.size
    have etk:rs.take j=rs:=List.take_of_length_le (by rw [<-Qv.out]; exact Nat.le_refl _)
    rw [etk] at hlen hlow
    obtain ⟨c2,hc2⟩ : ∃ c2,c2=(c'.toList.take (i * 2)++(Builtin.zeroCells #[.string .empty,.string .empty] (j-i)).toList++c'.toList.drop (i * 2+(j-i) * 2)).toArray:=⟨_,rfl⟩
    have hzS : ∀ v∈(#[.string .empty,.string .empty]:Array Value),Single v:=fun v hv=>by
     have:v = .string .empty:=by simpa using hv
     subst this
     exact ⟨fun _ h=>(nomatch h),fun _ h=>(nomatch h)⟩
    have hcl : ∀ ty,(Builtin.clear_ #[24] ty #[.slice (some ⟨b,i * 2,none⟩) (j-i) (cap-i)]).run Tryz.prog _ = .ok (.tuple #[]) (World.put _ b c2 el fz):=fun ty=>by
     rw [hc2]
     exact IE (P:=Tryz.prog) Tryz.underlying24 Tryz.zeroValue83 rfl ty (o:=i * 2) (n:=j-i) (cap:=cap-i) hBr (by omega) (by show i * 2+(j-i) * 2<=_; rw [hsz2,hsz'.out]; omega) (by rw [hsz2]; exact hfz'.out) hzS
    have hs2:c2.size=c'.size:=by
     have:=hsz'.out
     rw [hc2]
     simp [size_zeroCells]
     omega
    have hl2:RowsIn c2 (Gr key rs):=by
     intro t ht
     have hh:=hlow t ht
     rw [hlen] at ht
     have key1 : ∀ q,q<i * 2->c2[q]? = c'[q]?:=fun q hq=>by
      rw [hc2,List.getElem?_toArray,List.append_assoc,List.getElem?_append_left (by rw [List.length_take]; simp; have:=hsz'.out; omega),List.getElem?_take,if_pos hq]
      simp
     rw [key1 _ (by omega),key1 _ (by omega)]
     exact hh
    have HL:Hid (RowsIn c2 (Gr key rs)):=hl2
    have HS:Hid (c2.size=c.size):=hs2.trans hsz2
    have HS2:Hid (c2.size=c'.size):=hs2
    have hle:i<=j:=by omega
    have hlen':Hid ((Gr key rs).length=i):=hlen
    clear hD hBr hI hlow hlen hc2 hs2 hl2 etk hsz2
    go_wp2
    go_ret
    refine ⟨by rw [hlen'.out]; rfl,hD'.out.put YF.out HS2.out,c2,kI YF.out,HS.out,HL.out⟩
 ·have hall : ∀ t,t<n->XK key (rs.getD t default)=false:=by
   intro t
   induction t using Nat.strongRecOn with
   | ind t ih =>
    intro ht
    cases h:XK key (rs.getD t default) with
    | false=>rfl
    | true=>exact absurd ⟨t,ht,h,fun u hu=>ih u hu (by omega)⟩ hex
  have al6:Calls Tryz.prog 149 #[.slice (some ⟨b,0,none⟩) n cap,dkF kb] w fun e w'=>e = .returned (.int .i64 (-1))/\Df b w w'/\Block w' b c el fz:=by
   refine hIF.mono ?_
   rintro e w' ⟨h1,h2,⟨rfl,-⟩ | ⟨i,rfl,h3,h4,h5⟩⟩
   ·exact ⟨rfl,h1,h2⟩
   ·rw [hall i h3] at h4; cases h4
  have hdk:Hid (Gr key rs=rs):=by
   have:=acZ (key:=key) (rs:=rs) (i:=n) (by rw [Qv.out]; exact Nat.le_refl _) hall
   rw [List.take_of_length_le (by rw [Qv.out]; exact Nat.le_refl _)] at this
   exact this
  clear hIF hall hex
  go_enter Tryz.func93,Tryz.ntmps93
  go_wp2_with (go_at_call 149; refine al6.mono ?_; rintro e w1 ⟨rfl,hD1,hB1⟩; have al7:Hid (Df b w w1):=hD1; have al8:Hid (Block w1 b c el fz):=hB1; clear hD1 hB1)
  go_ret
  exact ⟨by rw [hdk.out,<-Qv.out]; rfl,al7.out,c,al8.out,rfl,by rw [hdk.out]; exact hR'.out⟩
end Go.Proofs.YtpchnmbcbcfhjaaGreat

namespace Go.Proofs
open Go Go.Shelf
def Tryz.Cg:Go.Shelf.Ren:=⟨fun | 41=>47 | n=>n,fun | 22=>24 | 23=>83 | n=>n,fun | n=>n⟩
theorem Tryz.Gs:SlLaysE0.n41 Tryz.prog Tryz.Cg where
 mixed:=by kernel_rfl
 f41:=⟨Tryz.f47.name,by kernel_rfl,Tryz.func47.trans (congrArg some (by kernel_rfl))⟩
 t4:=Tryz.underlying4
 a4:=Tryz.isAgg4
 z4:=Tryz.sizeOf4
 v4:=Tryz.zeroValue4
 t22:=Tryz.underlying24
 a22:=Tryz.isAgg24
 z22:=Tryz.sizeOf24
 v22:=Tryz.zeroValue24
end Go.Proofs
namespace Go.Proofs.YtpchnmbcbcfhjaaGreat
open Go Go.E Go.Proofs Go.RowKit Go.Lib Go.Shelf
abbrev WM:List LT:=[.sc .str,.sc .str]
def dkR (r:Ec):List T:=[.s r.1,.s r.2]
def Fit (rs:List Ec):Prop:=∀ r∈rs,r.1.size<9223372036854775808/\r.2.size<9223372036854775808
theorem ac0 {w:World} {S:aB} : ∀ {rows:List (List T)} {cs:List Value},dR w S WM rows cs->cs.length=rows.length * 2 ->
  ∃ rs:List Ec,rows=rs.map dkR/\Fit rs /\ ∀ t,t<rs.length->cs[t * 2]? = some (.string (rs.getD t default).1)/\cs[t * 2+1]? = some (.string (rs.getD t default).2)
 | [],cs,_,_=>⟨[],rfl,fun r h=>(nomatch h),fun t h=>absurd h (Nat.not_lt_zero _)⟩
 | r::rows,cs,h,hl=>by
  obtain ⟨h1,h2⟩:=h
  match cs,hl,h1,h2 with
  | [],hl,_,_=>simp at hl
  | [_],hl,_,_=>simp at hl; omega
  | a::b::cs,hl,h1,h2 =>
   obtain ⟨rs,rfl,hf,hg⟩:=ac0 (rows:=rows) (cs:=cs) h2 (by simp at hl ⊢; omega)
   match r,h1 with
   | [x,y],h1 =>
    obtain ⟨h3,h4,-⟩:=h1
    unfold aJ at h3 h4
    obtain ⟨s,rfl,rfl,hs⟩:=h3
    obtain ⟨u,rfl,rfl,hu⟩:=h4
    refine ⟨(s,u)::rs,rfl,fun r hr=>?_,fun t ht=>?_⟩
    ·rcases List.mem_cons.1 hr with rfl | hr
     ·exact ⟨hs,hu⟩
     ·exact hf r hr
    ·cases t with
     | zero=>exact ⟨rfl,rfl⟩
     | succ t =>
      have:=hg t (by simpa using ht)
      rw [show (t+1) * 2=t * 2+1+1 by omega,show t * 2+1+1+1=t * 2+1+1+1 from rfl]
      simpa using this
   | [],h1=>exact h1.elim
   | [_],h1=>exact h1.2.elim
   | _::_::_::_,h1=>exact h1.2.2.elim
theorem UO {w:World} {S:aB} : ∀ {rs:List Ec} {cs:List Value},Fit rs->(∀ t,t<rs.length->cs[t * 2]? = some (.string (rs.getD t default).1)/\cs[t * 2+1]? = some (.string (rs.getD t default).2))->dR w S WM (rs.map dkR) cs
 | [],_,_,_=>trivial
 | r::rs,cs,hf,h=>by
  obtain ⟨h0,h1⟩:=h 0 (by simp)
  match cs,h0,h1,h with
  | [],h0,_,_=>simp at h0
  | [_],_,h1,_=>simp at h1
  | a::b::cs,h0,h1,h =>
   simp at h0 h1
   subst h0 h1
   have hr:=hf r (by simp)
   refine ⟨⟨?_,?_,trivial⟩,UO (fun r h=>hf r (by simp [h])) fun t ht=>?_⟩
   ·unfold aJ; exact ⟨_,rfl,rfl,hr.1⟩
   ·unfold aJ; exact ⟨_,rfl,rfl,hr.2⟩
   ·have:=h (t+1) (by simpa using ht)
    rw [show (t+1) * 2=t * 2+1+1 by omega] at this
    simpa using this
theorem aek:(Tryz.prog.info? 83).map (fun i=>(i.zero,i.size,i.bytes))=some (some (.agg #[.string .empty,.string .empty]),2,32):=by kernel_rfl
theorem ael {w:World} {S:aB} {v:Value} {rows:List (List T)} (h:aJ w S (.sl WM) v (.l rows)) (hmr:rows.length * 2<=ak) :
  Calls Tryz.prog 47 #[v] w fun e w'=>∃ v' news,e = .returned v'/\news.length=rows.length * 2/\dR w S WM rows news/\w'.ownsRow w.heap.size 83 2 v' rows.length news/\Below w.heap.size w w':=by
 obtain ⟨i0,hi1,hz,hi2,hi5⟩:=info_parts aek
 obtain ⟨aa,cap,news,rfl,hcap,hmax,hnl,hrv,Qn⟩:=DN h
 have hone : ∀ u∈news,u.oneCell'=true:=fun u hu=>(hrv.single hnl u hu).one
 cases aa with
 | none =>
  refine (AnyE.slices_Clone_nil Tryz.Gs rows.length cap w).mono fun e w' ⟨he,hw⟩=>?_
  subst he hw
  have hr0:rows=[]:=by
   rcases Qn with h | ⟨b,o,h,-⟩
   ·exact h
   ·cases h
  subst hr0
  exact ⟨_,news,rfl,hnl,hrv,⟨by simpa using hnl,.inl ⟨rfl,rfl⟩⟩,Below.refl _ _⟩
 | some ad =>
  rcases Qn with hr0 | ⟨b,o,h,hc,-⟩
  ·subst hr0
   have hn0:news=[]:=List.length_eq_zero_iff.1 (by simpa using hnl)
   subst hn0
   refine (Qk Tryz.Gs i0 _ 2 i0.bytes hi1 hz hi2 rfl rfl (by decide) Tryz.sizeOf83 ad cap w).mono fun e w' ⟨v',he,ho,hb⟩=>?_
   exact ⟨v',[],he,rfl,trivial,ho,hb⟩
  ·cases h
   refine (AnyE.slices_Clone Tryz.Gs i0 _ 2 i0.bytes hi1 hz hi2 rfl rfl (by decide) Tryz.sizeOf83 b o rows.length cap news w hnl (by unfold maxLen; unfold bG at hmax; omega) ?_ ?_ hone).mono fun e w' ⟨v',he,ho,_,hb⟩=>?_
   ·rw [hi5]; unfold ak at hmr; omega
   ·intro j u hu
    obtain ⟨hj,rfl⟩:=List.getElem?_eq_some_iff.1 hu
    exact hc.get j hj
   ·exact ⟨v',news,he,hnl,hrv,ho,hb⟩
set_option maxHeartbeats 8000000 in
set_option maxRecDepth 1000000 in
theorem WO {kb:Nat} {w:World} : Calls Tryz.prog 149 #[.slice none 0 0,dkF kb] w fun e w'=>e = .returned (.int .i64 (-1))/\w'=w:=by
 go_enter Tryz.func149,Tryz.ntmps149
 go_wp2
 go_loopw [8] (fun vi wr=>vi = .int .i64 0/\wr=w) (fun _ _=>0)
 case atStart=>exact ⟨rfl,rfl⟩
 case round =>
  obtain ⟨rfl,rfl⟩:=hrel
  go_wp2
  go_ret
  exact ⟨rfl,rfl⟩
set_option maxHeartbeats 8000000 in
set_option maxRecDepth 1000000 in
theorem Tq {kb:Nat} {w:World} : Calls Tryz.prog 93 #[.slice none 0 0,dkF kb] w fun e w'=>e = .returned (.slice none 0 0)/\w'=w:=by
 have h:=WO (kb:=kb) (w:=w)
 go_enter Tryz.func93,Tryz.ntmps93
 go_wp2_with (go_at_call 149; refine h.mono ?_; rintro e w1 ⟨rfl,rfl⟩)
 go_ret
 exact ⟨rfl,rfl⟩
end Go.Proofs.YtpchnmbcbcfhjaaGreat

namespace Go.Proofs.YtpchnmbcbcfhjaaGreat
open Go Go.E Go.Proofs Go.RowKit Go.Lib Go.Shelf
def aj6 (w w':World) (v:Value) (rs:List Ec):Prop:=Keeps (fun k _=>k<w.heap.size) w w'/\Single v /\
 ((v = .slice none 0 0/\rs=[]) \/ ∃ b cap c el,v = .slice (some ⟨b,0,none⟩) rs.length cap/\w.heap.size<=b/\Block w' b c el (0,0)/\rs.length<=cap/\c.size=cap * 2/\RowsIn c rs)
set_option maxHeartbeats 8000000 in
set_option maxRecDepth 1000000 in
theorem al9 {w:World} {S:aB} {v:Value} {rows:List (List T)} {key:ByteArray} (h:aJ w S (.sl WM) v (.l rows)) (hS : ∀ b o,S b o->∃ v,cellAt w b o=some v) (hmr:rows.length * 2<=ak) :
  Calls Tryz.prog 49 #[v,.string key] w fun e w'=>∃ v' rs,e = .returned v'/\rows=rs.map dkR/\Fit rs/\aj6 w w' v' (Gr key rs):=by
 obtain ⟨w1,hw1⟩ : ∃ w1,w1=w.alloc (Obj.cells #[.string key] 9):=⟨_,rfl⟩
 have hk1:Keeps (fun _ _=>True) w w1:=by rw [hw1]; exact qz _ _
 have h1:aJ w1 S (.sl WM) v (.l rows):=aJ.mono (fun _ _ h=>h) (fun b o hb=>hk1.cell trivial (hS b o hb)) _ h
 have hcl:=ael h1 hmr
 have hsz:w1.heap.size=w.heap.size+1:=by rw [hw1]; simp
 have hkc:w1.cell? ⟨w.heap.size,0,none⟩=some (.string key):=by
  rw [hw1,cellP (Ba (c:=#[.string key]) (t:=9))]; rfl
 obtain ⟨aa,n,cap,hvv⟩ : ∃ aa n cap,v = .slice aa n cap:=by
  obtain ⟨aa,cap,news,rfl,-⟩:=DN h
  exact ⟨_,_,_,rfl⟩
 have hW:Hid (w1=w.alloc (Obj.cells #[.string key] 9)):=hw1
 have hK:Hid (Keeps (fun _ _=>True) w w1):=hk1
 have hdel : ∀ (v':Value) (news:List Value) (w2:World),news.length=rows.length * 2->dR w1 S WM rows news->w2.ownsRow w1.heap.size 83 2 v' rows.length news->Below w1.heap.size w1 w2 ->
   Calls Tryz.prog 93 #[v',dkF w.heap.size] w2 fun e w'=>∃ v3 rs,e = .returned v3/\rows=rs.map dkR/\Fit rs/\aj6 w w' v3 (Gr key rs):=by
  intro v' news w2 hnl hrv ho hb
  obtain ⟨rs,hrs,hfit,hcells⟩:=ac0 hrv hnl
  have hk2:Keeps (fun _ _=>True) w1 w2:=A8 hb _
  have hlen:rows.length=rs.length:=by rw [hrs]; simp
  obtain ⟨hl,⟨rfl,h0⟩ | ⟨g,cap,cur,rfl,hgb,hg,hc,hcm,hcs,ht⟩⟩:=ho
  ·have hr0:rs=[]:=List.length_eq_zero_iff.1 (by rw [<-hlen]; exact h0)
   subst hr0
   refine (Tq (kb:=w.heap.size) (w:=w2)).mono ?_
   rintro e w' ⟨rfl,rfl⟩
   exact ⟨_,[],rfl,hrs,hfit,(Keeps.trans (fun _ _ h=>h) (hk1.weaken fun _ _ _=>trivial) (hk2.weaken fun _ _ _=>trivial)),⟨fun _ h=>(nomatch h),fun _ h=>(nomatch h)⟩,.inl ⟨rfl,rfl⟩⟩
  ·have hR:RowsIn cur rs:=by
    intro t ht'
    obtain ⟨g1,g2⟩:=hcells t ht'
    rw [<-ht,List.getElem?_take] at g1 g2
    rw [if_pos (by omega)] at g1 g2
    exact ⟨by simpa using g1,by simpa using g2⟩
   rw [hlen]
   refine (aej (cap:=cap) (kb:=w.heap.size) (key:=key) hg hR (by unfold ak at hmr; omega) hcs (by omega) (fun o _=>by simp) ((Keeps.cell hk2 trivial ⟨_,hkc⟩).trans hkc) (by omega)).mono ?_
   rintro e w' ⟨rfl,hD,c',hB,hs,hR'⟩
   have hle:(Gr key rs).length<=rs.length:=List.length_filter_le _ _
   refine ⟨_,rs,rfl,hrs,hfit,(Keeps.trans (J:=fun k _=>k<w.heap.size) (fun _ _ h=>h) (hk1.weaken fun _ _ _=>trivial) (Keeps.trans (J:=fun k _=>k<w.heap.size) (fun _ _ h=>h) (hk2.weaken fun _ _ _=>trivial) (Keeps.weaken hD fun b' o (hb':b'<w.heap.size)=>by omega))),⟨fun _ h=>(nomatch h),fun _ h=>(nomatch h)⟩,.inr ⟨g,cap,c',83,rfl,by omega,hB,by omega,by rw [hs,hcs],hR'⟩⟩
 rw [hw1] at hcl
 clear h1 hkc hk1 h hS
 subst hvv
 go_enter Tryz.func49,Tryz.ntmps49
 go_wp2_with (first
  | (go_at_call 47; refine hcl.mono ?_; rintro e w2 ⟨v',news,rfl,g1,g2,g3,g4⟩; rw [<-hW.out] at g2 g3 g4; have hd:=hdel v' news w2 g1 g2 g3 g4; clear g1 g2 g3 g4)
  | (go_at_call 93; refine hd.mono ?_; rintro e w3 ⟨v3,rs,rfl,q1,q2,q3⟩))
 go_ret
 exact ⟨v3,rs,rfl,q1,q2,q3⟩
end Go.Proofs.YtpchnmbcbcfhjaaGreat

namespace Go.Proofs.YtpchnmbcbcfhjaaGreat
open Go Go.E Go.Proofs Go.RowKit Go.Lib Go.Shelf
def Bb (rows:List (List T)) (d:T):List (List T):=rows.filter fun r=>!((r.getD 0 dflt).str.toList==d.str.toList)
def zF:List Arg->R3 fV
 | [.one (.dz es rows),.one (.sc .str d)]=>cond (LT.eH WM es) (cond (decide (rows.length * 2<=ak)) (.ok ⟨[.one (.own [7000000] WM [.F,.F] (Bb rows d))],[[none],[none]],[]⟩) .bad) .bad
 | [.one (.fz es rows),.one (.sc .str d)]=>cond (LT.eH WM es) (cond (decide (rows.length * 2<=ak)) (.ok ⟨[.one (.own [7000000] WM [.F,.F] (Bb rows d))],[[none],[none]],[]⟩) .bad) .bad
 | _=>.bad
theorem YH (rs:List Ec) (key:ByteArray):Bb (rs.map dkR) (.s key)=(Gr key rs).map dkR:=by
 unfold Bb Gr
 rw [List.filter_map]
 rfl
theorem Tt {args:List Arg} (h:zF args ≠ .bad):Nv Tryz.prog 49 args (zF args):=by
 have main : ∀ (S:aB) (arg:Arg) (rows:List (List T)) (d:T) (g0:Gh) (I A:aB) (w:World) (vs:Array Value),Pre g0 I A [arg,.one (.sc .str d)] w vs->(∀ v,Ti g0 w I 0 arg v->aJ w S (.sl WM) v (.l rows))->(∀ b o,S b o->I b o\/A b o) ->
   rows.length * 2<=ak ->
   Calls Tryz.prog 49 vs w fun
    | .returned v,w'=>∃ ret g' I',R3.ok (⟨[.one (.own [7000000] WM [.F,.F] (Bb rows d))],[[none],[none]],[]⟩:fV) = .ok ret/\JL g0 I A [arg,.one (.sc .str d)] w ret g' I' w' v
    | .panicked _,_=>False
    | .outgrown,_=>False:=by
  intro S arg rows d g0 I A w vs hp hv hS hmr
  obtain ⟨v,v2,rfl,hav,h2⟩ : ∃ v v2,vs = #[v,v2]/\Ti g0 w I 0 arg v/\Ms .str v2 d:=by
   have hrel:=hp.rel
   match hl:vs.toList,hrel with
   | [v,v2],hrel=>exact ⟨v,v2,Array.toList_inj.1 (by simpa using hl),hrel.1,hrel.2.1⟩
   | [],hrel=>exact hrel.elim
   | [_],hrel=>exact hrel.2.elim
   | _::_::_::_,hrel=>exact hrel.2.2.elim
  obtain ⟨key,rfl,rfl,-⟩:=h2
  have hcell : ∀ b o,I b o\/A b o->∃ v,cellAt w b o=some v:=fun b o h=>h.elim (hp.zu b o) (hp.awf b o)
  refine (al9 (key:=key) (hv v hav) (fun b o h=>hcell b o (hS b o h)) hmr).mono ?_
  rintro e w' ⟨v',rs,rfl,rfl,hfit,hk,hs,hout⟩
  rw [YH]
  have hk':Keeps (fun b o=>I b o\/A b o) w w':=hk.weaken fun b o h=>nO (hcell b o h)
  have hno : ∀ a b,lI ⟨[.one (.own [7000000] WM [.F,.F] ((Gr key rs).map dkR))],[[none],[none]],[]⟩ a b=none:=fun a b=>by
   unfold lI
   match a,b with
   | 0,0=>rfl
   | 0,j+1=>rfl
   | 1,0=>rfl
   | 1,j+1=>rfl
   | a+2,j=>rfl
  rcases hout with ⟨rfl,hr⟩ | ⟨b,cap,c,el,rfl,hbw,hB,hcap,hsz,hR⟩
  ·rw [hr]
   rw [hr] at hno
   exact ⟨_,_,I,rfl,Ke hno hp hk' (aV.nil (F:=fun _ _=>False) (by simp) fun _ _ h=>h) (fun _ _ h=>h.elim) (fun _ _ h=>h.elim) hs⟩
  ·have aoM:Fit (Gr key rs):=fun r hr=>hfit r (List.mem_filter.1 hr).1
   have hV:dR w' I WM ((Gr key rs).map dkR) c.toList:=UO aoM fun t ht=>by
    have:=hR t ht
    exact ⟨by simpa using this.1,by simpa using this.2⟩
   have hle:(Gr key rs).length<=rs.length:=List.length_filter_le _ _
   have hrow:aV w' I WM [.F,.F] ((Gr key rs).map dkR) (.slice (some ⟨b,0,none⟩) (Gr key rs).length cap) (fun b' o=>b'=b/\o<c.size):=by
    have:=aV.mk' (w:=w') (I:=I) (es:=WM) (ms:=[.F,.F]) (rows:=(Gr key rs).map dkR) (F:=fun b' o=>b'=b/\o<c.size) (b:=b) (cap:=cap) (c:=c) (el:=el) (fz:=(0,0)) (bs:=[]) (by simp)
     (by rw [List.length_map]; unfold bG; rw [List.length_map] at hmr; unfold ak at hmr; omega) (by rw [List.length_map]; exact hcap) hB hsz (fun o _=>by simp) (hV.toM (fun m hm x=>by simp at hm; rw [hm]; exact fun h=>nomatch h))
     ⟨fun h=>(nomatch h),trivial⟩ (fun b' o=>⟨.inl,fun h=>h.elim (fun h=>h) fun h=>(nomatch h.1)⟩)
    rw [List.length_map] at this
    exact this
   refine ⟨_,_,I,rfl,Ke hno hp hk' hrow (fun b' o h1 h2=>?_) (fun b' o h1 h2=>?_) hs⟩
   ·have:=nO (hp.zu b' o h2); have:=h1.1; omega
   ·have:=nO (hp.awf b' o h2); have:=h1.1; omega
 unfold zF at h ⊢
 split at h
 ·rename_i es rows d
  cases hc:LT.eH WM es with
  | false=>rw [hc] at h; exact absurd rfl h
  | true =>
   cases hm:decide (rows.length * 2<=ak) with
   | false=>rw [hc,hm] at h; exact absurd rfl h
   | true =>
    have:=LT.bP hc
    subst this
    intro g0 I A w vs hp
    exact main (ID g0 I) _ rows d g0 I A w vs hp (fun v hv=>hv) (fun b o h=>h.elim .inl fun h=>.inr (hp.da b o h)) (of_decide_eq_true hm)
 ·rename_i es rows d
  cases hc:LT.eH WM es with
  | false=>rw [hc] at h; exact absurd rfl h
  | true =>
   cases hm:decide (rows.length * 2<=ak) with
   | false=>rw [hc,hm] at h; exact absurd rfl h
   | true =>
    have:=LT.bP hc
    subst this
    intro g0 I A w vs hp
    exact main I _ rows d g0 I A w vs hp (fun v hv=>hv) (fun b o h=>.inl h) (of_decide_eq_true hm)
 ·exact absurd rfl h
end Go.Proofs.YtpchnmbcbcfhjaaGreat

namespace Go.Proofs.YtpchnmbcbcfhjaaGreat
open Go Go.E Go.Proofs Go.RowKit Go.Lib Go.Shelf
theorem ags:(Tryz.prog.info? 104).map (fun i=>(i.zero,i.size,i.bytes))=some (some (.agg #[.int .i64 0,.int .i64 0,.slice none 0 0]),3,40):=by kernel_rfl
set_option maxHeartbeats 8000000 in
set_option maxRecDepth 1000000 in
theorem agt {b n cap i j:Nat} {c:Array Value} {el:TypeId} {fz:Nat×Nat} {w:World} (hB:Block w b c el fz) (hsz:c.size=cap * 3) (hfz : ∀ o,o<=c.size->¬ (fz.1<=o/\o<fz.2)) (hS : ∀ v∈c.toList.take (n * 3),Single v)
  (hij:i<j) (hjn:j<=n) (hnc:n<=cap) (hmax:n<=9223372036854775807) :
  Calls Tryz.prog 184 #[.slice (some ⟨b,0,none⟩) n cap,.int .i64 i,.int .i64 j] w fun e w'=>e = .returned (.slice (some ⟨b,0,none⟩) (n-(j-i)) cap) /\ ∃ c' q,w'=(World.put w b c' el fz).drewN q/\c'.size=c.size /\
   c'.toList.take ((n-(j-i)) * 3)=c.toList.take (i * 3)++(c.toList.take (n * 3)).drop (j * 3):=by
 have mixed:Tryz.prog.follows .mixedOrders=true:=by kernel_rfl
 obtain ⟨i0,hi0,hz0,hzs,hzb⟩:=info_parts ags
 obtain ⟨cs,hcs⟩ : ∃ cs,cs=(c.toList.take (n * 3)).drop (j * 3):=⟨_,rfl⟩
 have hcl:cs.length=(n-j) * 3:=by rw [hcs,List.length_drop,List.length_take]; simp; omega
 have hSc : ∀ v∈cs,Single v:=fun v hv=>hS v (by rw [hcs] at hv; exact List.mem_of_mem_drop hv)
 obtain ⟨A,hA,agu⟩ : ∃ A:Addr,(if cap=j then some (⟨b,0,none⟩:Addr) else some ⟨b,j * 3,none⟩)=some A/\(∀ t u,cs[t]? = some u->w.drew.cell? (A.add t)=some u):=by
  by_cases h:cap=j
  ·refine ⟨⟨b,0,none⟩,by simp [h],fun t u hu=>?_⟩
   have h0:cs.length=0:=by rw [hcl]; omega
   rw [List.length_eq_zero_iff.1 h0] at hu
   simp at hu
  ·refine ⟨⟨b,j * 3,none⟩,by simp [h],fun t u hj=>?_⟩
   rw [Go.E.addr_add,cellP (w:=w.drew) hB]
   rw [hcs,List.getElem?_drop,List.getElem?_take] at hj
   split at hj
   ·simpa using hj
   ·cases hj
 obtain ⟨c1,hc1⟩ : ∃ c1,c1=(c.toList.take (i * 3)++cs++c.toList.drop (i * 3+cs.length)).toArray:=⟨_,rfl⟩
 have Ny:c1.size=c.size:=by rw [hc1]; simp; omega
 have hBd:Block w.drew b c el fz:=hB
 have hsrc:Src Tryz.prog 3 53 (.slice (some A) (n-j) (cap-j)) (n-j) cs w.drew:=Src.ofSlice w.drew Tryz.underlying53 A (n-j) (cap-j) cs hcl agu (fun v h=>(hSc v h).one)
 have hap : ∀ ty,(Builtin.append_ #[53,53] ty #[.slice (some ⟨b,0,none⟩) i cap,.slice (some A) (n-j) (cap-j)]).run Tryz.prog w.drew = .ok (.slice (some ⟨b,0,none⟩) (i+(n-j)) cap) (World.put w.drew b c1 el fz):=fun ty=>by
  rw [hc1]
  exact Eb Tryz.underlying53 hi0 hzs hsrc (by omega) hBd (by omega) hSc hfz
 obtain ⟨W1,hW1⟩ : ∃ W1,W1=World.put w.drew b c1 el fz:=⟨_,rfl⟩
 have hB1:Block W1 b c1 el fz:=by rw [hW1]; exact kI hBd
 obtain ⟨zs,hzs'⟩ : ∃ zs,zs=(Builtin.zeroCells ((.agg #[.int .i64 0,.int .i64 0,.slice none 0 0]):Value).cells (n-(i+(n-j)))).toList:=⟨_,rfl⟩
 have hzk:(((.agg #[.int .i64 0,.int .i64 0,.slice none 0 0]):Value).cells).size=3:=rfl
 have hzl:zs.length=(n-(i+(n-j))) * 3:=by rw [hzs',Array.length_toList,size_zeroCells,hzk]
 obtain ⟨c2,hc2⟩ : ∃ c2,c2=(c1.toList.take ((i+(n-j)) * 3)++zs++c1.toList.drop ((i+(n-j)) * 3+(n-(i+(n-j))) * 3)).toArray:=⟨_,rfl⟩
 have hzS : ∀ v∈[.int .i64 0,.int .i64 0,.slice none 0 0],Single v:=by
  repeat (refine List.forall_mem_cons.2 ⟨⟨fun _ h=>(nomatch h),fun _ h=>(nomatch h)⟩,?_⟩)
  exact fun v hv=>(nomatch hv)
 have ark : ∀ ty,(Builtin.clear_ #[53] ty #[.slice (some ⟨b,(i+(n-j)) * 3,none⟩) (n-(i+(n-j))) (cap-(i+(n-j)))]).run Tryz.prog W1 = .ok (.tuple #[]) (World.put W1 b c2 el fz):=fun ty=>by
  have:=IE (P:=Tryz.prog) Tryz.underlying53 Tryz.zeroValue104 rfl ty (o:=(i+(n-j)) * 3) (n:=n-(i+(n-j))) (cap:=cap-(i+(n-j))) hB1 (by omega) (by rw [hzk,Ny]; omega) (by rw [Ny]; exact hfz)
   (fun v hv=>hzS v (Array.mem_toList_iff.2 hv))
  rw [hzk,<-hzs',<-hc2] at this
  exact this
 rw [<-hW1] at hap
 have HW1:Hid (W1=World.put w.drew b c1 el fz):=hW1
 have hin1:=YD c.toList cs zs (i * 3) (by rw [hcl]; simp; omega)
 have eim:(i+(n-j)) * 3=i * 3+cs.length:=by rw [hcl,Nat.add_mul]
 have HL:Hid (c2.toList.take ((n-(j-i)) * 3)=c.toList.take (i * 3)++cs):=by
  show c2.toList.take ((n-(j-i)) * 3)=c.toList.take (i * 3)++cs
  rw [<-hin1,hc2,hc1,<-hzl,eim]
  congr 1
  omega
 have HS2:Hid (c2.size=c.size):=by
  show c2.size=c.size
  rw [hc2,<-Ny]; simp; omega
 have HCS:Hid (cs=(c.toList.take (n * 3)).drop (j * 3)):=hcs
 have hlt1 : ¬ ((i:Int)=(j:Int)):=by omega
 have hic:i<=cap:=by omega
 have hjc:j<=cap:=by omega
 clear hW1 hc1 hc2 hcs eim hin1 hzs'
 go_enter Tryz.func184,Tryz.ntmps184
 go_wp2_with fail
 go_region_law_o (refine CQ rfl _ _ 53 53 rfl _ _ (by simp [Act.eval,Act.put]) (by simp [Act.eval,Act.put]) (hap _) ?_)
 go_wp2
 go_ret
 refine ⟨by rw [show n-(j-i)=i+(n-j) by omega]; rfl,c2,1,?_,HS2.out,?_⟩
 ·rw [HW1.out,Kc]; rfl
 ·rw [<-HCS.out]; exact HL.out
end Go.Proofs.YtpchnmbcbcfhjaaGreat

namespace Go.Proofs.YtpchnmbcbcfhjaaGreat
open Go Go.E Go.Proofs Go.RowKit Go.Lib Go.Shelf
theorem aem:(Tryz.prog.info? 63).map (fun i=>(i.zero,i.size,i.bytes))=some (some (.agg #[.int .i64 0,.int .i64 0,.int .i64 0,.slice none 0 0,.bool false]),5,56):=by kernel_rfl
set_option maxHeartbeats 8000000 in
set_option maxRecDepth 1000000 in
theorem aen {b n cap i j:Nat} {c:Array Value} {el:TypeId} {fz:Nat×Nat} {w:World} (hB:Block w b c el fz) (hsz:c.size=cap * 5) (hfz : ∀ o,o<=c.size->¬ (fz.1<=o/\o<fz.2)) (hS : ∀ v∈c.toList.take (n * 5),Single v)
  (hij:i<j) (hjn:j<=n) (hnc:n<=cap) (hmax:n<=9223372036854775807) :
  Calls Tryz.prog 131 #[.slice (some ⟨b,0,none⟩) n cap,.int .i64 i,.int .i64 j] w fun e w'=>e = .returned (.slice (some ⟨b,0,none⟩) (n-(j-i)) cap) /\ ∃ c' q,w'=(World.put w b c' el fz).drewN q/\c'.size=c.size /\
   c'.toList.take ((n-(j-i)) * 5)=c.toList.take (i * 5)++(c.toList.take (n * 5)).drop (j * 5):=by
 have mixed:Tryz.prog.follows .mixedOrders=true:=by kernel_rfl
 obtain ⟨i0,hi0,hz0,hzs,hzb⟩:=info_parts aem
 obtain ⟨cs,hcs⟩ : ∃ cs,cs=(c.toList.take (n * 5)).drop (j * 5):=⟨_,rfl⟩
 have hcl:cs.length=(n-j) * 5:=by rw [hcs,List.length_drop,List.length_take]; simp; omega
 have hSc : ∀ v∈cs,Single v:=fun v hv=>hS v (by rw [hcs] at hv; exact List.mem_of_mem_drop hv)
 obtain ⟨A,hA,agu⟩ : ∃ A:Addr,(if cap=j then some (⟨b,0,none⟩:Addr) else some ⟨b,j * 5,none⟩)=some A/\(∀ t u,cs[t]? = some u->w.drew.cell? (A.add t)=some u):=by
  by_cases h:cap=j
  ·refine ⟨⟨b,0,none⟩,by simp [h],fun t u hu=>?_⟩
   have h0:cs.length=0:=by rw [hcl]; omega
   rw [List.length_eq_zero_iff.1 h0] at hu
   simp at hu
  ·refine ⟨⟨b,j * 5,none⟩,by simp [h],fun t u hj=>?_⟩
   rw [Go.E.addr_add,cellP (w:=w.drew) hB]
   rw [hcs,List.getElem?_drop,List.getElem?_take] at hj
   split at hj
   ·simpa using hj
   ·cases hj
 obtain ⟨c1,hc1⟩ : ∃ c1,c1=(c.toList.take (i * 5)++cs++c.toList.drop (i * 5+cs.length)).toArray:=⟨_,rfl⟩
 have Ny:c1.size=c.size:=by rw [hc1]; simp; omega
 have hBd:Block w.drew b c el fz:=hB
 have hsrc:Src Tryz.prog 5 34 (.slice (some A) (n-j) (cap-j)) (n-j) cs w.drew:=Src.ofSlice w.drew Tryz.underlying34 A (n-j) (cap-j) cs hcl agu (fun v h=>(hSc v h).one)
 have hap : ∀ ty,(Builtin.append_ #[34,34] ty #[.slice (some ⟨b,0,none⟩) i cap,.slice (some A) (n-j) (cap-j)]).run Tryz.prog w.drew = .ok (.slice (some ⟨b,0,none⟩) (i+(n-j)) cap) (World.put w.drew b c1 el fz):=fun ty=>by
  rw [hc1]
  exact Eb Tryz.underlying34 hi0 hzs hsrc (by omega) hBd (by omega) hSc hfz
 obtain ⟨W1,hW1⟩ : ∃ W1,W1=World.put w.drew b c1 el fz:=⟨_,rfl⟩
 have hB1:Block W1 b c1 el fz:=by rw [hW1]; exact kI hBd
 obtain ⟨zs,hzs'⟩ : ∃ zs,zs=(Builtin.zeroCells ((.agg #[.int .i64 0,.int .i64 0,.int .i64 0,.slice none 0 0,.bool false]):Value).cells (n-(i+(n-j)))).toList:=⟨_,rfl⟩
 have hzk:(((.agg #[.int .i64 0,.int .i64 0,.int .i64 0,.slice none 0 0,.bool false]):Value).cells).size=5:=rfl
 have hzl:zs.length=(n-(i+(n-j))) * 5:=by rw [hzs',Array.length_toList,size_zeroCells,hzk]
 obtain ⟨c2,hc2⟩ : ∃ c2,c2=(c1.toList.take ((i+(n-j)) * 5)++zs++c1.toList.drop ((i+(n-j)) * 5+(n-(i+(n-j))) * 5)).toArray:=⟨_,rfl⟩
 have hzS : ∀ v∈[.int .i64 0,.int .i64 0,.int .i64 0,.slice none 0 0,.bool false],Single v:=by
  repeat (refine List.forall_mem_cons.2 ⟨⟨fun _ h=>(nomatch h),fun _ h=>(nomatch h)⟩,?_⟩)
  exact fun v hv=>(nomatch hv)
 have ark : ∀ ty,(Builtin.clear_ #[34] ty #[.slice (some ⟨b,(i+(n-j)) * 5,none⟩) (n-(i+(n-j))) (cap-(i+(n-j)))]).run Tryz.prog W1 = .ok (.tuple #[]) (World.put W1 b c2 el fz):=fun ty=>by
  have:=IE (P:=Tryz.prog) Tryz.underlying34 Tryz.zeroValue63 rfl ty (o:=(i+(n-j)) * 5) (n:=n-(i+(n-j))) (cap:=cap-(i+(n-j))) hB1 (by omega) (by rw [hzk,Ny]; omega) (by rw [Ny]; exact hfz)
   (fun v hv=>hzS v (Array.mem_toList_iff.2 hv))
  rw [hzk,<-hzs',<-hc2] at this
  exact this
 rw [<-hW1] at hap
 have HW1:Hid (W1=World.put w.drew b c1 el fz):=hW1
 have hin1:=YD c.toList cs zs (i * 5) (by rw [hcl]; simp; omega)
 have eim:(i+(n-j)) * 5=i * 5+cs.length:=by rw [hcl,Nat.add_mul]
 have HL:Hid (c2.toList.take ((n-(j-i)) * 5)=c.toList.take (i * 5)++cs):=by
  show c2.toList.take ((n-(j-i)) * 5)=c.toList.take (i * 5)++cs
  rw [<-hin1,hc2,hc1,<-hzl,eim]
  congr 1
  omega
 have HS2:Hid (c2.size=c.size):=by
  show c2.size=c.size
  rw [hc2,<-Ny]; simp; omega
 have HCS:Hid (cs=(c.toList.take (n * 5)).drop (j * 5)):=hcs
 have hlt1 : ¬ ((i:Int)=(j:Int)):=by omega
 have hic:i<=cap:=by omega
 have hjc:j<=cap:=by omega
 clear hW1 hc1 hc2 hcs eim hin1 hzs'
 go_enter Tryz.func131,Tryz.ntmps131
 go_wp2_with fail
 go_region_law_o (refine CQ rfl _ _ 34 34 rfl _ _ (by simp [Act.eval,Act.put]) (by simp [Act.eval,Act.put]) (hap _) ?_)
 go_wp2
 go_ret
 refine ⟨by rw [show n-(j-i)=i+(n-j) by omega]; rfl,c2,1,?_,HS2.out,?_⟩
 ·rw [HW1.out,Kc]; rfl
 ·rw [<-HCS.out]; exact HL.out
end Go.Proofs.YtpchnmbcbcfhjaaGreat

namespace Go.Proofs.YtpchnmbcbcfhjaaGreat
open Go Go.E Go.Proofs Go.RowKit Go.Lib Go.Shelf
theorem Kg:(Tryz.prog.info? 83).map (fun i=>(i.zero,i.size,i.bytes))=some (some (.agg #[.string ⟨#[]⟩,.string ⟨#[]⟩]),2,32):=by kernel_rfl
set_option maxHeartbeats 8000000 in
set_option maxRecDepth 1000000 in
theorem aeo {b n cap i vb vo m vc:Nat} {c:Array Value} {el:TypeId} {fz:Nat×Nat} {vs:List Value} {cv:Array Value} {MW:TypeId} {fv:Nat×Nat} {w:World} (hB:Block w b c el fz) (hsz:c.size=cap * 2) (hfz : ∀ o,o<=c.size->¬ (fz.1<=o/\o<fz.2)) (hS : ∀ v∈c.toList.take (n * 2),Single v)
  (XJ:Block w vb cv MW fv) (hfv : ∀ o,o<=cv.size->¬ (fv.1<=o/\o<fv.2)) (hvb:vb≠b) (hvl:vs.length=m * 2) (hcv:cv.size=vc * 2) (hmv:m<=vc) (hv:cv.toList.take (m * 2)=vs) (hSv : ∀ v∈vs,Single v) (hi:i<n) (hm:0<m) (hroom:n+m<=cap) (hmax:n+m<=9223372036854775807) :
  Calls Tryz.prog 92 #[.slice (some ⟨b,0,none⟩) n cap,.int .i64 i,.slice (some ⟨vb,0,none⟩) m vc] w fun e w'=>e = .returned (.slice (some ⟨b,0,none⟩) (n+m) cap) /\ ∃ c' q,w'=(World.put w b c' el fz).drewN q/\c'.size=c.size /\
   c'.toList.take ((n+m) * 2)=c.toList.take (i * 2)++vs++(c.toList.take (n * 2)).drop (i * 2):=by
 have mixed:Tryz.prog.follows .mixedOrders=true:=by kernel_rfl
 obtain ⟨i0,hi0,hz0,hzs,hzb⟩:=info_parts Kg
 have Qw:(Tryz.prog.info? 83).map (·.size)=some 2:=by rw [hi0]; simp [hzs]
 have hz1 : ¬ ((m:Int)=0):=by omega
 have hz2 : ¬ ((i:Int)=(n:Int)):=by omega
 have hw1:IntKind.i64.wrap ((i:Int)+(m:Int))=(i:Int)+(m:Int):=by rw [IntKind.wrap_i64]; omega
 have hb1:(0:Int)<=(i:Int)+(m:Int):=by omega
 have hin:i<=n:=by omega
 have htn:((i:Int)+(m:Int)).toNat=i+m:=by omega
 have hb2 : ¬ (cap=i+m):=by omega
 have hb3:(i:Int)<=(n:Int)+(m:Int):=by omega
 have hb4 : ¬ (cap=i):=by omega
 have hov : ∀ lb cb,(callFunc 151 #[.slice (some ⟨vb,0,none⟩) m vc,.slice (some ⟨b,(i+m) * 2,none⟩) lb cb]).run Tryz.prog w = .ok (.value (.bool false)) w:=fun lb cb=>by
  rw [run_callFunc_extern Tryz.func151 (by kernel_rfl) (by kernel_rfl) (by kernel_rfl) (e:=Extern.SlicesOverlaps.overlaps #[24,24] #[4]) (by kernel_rfl),
   Lib.run_overlaps_apart w 24 4 83 Tryz.underlying24 2 Tryz.sizeOf83 ⟨vb,0,none⟩ ⟨b,(i+m) * 2,none⟩ m vc lb cb hvb MW el cv.size c.size (by unfold World.shape?; rw [XJ]) (by unfold World.shape?; rw [hB]) (by omega)
    (by unfold World.frozen?; rw [show w.heap[({ block:=vb,off:=0 } : Addr).block]? = some (.cells cv MW fv) from XJ]; have:=hfv 0 (by omega); simp only [Bool.and_eq_false_iff,decide_eq_false_iff_not]; omega)
    (by unfold World.frozen?; rw [show w.heap[({ block:=vb,off:=cv.size } : Addr).block]? = some (.cells cv MW fv) from XJ]; have:=hfv cv.size (by omega); simp only [Bool.and_eq_false_iff,decide_eq_false_iff_not]; omega)]
  rfl
 obtain ⟨cs,hcs⟩ : ∃ cs,cs=(c.toList.take (n * 2)).drop (i * 2):=⟨_,rfl⟩
 have hcl:cs.length=(n-i) * 2:=by rw [hcs,List.length_drop,List.length_take]; simp; omega
 have hcg : ∀ (W:World),Block W b c el fz->∀ j v,cs[j]? = some v->W.cell? ((⟨b,i * 2,none⟩:Addr).add j)=some v:=fun W hW j v hj=>by
  rw [Go.E.addr_add,cellP hW]
  rw [hcs,List.getElem?_drop,List.getElem?_take] at hj
  split at hj
  ·simpa using hj
  ·cases hj
 have hSc : ∀ v∈cs,Single v:=fun v hv=>hS v (by rw [hcs] at hv; exact List.mem_of_mem_drop hv)
 obtain ⟨c1,hc1⟩ : ∃ c1,c1=(c.toList.take ((i+m) * 2)++cs++c.toList.drop ((i+m) * 2+cs.length)).toArray:=⟨_,rfl⟩
 have Ny:c1.size=c.size:=by rw [hc1]; simp; omega
 have hBd:Block w.drew b c el fz:=hB
 have hcp1 : ∀ ty dc sc,(Builtin.copy_ #[24,24] ty #[.slice (some ⟨b,(i+m) * 2,none⟩) (n+m-(i+m)) dc,.slice (some ⟨b,i * 2,none⟩) (n+m-i) sc]).run Tryz.prog w.drew = .ok (goInt ((Nat.min (n+m-i) (n+m-(i+m)):Nat):Int)) (World.put w.drew b c1 el fz):=fun ty dc sc=>by
  rw [hc1]
  exact Gq Tryz.underlying24 Qw hBd (by rw [hcl]; congr 1; omega) (hcg w.drew hBd) (by omega) hfz hSc
 obtain ⟨W1,hW1⟩ : ∃ W1,W1=World.put w.drew b c1 el fz:=⟨_,rfl⟩
 have hB1:Block W1 b c1 el fz:=by rw [hW1]; exact kI hBd
 obtain ⟨c2,hc2⟩ : ∃ c2,c2=(c1.toList.take (i * 2)++vs++c1.toList.drop (i * 2+vs.length)).toArray:=⟨_,rfl⟩
 have hvg : ∀ (W:World),Block W vb cv MW fv->∀ j v,vs[j]? = some v->W.cell? ((⟨vb,0,none⟩:Addr).add j)=some v:=fun W hW j v hj=>by
  rw [Go.E.addr_add,cellP hW,Nat.zero_add]
  rw [<-hv,List.getElem?_take] at hj
  split at hj
  ·simpa using hj
  ·cases hj
 have hcp2 : ∀ (W:World),Block W b c1 el fz->Block W vb cv MW fv->∀ ty dc,(Builtin.copy_ #[24,24] ty #[.slice (some ⟨b,i * 2,none⟩) (n+m-i) dc,.slice (some ⟨vb,0,none⟩) m vc]).run Tryz.prog W = .ok (goInt ((Nat.min m (n+m-i):Nat):Int)) (World.put W b c2 el fz):=fun W h1 h2 ty dc=>by
  rw [hc2]
  exact Gq Tryz.underlying24 Qw h1 (by rw [hvl]; congr 1; omega) (hvg W h2) (by omega) (by rw [Ny]; exact hfz) hSv
 rw [<-hW1] at hcp1
 have HW1:Hid (W1=World.put w.drew b c1 el fz):=hW1
 have hin1:=agj c.toList cs vs (i * 2) (by rw [hcl,hvl]; simp; omega)
 have eim:(i+m) * 2=i * 2+vs.length:=by rw [hvl,Nat.add_mul]
 rw [eim] at hc1
 have HL:Hid (c2.toList.take ((n+m) * 2)=c.toList.take (i * 2)++vs++cs):=by
  show c2.toList.take ((n+m) * 2)=c.toList.take (i * 2)++vs++cs
  rw [<-hin1,hc2,hc1]
  congr 1
  omega
 have HS2:Hid (c2.size=c.size):=by
  show c2.size=c.size
  rw [hc2,<-Ny]; simp; omega
 have HCS:Hid (cs=(c.toList.take (n * 2)).drop (i * 2)):=hcs
 have arl:Block W1 vb cv MW fv:=by rw [hW1]; exact UJ XJ hvb
 clear hW1 hc1 hc2 hcs eim hin1 hv
 go_enter Tryz.func92,Tryz.ntmps92
 go_wp2_with (simp only [hov])
 go_region_law_o (refine step_copy_runI rfl _ _ 24 24 rfl _ _ (by simp [Act.eval,Act.put]) (by simp [Act.eval,Act.put]) (hcp1 _ _ _) ?_)
 go_wp2_with (at_builtin; refine wpList_copy_runI _ rfl _ _ 24 24 rfl _ _ rfl rfl (hcp2 _ hB1 arl _ _) ?_)
 go_ret
 refine ⟨rfl,c2,1,?_,HS2.out,?_⟩
 ·rw [HW1.out,Kc]; rfl
 ·rw [<-HCS.out]; exact HL.out
set_option maxHeartbeats 8000000 in
set_option maxRecDepth 1000000 in
theorem WQ {b n cap vb m vc:Nat} {c:Array Value} {el:TypeId} {fz:Nat×Nat} {vs:List Value} {cv:Array Value} {MW:TypeId} {fv:Nat×Nat} {w:World} (hB:Block w b c el fz) (hsz:c.size=cap * 2) (hfz : ∀ o,o<=c.size->¬ (fz.1<=o/\o<fz.2))
  (XJ:Block w vb cv MW fv) (hvl:vs.length=m * 2) (hv:cv.toList.take (m * 2)=vs) (hSv : ∀ v∈vs,Single v) (hm:0<m) (hroom:n+m<=cap) (hmax:n+m<=9223372036854775807) :
  Calls Tryz.prog 92 #[.slice (some ⟨b,0,none⟩) n cap,.int .i64 n,.slice (some ⟨vb,0,none⟩) m vc] w fun e w'=>e = .returned (.slice (some ⟨b,0,none⟩) (n+m) cap) /\ ∃ c' q,w'=(World.put w b c' el fz).drewN q/\c'.size=c.size /\
   c'.toList.take ((n+m) * 2)=c.toList.take (n * 2)++vs++(c.toList.take (n * 2)).drop (n * 2):=by
 have mixed:Tryz.prog.follows .mixedOrders=true:=by kernel_rfl
 obtain ⟨i0,hi0,hz0,hzs,hzb⟩:=info_parts Kg
 have hz1 : ¬ ((m:Int)=0):=by omega
 have hvg : ∀ j v,vs[j]? = some v->w.cell? ((⟨vb,0,none⟩:Addr).add j)=some v:=fun j v hj=>by
  rw [Go.E.addr_add,cellP XJ,Nat.zero_add]
  rw [<-hv,List.getElem?_take] at hj
  split at hj
  ·simpa using hj
  ·cases hj
 have hsrc:Src Tryz.prog 2 24 (.slice (some ⟨vb,0,none⟩) m vc) m vs w:=Src.ofSlice w Tryz.underlying24 ⟨vb,0,none⟩ m vc vs hvl hvg (fun v h=>(hSv v h).one)
 obtain ⟨c',hc'⟩ : ∃ c',c'=(c.toList.take (n * 2)++vs++c.toList.drop (n * 2+vs.length)).toArray:=⟨_,rfl⟩
 have hrun : ∀ ty,(Builtin.append_ #[24,24] ty #[.slice (some ⟨b,0,none⟩) n cap,.slice (some ⟨vb,0,none⟩) m vc]).run Tryz.prog w = .ok (.slice (some ⟨b,0,none⟩) (n+m) cap) (World.put w b c' el fz):=fun ty=>by
  rw [hc']
  exact Eb Tryz.underlying24 hi0 hzs hsrc hroom hB (by omega) hSv hfz
 have HS:Hid (c'.size=c.size):=by
  show c'.size=c.size
  rw [hc']; simp; omega
 have HL:Hid (c'.toList.take ((n+m) * 2)=c.toList.take (n * 2)++vs++(c.toList.take (n * 2)).drop (n * 2)):=by
  show c'.toList.take ((n+m) * 2)=c.toList.take (n * 2)++vs++(c.toList.take (n * 2)).drop (n * 2)
  have e0:(c.toList.take (n * 2)).drop (n * 2)=[]:=List.drop_eq_nil_of_le (by rw [List.length_take]; omega)
  have el:(c.toList.take (n * 2)++vs).length=(n+m) * 2:=by rw [List.length_append,List.length_take,hvl,Array.length_toList,hsz,Nat.min_eq_left (by omega)]; omega
  rw [e0,List.append_nil,hc',<-el]
  exact List.take_left
 clear hc' hv hvg
 go_enter Tryz.func92,Tryz.ntmps92
 go_wp2_with (at_builtin; refine Lib.wpList_append_run _ rfl _ _ _ _ rfl _ _ rfl rfl _ _ (hrun _) ?_)
 go_ret
 exact ⟨rfl,c',0,rfl,HS.out,HL.out⟩
set_option maxHeartbeats 8000000 in
set_option maxRecDepth 1000000 in
theorem WR {base:Option Addr} {n cap vb m vc:Nat} {olds vs:List Value} {cv:Array Value} {MW:TypeId} {fv:Nat×Nat} {w:World} (hcap:n<=cap)
  (hold:(Builtin.firstCells 2 n (.slice base n cap)).run Tryz.prog w.drew = .ok olds.toArray w.drew) (hol:olds.length=n * 2)
  (XJ:Block w vb cv MW fv) (hvl:vs.length=m * 2) (hv:cv.toList.take (m * 2)=vs) (hSv : ∀ v∈vs,Single v) (hm:0<m) (hroom:cap<n+m) (hbig:(n+m) * 32<=140737488355328) :
  Calls Tryz.prog 92 #[.slice base n cap,.int .i64 n,.slice (some ⟨vb,0,none⟩) m vc] w fun e w'=>e = .returned (.slice (some ⟨w.heap.size,0,none⟩) (n+m) (grownCap w (n+m) cap 83)) /\ ∃ c' q,w'=(w.alloc (.cells c' 83)).drewN q/\c'.size=grownCap w (n+m) cap 83 * 2/\n+m<=grownCap w (n+m) cap 83 /\
   c'.toList.take ((n+m) * 2)=olds++vs:=by
 have mixed:Tryz.prog.follows .mixedOrders=true:=by kernel_rfl
 obtain ⟨i0,hi0,hz0,hzs,hzb⟩:=info_parts Kg
 have hz1 : ¬ ((m:Int)=0):=by omega
 have hvg : ∀ j v,vs[j]? = some v->w.cell? ((⟨vb,0,none⟩:Addr).add j)=some v:=fun j v hj=>by
  rw [Go.E.addr_add,cellP XJ,Nat.zero_add]
  rw [<-hv,List.getElem?_take] at hj
  split at hj
  ·simpa using hj
  ·cases hj
 have hsrc:Src Tryz.prog i0.size 24 (.slice (some ⟨vb,0,none⟩) m vc) m vs w:=by
  rw [hzs]
  exact Src.ofSlice w Tryz.underlying24 ⟨vb,0,none⟩ m vc vs hvl hvg (fun v h=>(hSv v h).one)
 rw [<-hzs] at hold
 have hrun : ∀ ty,(Builtin.append_ #[24,24] ty #[.slice base n cap,.slice (some ⟨vb,0,none⟩) m vc]).run Tryz.prog w=_:=fun ty =>
  run_append_grow_src w 24 24 ty 83 i0 _ Tryz.underlying24 hi0 hz0 base n cap olds hold _ m vs hsrc hroom (by omega) (by rw [hzb]; exact growslice_fits hroom hbig)
 have hge:=grownCap_ge w (n+m) cap 83
 obtain ⟨g,hg⟩ : ∃ g,g=grownCap w (n+m) cap 83:=⟨_,rfl⟩
 rw [<-hg] at hrun hge ⊢
 obtain ⟨c',hc'⟩ : ∃ c',c'=(olds++vs).toArray++Builtin.zeroCells ((.agg #[.string ⟨#[]⟩,.string ⟨#[]⟩]):Value).cells (g-(n+m)):=⟨_,rfl⟩
 rw [<-hc'] at hrun
 have HS:Hid (c'.size=g * 2):=by
  show c'.size=g * 2
  have hzc:(((.agg #[.string ⟨#[]⟩,.string ⟨#[]⟩]):Value).cells).size=2:=rfl
  rw [hc',Array.size_append,size_zeroCells,hzc]; simp; omega
 have HL:Hid (c'.toList.take ((n+m) * 2)=olds++vs):=by
  show c'.toList.take ((n+m) * 2)=olds++vs
  rw [hc',Array.toList_append]
  simp only [List.toList_toArray]
  rw [List.take_append_of_le_length (by simp; omega),List.take_of_length_le (by simp; omega)]
 clear hc' hv hvg hg hold
 go_enter Tryz.func92,Tryz.ntmps92
 cases base with
 | none =>
  go_wp2_with (at_builtin; refine Lib.wpList_append_run _ rfl _ _ _ _ rfl _ _ rfl rfl _ _ (hrun _) ?_)
  all_goals (go_ret; first | exact ⟨rfl,c',1,rfl,HS.out,hge,HL.out⟩ | exact ⟨rfl,c',⟨1,rfl⟩,HS.out,HL.out⟩ | exact ⟨rfl,c',⟨1,rfl⟩,HS.out,hge,HL.out⟩)
 | some a =>
  obtain ⟨ab,ao,asp⟩:=a
  go_wp2_with (at_builtin; refine Lib.wpList_append_run _ rfl _ _ _ _ rfl _ _ rfl rfl _ _ (hrun _) ?_)
  all_goals (go_ret; first | exact ⟨rfl,c',1,rfl,HS.out,hge,HL.out⟩ | exact ⟨rfl,c',⟨1,rfl⟩,HS.out,HL.out⟩ | exact ⟨rfl,c',⟨1,rfl⟩,HS.out,hge,HL.out⟩)
set_option maxHeartbeats 8000000 in
set_option maxRecDepth 1000000 in
theorem agv {b n cap i vb m vc:Nat} {c:Array Value} {el:TypeId} {fz:Nat×Nat} {vs:List Value} {cv:Array Value} {MW:TypeId} {fv:Nat×Nat} {w:World} (hB:Block w b c el fz) (hsz:c.size=cap * 2) (hcap:n<=cap) (hS : ∀ v∈c.toList.take (n * 2),Single v)
  (XJ:Block w vb cv MW fv) (hvl:vs.length=m * 2) (hv:cv.toList.take (m * 2)=vs) (hSv : ∀ v∈vs,Single v) (hi:i<n) (hm:0<m) (hroom:cap<n+m) (hbig:(n+m) * 32<=140737488355328) :
  Calls Tryz.prog 92 #[.slice (some ⟨b,0,none⟩) n cap,.int .i64 i,.slice (some ⟨vb,0,none⟩) m vc] w fun e w'=>e = .returned (.slice (some ⟨w.heap.size,0,none⟩) (n+m) (grownCap w (n+m) cap 83)) /\ ∃ c' q,w'=(w.alloc (.cells c' 83)).drewN q/\c'.size=grownCap w (n+m) cap 83 * 2/\n+m<=grownCap w (n+m) cap 83 /\
   c'.toList.take ((n+m) * 2)=c.toList.take (i * 2)++vs++(c.toList.take (n * 2)).drop (i * 2):=by
 have mixed:Tryz.prog.follows .mixedOrders=true:=by kernel_rfl
 obtain ⟨i0,hi0,hz0,hzs,hzb⟩:=info_parts Kg
 have Qw:(Tryz.prog.info? 83).map (·.size)=some 2:=by rw [hi0]; simp [hzs]
 have hz1 : ¬ ((m:Int)=0):=by omega
 have hz2 : ¬ ((i:Int)=(n:Int)):=by omega
 have hz3:(cap:Int)<(n:Int)+(m:Int):=by omega
 have hkk:(n:Int)+(m:Int)-(i:Int)=((n+m-i:Nat):Int):=by omega
 have hik:i+(n+m-i)=n+m:=by omega
 obtain ⟨hd,hhd⟩ : ∃ hd,hd=c.toList.take (i * 2):=⟨_,rfl⟩
 have hhl:hd.length=i * 2:=by rw [hhd,List.length_take]; simp; omega
 obtain ⟨cs,hcs⟩ : ∃ cs,cs=(c.toList.take (n * 2)).drop (i * 2):=⟨_,rfl⟩
 have hcl:cs.length=(n-i) * 2:=by rw [hcs,List.length_drop,List.length_take]; simp; omega
 have hSc : ∀ v∈cs,Single v:=fun v hv=>hS v (by rw [hcs] at hv; exact List.mem_of_mem_drop hv)
 have hcg : ∀ (W:World),Block W b c el fz->∀ j v,cs[j]? = some v->W.cell? ((⟨b,i * 2,none⟩:Addr).add j)=some v:=fun W hW j v hj=>by
  rw [Go.E.addr_add,cellP hW]
  rw [hcs,List.getElem?_drop,List.getElem?_take] at hj
  split at hj
  ·simpa using hj
  ·cases hj
 have hvg : ∀ (W:World),Block W vb cv MW fv->∀ j v,vs[j]? = some v->W.cell? ((⟨vb,0,none⟩:Addr).add j)=some v:=fun W hW j v hj=>by
  rw [Go.E.addr_add,cellP hW,Nat.zero_add]
  rw [<-hv,List.getElem?_take] at hj
  split at hj
  ·simpa using hj
  ·cases hj
 have hold:(Builtin.firstCells i0.size i (.slice (some ⟨b,0,none⟩) i cap)).run Tryz.prog w.drew = .ok hd.toArray w.drew:=by
  rw [hzs]
  exact run_firstCells_some w.drew 2 i ⟨b,0,none⟩ i cap hd hhl (fun j v hj=>by
   rw [Go.E.addr_add,Nat.zero_add]
   show w.cell? _=_
   rw [cellP hB]
   rw [hhd,List.getElem?_take] at hj
   split at hj
   ·simpa using hj
   ·cases hj)
 obtain ⟨G,hG⟩ : ∃ G,G=grownCap w (n+m) cap 83:=⟨_,rfl⟩
 obtain ⟨ROW,hROW⟩ : ∃ ROW:Array Value,ROW=hd.toArray++Builtin.zeroCells ((.agg #[.string ⟨#[]⟩,.string ⟨#[]⟩]):Value).cells (n+m-i)++Builtin.zeroCells ((.agg #[.string ⟨#[]⟩,.string ⟨#[]⟩]):Value).cells (G-(n+m)):=⟨_,rfl⟩
 have hrz : ∀ ty,(Builtin.append_ #[24,3] ty #[.slice (some ⟨b,0,none⟩) i cap,.int .i64 ((n:Int)+(m:Int)-(i:Int))]).run Tryz.prog w = .ok (.slice (some ⟨w.heap.size,0,none⟩) (n+m) G) (w.drew.alloc (.cells ROW 83)):=fun ty=>by
  have h:=Lib.run_append_grow_zeros w 24 3 ty 83 i0 _ .i64 .i64 Tryz.underlying24 Tryz.underlying3 hi0 hz0 (some ⟨b,0,none⟩) i cap hd hold (n+m-i) (by omega) (by omega) (by omega) (by omega) (by rw [hzb]; omega) (by rw [hzb,hik]; exact growslice_fits hroom hbig)
  rw [hik] at h
  rw [hkk,hROW,hG]
  exact h
 have hge:=grownCap_ge w (n+m) cap 83
 have hG63:G<=9223372036854775807:=by
  have:=grownCap_le_maxLen w (n+m) cap 83 (by unfold maxLen; omega)
  rw [<-hG] at this
  unfold maxLen at this
  omega
 rw [<-hG] at hge ⊢
 have hzc:(((.agg #[.string ⟨#[]⟩,.string ⟨#[]⟩]):Value).cells).size=2:=rfl
 have hRs:ROW.size=G * 2:=by
  rw [hROW,Array.size_append,Array.size_append,size_zeroCells,size_zeroCells,hzc]
  simp only [List.size_toArray,hhl]
  omega
 have hRt:ROW.toList.take (i * 2)=hd:=by
  rw [hROW,Array.toList_append,Array.toList_append]
  simp only [List.toList_toArray]
  rw [List.append_assoc,<-hhl,List.take_left]
 obtain ⟨N,hN⟩ : ∃ N,N=w.heap.size:=⟨_,rfl⟩
 obtain ⟨W1,hW1⟩ : ∃ W1,W1=w.drew.alloc (.cells ROW 83):=⟨_,rfl⟩
 have hlb:b<w.heap.size:=(Array.getElem?_eq_some_iff.1 hB).1
 have hlv:vb<w.heap.size:=(Array.getElem?_eq_some_iff.1 XJ).1
 have hN1:Block W1 N ROW 83 (0,0):=by rw [hW1,hN]; exact Ba (w:=w.drew)
 have hOb:Block W1 b c el fz:=by rw [hW1]; exact ED (w:=w.drew) hB
 have hOv:Block W1 vb cv MW fv:=by rw [hW1]; exact ED (w:=w.drew) XJ
 obtain ⟨c1,hc1⟩ : ∃ c1,c1=(ROW.toList.take (i * 2)++vs++ROW.toList.drop (i * 2+vs.length)).toArray:=⟨_,rfl⟩
 have Ny:c1.size=ROW.size:=by rw [hc1]; simp; omega
 have hcpA : ∀ (W:World),Block W N ROW 83 (0,0)->Block W vb cv MW fv->∀ ty dc,(Builtin.copy_ #[24,24] ty #[.slice (some ⟨N,i * 2,none⟩) (n+m-i) dc,.slice (some ⟨vb,0,none⟩) m vc]).run Tryz.prog W = .ok (goInt ((Nat.min m (n+m-i):Nat):Int)) (World.put W N c1 83 (0,0)):=fun W h1 h2 ty dc=>by
  rw [hc1]
  exact Gq Tryz.underlying24 Qw h1 (by rw [hvl]; congr 1; omega) (hvg W h2) (by omega) (fun o ho=>by simp) hSv
 obtain ⟨c2,hc2⟩ : ∃ c2,c2=(c1.toList.take ((i+m) * 2)++cs++c1.toList.drop ((i+m) * 2+cs.length)).toArray:=⟨_,rfl⟩
 have hcpB : ∀ (W:World),Block W N c1 83 (0,0)->Block W b c el fz->∀ ty dc sc,(Builtin.copy_ #[24,24] ty #[.slice (some ⟨N,(i+m) * 2,none⟩) (n+m-(i+m)) dc,.slice (some ⟨b,i * 2,none⟩) (n-i) sc]).run Tryz.prog W = .ok (goInt ((Nat.min (n-i) (n+m-(i+m)):Nat):Int)) (World.put W N c2 83 (0,0)):=fun W h1 h2 ty dc sc=>by
  rw [hc2]
  exact Gq Tryz.underlying24 Qw h1 (by rw [hcl]; congr 1; omega) (hcg W h2) (by omega) (fun o ho=>by simp) hSc
 have HL:Hid (c2.toList.take ((n+m) * 2)=c.toList.take (i * 2)++vs++(c.toList.take (n * 2)).drop (i * 2)):=by
  show c2.toList.take ((n+m) * 2)=c.toList.take (i * 2)++vs++(c.toList.take (n * 2)).drop (i * 2)
  have el1:(c1.toList.take ((i+m) * 2))=hd++vs:=by
   have e:(hd++vs).length=(i+m) * 2:=by rw [List.length_append,hhl,hvl]; omega
   rw [hc1,hRt,<-e]
   exact List.take_left
  have el2:(hd++vs++cs).length=(n+m) * 2:=by rw [List.length_append,List.length_append,hhl,hvl,hcl]; omega
  rw [hc2,el1,<-hhd,<-hcs,<-el2]
  exact List.take_left
 have HS:Hid (c2.size=G * 2):=by
  show c2.size=G * 2
  rw [<-hRs,<-Ny,hc2]
  simp
  omega
 have arn:b≠N:=by omega
 have au1:vb≠N:=by omega
 have HW1:Hid (W1=w.drew.alloc (.cells ROW 83)):=hW1
 have HN:Hid (N=w.heap.size):=hN
 rw [<-hN] at hrz ⊢
 rw [<-hW1] at hrz
 have hw1:IntKind.i64.wrap ((i:Int)+(m:Int))=(i:Int)+(m:Int):=by rw [IntKind.wrap_i64]; omega
 have hb1:(0:Int)<=(i:Int)+(m:Int):=by omega
 have hin:i<=n:=by omega
 have htn:((i:Int)+(m:Int)).toNat=i+m:=by omega
 have hb3:(i:Int)<=(n:Int):=by omega
 have hGi : ¬ (G=i):=by omega
 have hGim : ¬ (G=i+m):=by omega
 have hci : ¬ (cap=i):=by omega
 have aro:Block (World.put W1 N c1 83 (0,0)).drew N c1 83 (0,0):=kI hN1
 have arp:Block (World.put W1 N c1 83 (0,0)).drew b c el fz:=UJ hOb arn
 clear hkk hik hold hROW hG hc1 hc2 hhd hcs hW1 hN hRt hRs
 go_enter Tryz.func92,Tryz.ntmps92
 go_wp2_with (first
  | (at_builtin; refine Lib.wpList_append_run _ rfl _ _ _ _ rfl _ _ rfl rfl _ _ (hrz _) ?_)
  | (at_builtin; refine wpList_copy_runI _ rfl _ _ 24 24 rfl _ _ rfl rfl (hcpA _ hN1 hOv _ _) ?_))
 go_region_law_o (refine step_copy_runI rfl _ _ 24 24 rfl _ _ (by simp [Act.eval,Act.put]) (by simp [Act.eval,Act.put]) (hcpB _ aro arp _ _ _) ?_)
 go_wp2
 go_ret
 have HE:World.put (World.put W1 N c1 83 (0,0)).drew N c2 83 (0,0)=(w.alloc (.cells c2 83)).drewN 2:=by
  show World.put (World.put W1.drew N c1 83 (0,0)) N c2 83 (0,0)=_
  rw [Kc,HW1.out,HN.out]
  exact aei (w:=w.drew.drew)
 first | exact ⟨rfl,c2,2,HE,HS.out,hge,HL.out⟩ | exact ⟨rfl,c2,⟨2,HE⟩,HS.out,hge,HL.out⟩
end Go.Proofs.YtpchnmbcbcfhjaaGreat

namespace Go.Proofs
open Go Go.Shelf
def Tryz.WS:Go.Shelf.Ren:=⟨fun | 189=>40 | 125=>89 | 257=>88 | 128=>147 | 129=>148 | 294=>138 | 295=>139 | 296=>140 | 297=>141 | 298=>142 | 299=>143 | 216=>144 | 300=>145 | 301=>146 | 328=>174 | 329=>175 | 330=>176 | 331=>177 | 332=>178 | 215=>179 | 343=>198 | n=>n,fun | 28=>43 | 3=>3 | 46=>128 | 0=>0 | 51=>163 | 53=>174 | 4=>4 | 183=>166 | 182=>165 | 131=>170 | 5=>5 | 9=>9 | 218=>197 | 222=>201 | 228=>215 | 229=>216 | n=>n,fun | n=>n⟩
theorem Tryz.agw:Go.Proofs.Lays.n189 Tryz.prog Tryz.WS where
 mixed:=by kernel_rfl
 f125:=Tryz.func89.trans (congrArg some (by kernel_rfl))
 f128:=Tryz.func147.trans (congrArg some (by kernel_rfl))
 f129:=Tryz.func148.trans (congrArg some (by kernel_rfl))
 f189:=Tryz.func40.trans (congrArg some (by kernel_rfl))
 f215:=Tryz.func179.trans (congrArg some (by kernel_rfl))
 f216:=Tryz.func144.trans (congrArg some (by kernel_rfl))
 f257:=Tryz.func88.trans (congrArg some (by kernel_rfl))
 f294:=Tryz.func138.trans (congrArg some (by kernel_rfl))
 f295:=Tryz.func139.trans (congrArg some (by kernel_rfl))
 f296:=Tryz.func140.trans (congrArg some (by kernel_rfl))
 f297:=Tryz.func141.trans (congrArg some (by kernel_rfl))
 f298:=Tryz.func142.trans (congrArg some (by kernel_rfl))
 f299:=Tryz.func143.trans (congrArg some (by kernel_rfl))
 f300:=Tryz.func145.trans (congrArg some (by kernel_rfl))
 f301:=Tryz.func146.trans (congrArg some (by kernel_rfl))
 f328:=Tryz.func174.trans (congrArg some (by kernel_rfl))
 f329:=Tryz.func175.trans (congrArg some (by kernel_rfl))
 f330:=Tryz.func176.trans (congrArg some (by kernel_rfl))
 f331:=Tryz.func177.trans (congrArg some (by kernel_rfl))
 f332:=Tryz.func178.trans (congrArg some (by kernel_rfl))
 f343:=Tryz.func198.trans (congrArg some (by kernel_rfl))
 t0:=Tryz.underlying0
 a0:=Tryz.isAgg0
 z0:=Tryz.sizeOf0
 v0:=Tryz.zeroValue0
 t3:=Tryz.underlying3
 a3:=Tryz.isAgg3
 z3:=Tryz.sizeOf3
 v3:=Tryz.zeroValue3
 t4:=Tryz.underlying4
 a4:=Tryz.isAgg4
 z4:=Tryz.sizeOf4
 v4:=Tryz.zeroValue4
 t5:=Tryz.underlying5
 a5:=Tryz.isAgg5
 z5:=Tryz.sizeOf5
 v5:=Tryz.zeroValue5
 t9:=Tryz.underlying9
 a9:=Tryz.isAgg9
 z9:=Tryz.sizeOf9
 v9:=Tryz.zeroValue9
 t28:=Tryz.underlying43
 a28:=Tryz.isAgg43
 z28:=Tryz.sizeOf43
 v28:=Tryz.zeroValue43
 t46:=Tryz.underlying128
 a46:=Tryz.isAgg128
 z46:=Tryz.sizeOf128
 v46:=Tryz.zeroValue128
 t51:=Tryz.underlying163
 a51:=Tryz.isAgg163
 z51:=Tryz.sizeOf163
 v51:=Tryz.zeroValue163
 t53:=Tryz.underlying174
 a53:=Tryz.isAgg174
 z53:=Tryz.sizeOf174
 v53:=Tryz.zeroValue174
 t131:=Tryz.underlying170
 a131:=Tryz.isAgg170
 z131:=Tryz.sizeOf170
 v131:=Tryz.zeroValue170
 t182:=Tryz.underlying165
 a182:=Tryz.isAgg165
 z182:=Tryz.sizeOf165
 v182:=Tryz.zeroValue165
 t183:=Tryz.underlying166
 a183:=Tryz.isAgg166
 z183:=Tryz.sizeOf166
 v183:=Tryz.zeroValue166
 t218:=Tryz.underlying197
 a218:=Tryz.isAgg197
 z218:=Tryz.sizeOf197
 v218:=Tryz.zeroValue197
 t222:=Tryz.underlying201
 a222:=Tryz.isAgg201
 z222:=Tryz.sizeOf201
 v222:=Tryz.zeroValue201
 t228:=Tryz.underlying215
 a228:=Tryz.isAgg215
 z228:=Tryz.sizeOf215
 v228:=Tryz.zeroValue215
 t229:=Tryz.underlying216
 a229:=Tryz.isAgg216
 z229:=Tryz.sizeOf216
 v229:=Tryz.zeroValue216
def Tryz.Nz:Go.Shelf.Ren:=⟨fun | 20=>42 | n=>n,fun | 22=>43 | 3=>3 | 4=>4 | 0=>0 | n=>n,fun | n=>n⟩
theorem Tryz.YI:Go.Proofs.Lays2.n20 Tryz.prog Tryz.Nz where
 mixed:=by kernel_rfl
 f20:=Tryz.func42.trans (congrArg some (by kernel_rfl))
 t0:=Tryz.underlying0
 a0:=Tryz.isAgg0
 z0:=Tryz.sizeOf0
 v0:=Tryz.zeroValue0
 t3:=Tryz.underlying3
 a3:=Tryz.isAgg3
 z3:=Tryz.sizeOf3
 v3:=Tryz.zeroValue3
 t4:=Tryz.underlying4
 a4:=Tryz.isAgg4
 z4:=Tryz.sizeOf4
 v4:=Tryz.zeroValue4
 t22:=Tryz.underlying43
 a22:=Tryz.isAgg43
 z22:=Tryz.sizeOf43
 v22:=Tryz.zeroValue43
 i3:=by kernel_rfl
def Tryz.xU:Go.Shelf.Ren:=⟨fun | 41=>76 | n=>n,fun | 22=>25 | 23=>74 | n=>n,fun | n=>n⟩
theorem Tryz.YJ:SlLaysE0.n41 Tryz.prog Tryz.xU where
 mixed:=by kernel_rfl
 f41:=⟨Tryz.f76.name,by kernel_rfl,Tryz.func76.trans (congrArg some (by kernel_rfl))⟩
 t4:=Tryz.underlying4
 a4:=Tryz.isAgg4
 z4:=Tryz.sizeOf4
 v4:=Tryz.zeroValue4
 t22:=Tryz.underlying25
 a22:=Tryz.isAgg25
 z22:=Tryz.sizeOf25
 v22:=Tryz.zeroValue25
def Tryz.vU:Go.Shelf.Ren:=⟨fun | 41=>118 | n=>n,fun | 22=>43 | 23=>3 | n=>n,fun | n=>n⟩
theorem Tryz.WT:SlLaysE0.n41 Tryz.prog Tryz.vU where
 mixed:=by kernel_rfl
 f41:=⟨Tryz.f118.name,by kernel_rfl,Tryz.func118.trans (congrArg some (by kernel_rfl))⟩
 t4:=Tryz.underlying4
 a4:=Tryz.isAgg4
 z4:=Tryz.sizeOf4
 v4:=Tryz.zeroValue4
 t22:=Tryz.underlying43
 a22:=Tryz.isAgg43
 z22:=Tryz.sizeOf43
 v22:=Tryz.zeroValue43
def Tryz.sw:Go.Shelf.Ren:=⟨fun | 41=>119 | n=>n,fun | 22=>30 | 23=>94 | n=>n,fun | n=>n⟩
theorem Tryz.NA:SlLaysE0.n41 Tryz.prog Tryz.sw where
 mixed:=by kernel_rfl
 f41:=⟨Tryz.f119.name,by kernel_rfl,Tryz.func119.trans (congrArg some (by kernel_rfl))⟩
 t4:=Tryz.underlying4
 a4:=Tryz.isAgg4
 z4:=Tryz.sizeOf4
 v4:=Tryz.zeroValue4
 t22:=Tryz.underlying30
 a22:=Tryz.isAgg30
 z22:=Tryz.sizeOf30
 v22:=Tryz.zeroValue30
end Go.Proofs

namespace Go.Proofs.YtpchnmbcbcfhjaaGreat
open Go Go.E Go.Proofs
noncomputable section
def agx:List (Option TI):=[
 none,
 tX,
 some ⟨.sc (.int .i64),tI,8,false⟩,
 some ⟨.sc (.int .i64),tI,8,false⟩,
 some ⟨.sc (.bool),[.sc (.bool)],1,false⟩,
 some ⟨.sc (.int .u8),tU,1,false⟩,
 some ⟨.sc (.int .u8),tU,1,false⟩,
 some ⟨.struct [(0,2),(1,3),(2,4),(3,6)],[.sc (.int .i64),.sc (.int .i64),.sc (.bool),.sc (.int .u8)],24,true⟩,
 some ⟨.struct [(0,2),(1,3),(2,4),(3,6)],[.sc (.int .i64),.sc (.int .i64),.sc (.bool),.sc (.int .u8)],24,true⟩,
 some ⟨.sc (.str),tT,16,false⟩,
 some ⟨.sc (.str),tT,16,false⟩,
 some ⟨.sc (.str),tT,16,false⟩,
 some ⟨.sc (.int .u64),[.sc (.int .u64)],8,false⟩,
 some ⟨.struct [(0,9),(1,12)],[.sc (.str),.sc (.int .u64)],24,false⟩,
 some ⟨.struct [(0,9),(1,12)],[.sc (.str),.sc (.int .u64)],24,false⟩,
 some ⟨.ptr 232,[.sc (.any)],8,false⟩,
 some ⟨.ptr 235,[.sc (.any)],8,false⟩,
 some ⟨.ptr 243,[.sc (.any)],8,false⟩,
 some ⟨.struct [(0,17)],[.sc (.any)],8,false⟩,
 some ⟨.struct [(0,17)],[.sc (.any)],8,false⟩,
 tY,
 some ⟨.sc (.int .i32),[.sc (.int .i32)],4,false⟩,
 some ⟨.slice 5,[.sl tU],24,false⟩,
 tX,
 some ⟨.slice 83,[.sl tP],24,false⟩,
 some ⟨.slice 74,[.sl tO],24,false⟩,
 none,
 tX,
 tX,
 some ⟨.slice 92,[.sl tJ],24,false⟩,
 some ⟨.slice 94,[.sl tC],24,false⟩,
 some ⟨.struct [(0,3),(1,3),(2,3),(3,29),(4,30),(5,3)],[.sc (.int .i64),.sc (.int .i64),.sc (.int .i64),.sl tJ,.sl tC,.sc (.int .i64)],80,false⟩,
 some ⟨.struct [(0,3),(1,3),(2,3),(3,29),(4,30),(5,3)],[.sc (.int .i64),.sc (.int .i64),.sc (.int .i64),.sl tJ,.sl tC,.sc (.int .i64)],80,false⟩,
 some ⟨.slice 55,[.sl tS],24,false⟩,
 some ⟨.slice 63,[.sl tW],24,false⟩,
 some ⟨.slice 96,[.sl tB],24,false⟩,
 some ⟨.struct [(0,32),(6,33),(7,34),(8,34),(9,35)],[.sc (.int .i64),.sc (.int .i64),.sc (.int .i64),.sl tJ,.sl tC,.sc (.int .i64),.sl tS,.sl tW,.sl tW,.sl tB],176,false⟩,
 some ⟨.struct [(0,32),(6,33),(7,34),(8,34),(9,35)],[.sc (.int .i64),.sc (.int .i64),.sc (.int .i64),.sl tJ,.sl tC,.sc (.int .i64),.sl tS,.sl tW,.sl tW,.sl tB],176,false⟩,
 tX,
 none,
 tX,
 some ⟨.struct [(0,3),(1,3),(2,3),(3,25)],[.sc (.int .i64),.sc (.int .i64),.sc (.int .i64),.sl tO],48,false⟩,
 some ⟨.struct [(0,3),(1,3),(2,3),(3,25)],[.sc (.int .i64),.sc (.int .i64),.sc (.int .i64),.sl tO],48,false⟩,
 some ⟨.slice 3,[.sl tI],24,false⟩,
 tX,
 tX,
 tX,
 tX,
 tX,
 tX,
 tX,
 tX,
 tX,
 some ⟨.slice 104,[.sl tR],24,false⟩,
 some ⟨.struct [(0,3),(1,53),(2,3),(3,24),(4,53)],tS,88,false⟩,
 some ⟨.struct [(0,3),(1,53),(2,3),(3,24),(4,53)],tS,88,false⟩,
 some ⟨.slice 42,[.sl [.sc (.int .i64),.sc (.int .i64),.sc (.int .i64),.sl tO]],24,false⟩,
 none,
 tX,
 tX,
 tX,
 tX,
 some ⟨.struct [(0,3),(1,3),(2,3),(3,25),(4,4)],tW,56,false⟩,
 some ⟨.struct [(0,3),(1,3),(2,3),(3,25),(4,4)],tW,56,false⟩,
 some ⟨.ptr 107,[.sc (.any)],8,false⟩,
 tX,
 tX,
 tX,
 tX,
 tX,
 tX,
 tX,
 tX,
 some ⟨.struct [(0,3),(1,9),(2,9)],tO,40,true⟩,
 some ⟨.struct [(0,3),(1,9),(2,9)],tO,40,true⟩,
 tX,
 tX,
 tX,
 tX,
 none,
 tX,
 tX,
 some ⟨.struct [(0,9),(1,9)],tP,32,true⟩,
 some ⟨.struct [(0,9),(1,9)],tP,32,true⟩,
 tX,
 tX,
 tX,
 some ⟨.array 5 4,[.sc (.bool),.sc (.bool),.sc (.bool),.sc (.bool),.sc (.bool)],5,false⟩,
 tX,
 some ⟨.slice 4,[.sl [.sc (.bool)]],24,false⟩,
 tX,
 some ⟨.struct [(0,3),(1,25),(2,3),(3,43)],tJ,64,false⟩,
 some ⟨.struct [(0,3),(1,25),(2,3),(3,43)],tJ,64,false⟩,
 some ⟨.struct [(0,3),(1,4)],tC,16,true⟩,
 some ⟨.struct [(0,3),(1,4)],tC,16,true⟩,
 some ⟨.struct [(0,3),(1,25)],tB,32,false⟩,
 some ⟨.struct [(0,3),(1,25)],tB,32,false⟩,
 tX,
 tX,
 tX,
 tX,
 some ⟨.ptr 37,[.sc (.any)],8,false⟩,
 tX,
 some ⟨.struct [(0,3),(1,3),(2,25)],tR,40,false⟩,
 some ⟨.struct [(0,3),(1,3),(2,25)],tR,40,false⟩,
 tX,
 some ⟨.struct [(0,22),(1,3),(2,3)],[.sl tU,.sc (.int .i64),.sc (.int .i64)],40,false⟩,
 some ⟨.struct [(0,22),(1,3),(2,3)],[.sl tU,.sc (.int .i64),.sc (.int .i64)],40,false⟩,
 tX,
 tX,
 tX,
 tX,
 tX,
 tX,
 tX,
 tX,
 tX,
 tX,
 tX,
 tX,
 tX,
 tX,
 tX,
 tX,
 tX,
 tX,
 tX,
 tX,
 some ⟨.sc (.int .u64),[.sc (.int .u64)],8,false⟩,
 tX,
 tX,
 tX,
 tX,
 tX,
 tX,
 tX,
 tX,
 tX,
 tX,
 tX,
 tX,
 tX,
 tX,
 tX,
 some ⟨.ptr 32,[.sc (.any)],8,false⟩,
 tX,
 some ⟨.slice 9,[.sl tT],24,false⟩,
 tX,
 tX,
 tX,
 none,
 tX,
 tX,
 tX,
 none,
 tX,
 tX,
 some ⟨.ptr 55,[.sc (.any)],8,false⟩,
 tX,
 none,
 tX,
 tX,
 tX,
 some ⟨.sc (.int .u32),[.sc (.int .u32)],4,false⟩,
 tX,
 some ⟨.sc (.int .i64),tI,8,false⟩,
 none,
 tX,
 tX,
 tX,
 none,
 tX,
 tX,
 tX,
 some ⟨.sc (.int .u64),[.sc (.int .u64)],8,false⟩,
 tX,
 tX,
 tX,
 tX,
 tX,
 tX,
 tX,
 tX,
 tX,
 tX,
 none,
 tX,
 tX,
 tX,
 tX,
 tX,
 some ⟨.struct [(0,24),(1,53)],[.sl tP,.sl tR],48,false⟩,
 some ⟨.struct [(0,24),(1,53)],[.sl tP,.sl tR],48,false⟩,
 tX,
 tX,
 tX,
 tX,
 some ⟨.sc (.int .u64),[.sc (.int .u64)],8,false⟩,
 tX,
 tX,
 tX,
 some ⟨.ptr 3,[.sc (.any)],8,false⟩,
 tX,
 tX,
 tX,
 tX,
 tX,
 some ⟨.ptr 92,[.sc (.any)],8,false⟩,
 tX,
 tX,
 tX,
 tX,
 some ⟨.ptr 192,[.sc (.any)],8,false⟩,
 tX,
 tX,
 some ⟨.ptr 197,[.sc (.any)],8,false⟩,
 none,
 tX,
 tX,
 tX,
 tX,
 tX,
 tX,
 tX,
 some ⟨.ptr 226,[.sc (.any)],8,false⟩,
 some ⟨.struct [(0,24),(1,53),(2,43)],[.sl tP,.sl tR,.sl tI],72,false⟩,
 some ⟨.struct [(0,24),(1,53),(2,43)],[.sl tP,.sl tR,.sl tI],72,false⟩,
 tX,
 tX,
 tX,
 tX,
 some ⟨.struct [(0,17),(1,17),(2,17),(3,9)],[.sc (.any),.sc (.any),.sc (.any),.sc (.str)],40,false⟩,
 some ⟨.struct [(0,17),(1,17),(2,17),(3,9)],[.sc (.any),.sc (.any),.sc (.any),.sc (.str)],40,false⟩,
 some ⟨.array 0 16,[],0,false⟩,
 none,
 none,
 some ⟨.sc (.int .u8),tU,1,false⟩,
 some ⟨.sc (.int .u8),tU,1,false⟩,
 tX,
 some ⟨.ptr 5,[.sc (.any)],8,false⟩,
 some ⟨.sc (.int .i32),[.sc (.int .i32)],4,false⟩,
 some ⟨.sc (.int .i32),[.sc (.int .i32)],4,false⟩,
 some ⟨.struct [(0,12),(1,12),(2,163),(3,236),(4,5),(5,5),(6,237),(7,238),(8,239),(9,240),(10,241)],[.sc (.int .u64),.sc (.int .u64),.sc (.int .u32),.sc (.int .u8),.sc (.int .u8),.sc (.int .u8),.sc (.int .u8),.sc (.any),.sc (.any),.sc (.int .i32),.sc (.int .i32)],48,false⟩,
 some ⟨.struct [(0,12),(1,12),(2,163),(3,236),(4,5),(5,5),(6,237),(7,238),(8,239),(9,240),(10,241)],[.sc (.int .u64),.sc (.int .u64),.sc (.int .u32),.sc (.int .u8),.sc (.int .u8),.sc (.int .u8),.sc (.int .u8),.sc (.any),.sc (.any),.sc (.int .i32),.sc (.int .i32)],48,false⟩,
 tX]
noncomputable def YK:List (Nat×Func):=[(6,Tryz.f6),(7,Tryz.f7),(11,Tryz.f11),(12,Tryz.f12),(16,Tryz.f16),(17,Tryz.f17),(20,Tryz.f20),(26,Tryz.f26),(27,Tryz.f27),(28,Tryz.f28),(29,Tryz.f29),(30,Tryz.f30),(32,Tryz.f32),(33,Tryz.f33),(36,Tryz.f36),(37,Tryz.f37),(38,Tryz.f38),(39,Tryz.f39),(40,Tryz.f40),(41,Tryz.f41),(42,Tryz.f42),(46,Tryz.f46),(47,Tryz.f47),(48,Tryz.f48),(49,Tryz.f49),(51,Tryz.f51),(52,Tryz.f52),(53,Tryz.f53),(54,Tryz.f54),(55,Tryz.f55),(56,Tryz.f56),(57,Tryz.f57),(60,Tryz.f60),(61,Tryz.f61),(62,Tryz.f62),(63,Tryz.f63),(64,Tryz.f64),(65,Tryz.f65),(66,Tryz.f66),(67,Tryz.f67),(68,Tryz.f68),(70,Tryz.f70),(71,Tryz.f71),(72,Tryz.f72),(73,Tryz.f73),(74,Tryz.f74),(75,Tryz.f75),(76,Tryz.f76),(77,Tryz.f77),(78,Tryz.f78),(79,Tryz.f79),(80,Tryz.f80),(81,Tryz.f81),(82,Tryz.f82),(83,Tryz.f83),(84,Tryz.f84),(85,Tryz.f85),(86,Tryz.f86),(87,Tryz.f87),(91,Tryz.f91),(92,Tryz.f92),(95,Tryz.f95),(96,Tryz.f96),(97,Tryz.f97),(98,Tryz.f98),(99,Tryz.f99),(100,Tryz.f100),(101,Tryz.f101),(102,Tryz.f102),(103,Tryz.f103),(104,Tryz.f104),(105,Tryz.f105),(106,Tryz.f106),(107,Tryz.f107),(108,Tryz.f108),(109,Tryz.f109),(110,Tryz.f110),(111,Tryz.f111),(112,Tryz.f112),(113,Tryz.f113),(114,Tryz.f114),(115,Tryz.f115),(116,Tryz.f116),(117,Tryz.f117),(118,Tryz.f118),(119,Tryz.f119),(120,Tryz.f120),(121,Tryz.f121),(122,Tryz.f122),(123,Tryz.f123),(124,Tryz.f124),(125,Tryz.f125),(126,Tryz.f126),(127,Tryz.f127),(128,Tryz.f128),(129,Tryz.f129),(130,Tryz.f130),(131,Tryz.f131),(132,Tryz.f132),(133,Tryz.f133),(134,Tryz.f134),(135,Tryz.f135),(136,Tryz.f136),(137,Tryz.f137),(149,Tryz.f149),(150,Tryz.f150),(153,Tryz.f153),(154,Tryz.f154),(155,Tryz.f155),(156,Tryz.f156),(157,Tryz.f157),(158,Tryz.f158),(159,Tryz.f159),(160,Tryz.f160),(161,Tryz.f161),(162,Tryz.f162),(163,Tryz.f163),(164,Tryz.f164),(165,Tryz.f165),(166,Tryz.f166),(167,Tryz.f167),(168,Tryz.f168),(169,Tryz.f169),(170,Tryz.f170),(171,Tryz.f171),(172,Tryz.f172),(173,Tryz.f173),(181,Tryz.f181),(182,Tryz.f182),(183,Tryz.f183),(184,Tryz.f184),(185,Tryz.f185),(186,Tryz.f186),(187,Tryz.f187),(188,Tryz.f188),(189,Tryz.f189),(190,Tryz.f190),(191,Tryz.f191),(192,Tryz.f192),(193,Tryz.f193),(194,Tryz.f194),(195,Tryz.f195),(196,Tryz.f196),(197,Tryz.f197),(200,Tryz.f200),(201,Tryz.f201),(202,Tryz.f202),(203,Tryz.f203),(204,Tryz.f204),(205,Tryz.f205),(206,Tryz.f206),(207,Tryz.f207),(208,Tryz.f208),(209,Tryz.f209),(210,Tryz.f210),(211,Tryz.f211),(212,Tryz.f212),(213,Tryz.f213),(214,Tryz.f214),(215,Tryz.f215),(216,Tryz.f216),(217,Tryz.f217),(218,Tryz.f218),(219,Tryz.f219),(220,Tryz.f220),(221,Tryz.f221)]
theorem amb:acG Tryz.prog YK:=by
 unfold YK
 refine ⟨⟨Tryz.func6,?_⟩,⟨Tryz.func7,?_⟩,⟨Tryz.func11,?_⟩,⟨Tryz.func12,?_⟩,⟨Tryz.func16,?_⟩,⟨Tryz.func17,?_⟩,⟨Tryz.func20,?_⟩,⟨Tryz.func26,?_⟩,⟨Tryz.func27,?_⟩,⟨Tryz.func28,?_⟩,⟨Tryz.func29,?_⟩,⟨Tryz.func30,?_⟩,⟨Tryz.func32,?_⟩,⟨Tryz.func33,?_⟩,⟨Tryz.func36,?_⟩,⟨Tryz.func37,?_⟩,⟨Tryz.func38,?_⟩,⟨Tryz.func39,?_⟩,⟨Tryz.func40,?_⟩,⟨Tryz.func41,?_⟩,⟨Tryz.func42,?_⟩,⟨Tryz.func46,?_⟩,⟨Tryz.func47,?_⟩,⟨Tryz.func48,?_⟩,⟨Tryz.func49,?_⟩,⟨Tryz.func51,?_⟩,⟨Tryz.func52,?_⟩,⟨Tryz.func53,?_⟩,⟨Tryz.func54,?_⟩,⟨Tryz.func55,?_⟩,⟨Tryz.func56,?_⟩,⟨Tryz.func57,?_⟩,⟨Tryz.func60,?_⟩,⟨Tryz.func61,?_⟩,⟨Tryz.func62,?_⟩,⟨Tryz.func63,?_⟩,⟨Tryz.func64,?_⟩,⟨Tryz.func65,?_⟩,⟨Tryz.func66,?_⟩,⟨Tryz.func67,?_⟩,⟨Tryz.func68,?_⟩,⟨Tryz.func70,?_⟩,⟨Tryz.func71,?_⟩,⟨Tryz.func72,?_⟩,⟨Tryz.func73,?_⟩,⟨Tryz.func74,?_⟩,⟨Tryz.func75,?_⟩,⟨Tryz.func76,?_⟩,⟨Tryz.func77,?_⟩,⟨Tryz.func78,?_⟩,⟨Tryz.func79,?_⟩,⟨Tryz.func80,?_⟩,⟨Tryz.func81,?_⟩,⟨Tryz.func82,?_⟩,⟨Tryz.func83,?_⟩,⟨Tryz.func84,?_⟩,⟨Tryz.func85,?_⟩,⟨Tryz.func86,?_⟩,⟨Tryz.func87,?_⟩,⟨Tryz.func91,?_⟩,⟨Tryz.func92,?_⟩,⟨Tryz.func95,?_⟩,⟨Tryz.func96,?_⟩,⟨Tryz.func97,?_⟩,⟨Tryz.func98,?_⟩,⟨Tryz.func99,?_⟩,⟨Tryz.func100,?_⟩,⟨Tryz.func101,?_⟩,⟨Tryz.func102,?_⟩,⟨Tryz.func103,?_⟩,⟨Tryz.func104,?_⟩,⟨Tryz.func105,?_⟩,⟨Tryz.func106,?_⟩,⟨Tryz.func107,?_⟩,⟨Tryz.func108,?_⟩,⟨Tryz.func109,?_⟩,⟨Tryz.func110,?_⟩,⟨Tryz.func111,?_⟩,⟨Tryz.func112,?_⟩,⟨Tryz.func113,?_⟩,⟨Tryz.func114,?_⟩,⟨Tryz.func115,?_⟩,⟨Tryz.func116,?_⟩,⟨Tryz.func117,?_⟩,⟨Tryz.func118,?_⟩,⟨Tryz.func119,?_⟩,⟨Tryz.func120,?_⟩,⟨Tryz.func121,?_⟩,⟨Tryz.func122,?_⟩,⟨Tryz.func123,?_⟩,⟨Tryz.func124,?_⟩,⟨Tryz.func125,?_⟩,⟨Tryz.func126,?_⟩,⟨Tryz.func127,?_⟩,⟨Tryz.func128,?_⟩,⟨Tryz.func129,?_⟩,⟨Tryz.func130,?_⟩,⟨Tryz.func131,?_⟩,⟨Tryz.func132,?_⟩,⟨Tryz.func133,?_⟩,⟨Tryz.func134,?_⟩,⟨Tryz.func135,?_⟩,⟨Tryz.func136,?_⟩,⟨Tryz.func137,?_⟩,⟨Tryz.func149,?_⟩,⟨Tryz.func150,?_⟩,⟨Tryz.func153,?_⟩,⟨Tryz.func154,?_⟩,⟨Tryz.func155,?_⟩,⟨Tryz.func156,?_⟩,⟨Tryz.func157,?_⟩,⟨Tryz.func158,?_⟩,⟨Tryz.func159,?_⟩,⟨Tryz.func160,?_⟩,⟨Tryz.func161,?_⟩,⟨Tryz.func162,?_⟩,⟨Tryz.func163,?_⟩,⟨Tryz.func164,?_⟩,⟨Tryz.func165,?_⟩,⟨Tryz.func166,?_⟩,⟨Tryz.func167,?_⟩,⟨Tryz.func168,?_⟩,⟨Tryz.func169,?_⟩,⟨Tryz.func170,?_⟩,⟨Tryz.func171,?_⟩,⟨Tryz.func172,?_⟩,⟨Tryz.func173,?_⟩,⟨Tryz.func181,?_⟩,⟨Tryz.func182,?_⟩,⟨Tryz.func183,?_⟩,⟨Tryz.func184,?_⟩,⟨Tryz.func185,?_⟩,⟨Tryz.func186,?_⟩,⟨Tryz.func187,?_⟩,⟨Tryz.func188,?_⟩,⟨Tryz.func189,?_⟩,⟨Tryz.func190,?_⟩,⟨Tryz.func191,?_⟩,⟨Tryz.func192,?_⟩,⟨Tryz.func193,?_⟩,⟨Tryz.func194,?_⟩,⟨Tryz.func195,?_⟩,⟨Tryz.func196,?_⟩,⟨Tryz.func197,?_⟩,⟨Tryz.func200,?_⟩,⟨Tryz.func201,?_⟩,⟨Tryz.func202,?_⟩,⟨Tryz.func203,?_⟩,⟨Tryz.func204,?_⟩,⟨Tryz.func205,?_⟩,⟨Tryz.func206,?_⟩,⟨Tryz.func207,?_⟩,⟨Tryz.func208,?_⟩,⟨Tryz.func209,?_⟩,⟨Tryz.func210,?_⟩,⟨Tryz.func211,?_⟩,⟨Tryz.func212,?_⟩,⟨Tryz.func213,?_⟩,⟨Tryz.func214,?_⟩,⟨Tryz.func215,?_⟩,⟨Tryz.func216,?_⟩,⟨Tryz.func217,?_⟩,⟨Tryz.func218,?_⟩,⟨Tryz.func219,?_⟩,⟨Tryz.func220,?_⟩,⟨Tryz.func221,?_⟩,trivial⟩ <;> exact ⟨by kernel_rfl,by kernel_rfl⟩
def aoO:List (Nat×Sig):=[(8,⟨[[.F]]⟩),(21,⟨[[.F]]⟩),(26,⟨[[.F]]⟩),(30,⟨[[.F]]⟩),(31,⟨[[.O [],.O [],.O []]]⟩),(32,⟨[[.O [],.O [],.O []]]⟩),(38,⟨[[.R,.R,.R,.O [.F,.F,.F,.O [.F]],.O m2,.R,.O mS,.O m5,.O m5,.O m2],[.R,.R,.R,.R]]⟩),(40,⟨[[.O []]]⟩),(41,⟨[[.F]]⟩),(42,⟨[[.O []]]⟩),(45,⟨[[.R,.R,.R,.O [.F,.F,.F,.O [.F]],.O m2,.R,.O mS,.O m5,.O m5,.O m2]]⟩),(48,⟨[[.O []],[.R],[.R]]⟩),(56,⟨[[.O [],.O [],.O []],[.R]]⟩),(57,⟨[[.F],[.R]]⟩),(58,⟨[[.R,.R,.R,.O [.F,.F,.F,.O [.F]],.O m2,.R,.O mS,.O m5,.O m5,.O m2]]⟩),(62,⟨[[.O [],.O [],.O []],[.R]]⟩),(63,⟨[[.O [],.O [],.O []],[.R,.R,.R,.R,.R,.R,.R,.R,.R,.R]]⟩),(64,⟨[[.R,.R,.R,.O m4,.O m2,.R,.O mS,.O m5,.O m5,.O m2],[.R,.R,.R,.R]]⟩),(68,⟨[[.O [],.O [],.O []]]⟩),(69,⟨[[.O [],.O [],.O []]]⟩),(71,⟨[[.O [],.O [],.O []]]⟩),(81,⟨[[.R,.R,.R,.O [.F,.F,.F,.O [.F]],.O m2,.R,.O mS,.O m5,.O m5,.O m2],[.R]]⟩),(82,⟨[[.R,.R,.R,.O [.F,.F,.F,.O [.F]],.O m2,.R,.O mS,.O m5,.O m5,.O m2],[.R],[.R]]⟩),(83,⟨[[.R,.R,.R,.O [.F,.F,.F,.O [.F]],.O m2,.R,.O mS,.O m5,.O m5,.O m2],[.R,.R,.R,.R]]⟩),(84,⟨[[.R,.R,.R,.O [.F,.F,.F,.O [.F]],.O m2,.R,.O mS,.O m5,.O m5,.O m2],[.F]]⟩),(86,⟨[[.R,.R,.R,.O [.F,.F,.F,.O [.F]],.O m2,.R],[.R]]⟩),(90,⟨[[.R,.R,.R,.O [.F,.F,.F,.O [.F]],.O m2,.R,.O mS,.O m5,.O m5,.O m2],[.R]]⟩),(92,⟨[[.O []],[.R],[.O []]]⟩),(93,⟨[[.O []],[.R]]⟩),(101,⟨[[.O [],.O [],.O []],[.R]]⟩),(102,⟨[[.R,.R,.R,.O [.F,.F,.F,.O [.F]],.O m2,.R,.O mS,.O m5,.O m5,.O m2],[.R]]⟩),(108,⟨[[.O [],.O [],.O []]]⟩),(109,⟨[[.O [],.O [],.O []],[.R]]⟩),(110,⟨[[.R,.R,.R,.O m4,.O m2,.R,.O mS,.O m5,.O m5,.O m2],[.R]]⟩),(111,⟨[[.R,.R,.R,.O m4,.O m2,.R,.O mS,.O m5,.O m5,.O m2],[.R,.R,.R,.R]]⟩),(113,⟨[[.R,.R,.R,.O m4,.O m2,.R,.O mS,.O m5,.O m5,.O m2],[.R,.R,.R,.R]]⟩),(114,⟨[[.R,.R,.R,.O m4,.O m2,.R,.O mS,.O m5,.O m5,.O m2],[.R]]⟩),(116,⟨[[.R,.R,.R,.O m4,.O m2,.R],[.R]]⟩),(117,⟨[[.O [],.O [],.O []],[.R]]⟩),(130,⟨[[.R,.R,.R,.O [.F,.F,.F,.O [.F]],.O m2,.R],[.R]]⟩),(131,⟨[[.O []],[.R],[.R]]⟩),(132,⟨[[.R,.R,.R,.O [.F,.F,.F,.O [.F]],.O m2,.R,.O mS,.O m5,.O m5,.O m2],[.R]]⟩),(133,⟨[[.R,.R,.R,.O [.F,.F,.F,.O [.F]],.O m2,.R,.O mS,.O m5,.O m5,.O m2],[.R]]⟩),(134,⟨[[.R,.O m3,.R,.O m2,.O m3],[.R]]⟩),(157,⟨[[.R,.R,.R,.O [.F,.F,.F,.O [.F]],.O m2,.R,.O mS,.O m5,.O m5,.O m2],[.R,.R,.R,.R,.R]]⟩),(158,⟨[[.R,.O m3,.R,.O m2,.O m3],[.R],[.R]]⟩),(159,⟨[[.R,.R,.R,.O [.F,.F,.F,.O [.F]],.O m2,.R],[.R],[.R],[.R]]⟩),(162,⟨[[.R,.R,.R,.O m4,.O m2,.R],[.R]]⟩),(163,⟨[[.R,.R,.R,.O m4,.O m2,.R,.O mS,.O m5,.O m5,.O m2],[.R,.R,.R,.R,.R]]⟩),(164,⟨[[.R,.R,.R,.O m4,.O m2,.R,.O mS,.O m5,.O m5,.O m2],[.R]]⟩),(165,⟨[[.R,.O m3,.R,.O m2,.O m3],[.R]]⟩),(170,⟨[[.O m2,.O m3],[.R,.R,.R],[.R]]⟩),(181,⟨[[.R,.O m3,.R,.O m2,.O m3],[.R],[.R]]⟩),(184,⟨[[.O []],[.R],[.R]]⟩),(190,⟨[[.R,.R,.R,.O m4,.O m2,.R,.O mS,.O m5,.O m5,.O m2],[.R,.R,.R,.R,.R]]⟩),(191,⟨[[.R,.O m3,.R,.O m2,.O m3],[.R],[.R]]⟩),(192,⟨[[.R,.R,.R,.O m4,.O m2,.R],[.R],[.R],[.R]]⟩),(204,⟨[[.R,.O m3,.R,.O m2,.O m3],[.R],[.R]]⟩),(206,⟨[[.R,.O m3,.R,.O m2,.O m3],[.R,.R,.R]]⟩),(208,⟨[[.F],[.R]]⟩),(210,⟨[[.O m2,.O m3,.O [.F]],[.R,.R,.R]]⟩)]
def aoP:List (Nat×Nat):=[(56,8),(63,15),(68,4),(69,4),(71,5),(71,14),(195,7)]
def aoQ:List (Nat×Nat×List M):=[(10,20,mS),(26,16,m4),(26,32,m4),(61,31,mS),(61,57,m2),(74,2,[.F,.F,.F,.O m3,.F]),(74,3,[.F,.F,.F,.O m3,.F]),(81,35,m2),(82,47,m5),(85,46,m5),(85,67,m5),(100,21,mS),(102,77,m5),(104,12,m4),(104,38,m4),(105,5,m5),(105,18,m5),(110,32,m2),(111,29,m5),(111,32,m5),(113,76,m5),(114,27,m5),(115,5,m5),(116,68,m4),(120,2,[.F,.F,.O m3]),(120,3,[.F,.F,.O m3]),(130,46,[.F,.F,.F,.O [.F]]),(130,67,m5),(132,24,m5),(132,28,m5),(133,25,m5),(157,45,m5),(158,82,m3),(161,5,m3),(161,18,m3),(162,25,m5),(162,53,m4),(163,59,m5),(164,9,m5),(164,10,m5),(164,32,m5),(164,40,m5),(166,10,m5),(166,47,m5),(170,48,m3),(181,37,m3),(181,50,m3),(189,8,m5),(189,45,m5),(190,43,m5),(194,8,m3),(194,25,m3),(206,25,m3),(210,53,m3),(210,115,m3)]
def ai1:List (Nat×Nat×List M):=[]
def amc:List (Nat×Nat×List M):=[(3,6,[.F,.F,.F,.O [.F,.F,.F,.O [.F]],.O m2,.F,.O mS,.O m5,.O m5,.O m2]),(3,13,[.F,.F,.F,.O [.F,.F,.F,.O [.F]],.O m2,.F,.O mS,.O m5,.O m5,.O m2]),(3,15,[.F,.F,.F,.O [.F,.F,.F,.O [.F]],.O m2,.F,.O mS,.O m5,.O m5,.O m2]),(3,16,[.F,.F,.F,.O [.F,.F,.F,.O [.F]],.O m2,.F,.O mS,.O m5,.O m5,.O m2]),(4,3,[.F,.F,.F,.O [.F,.F,.F,.O [.F]],.O m2,.F,.O mS,.O m5,.O m5,.O m2]),(4,4,[.F,.F,.F,.O [.F,.F,.F,.O [.F]],.O m2,.F,.O mS,.O m5,.O m5,.O m2]),(5,3,[.F,.F,.F,.O [.F,.F,.F,.O [.F]],.O m2,.F,.O mS,.O m5,.O m5,.O m2]),(5,4,[.F,.F,.F,.O [.F,.F,.F,.O [.F]],.O m2,.F,.O mS,.O m5,.O m5,.O m2]),(6,3,[.F,.F,.F,.O [.F,.F,.F,.O [.F]],.O m2,.F,.O mS,.O m5,.O m5,.O m2]),(6,5,[.F,.F,.F,.O [.F,.F,.F,.O [.F]],.O m2,.F,.O mS,.O m5,.O m5,.O m2]),(6,6,[.F,.F,.F,.O [.F,.F,.F,.O [.F]],.O m2,.F,.O mS,.O m5,.O m5,.O m2]),(10,2,[.F,.F,.F,.O [.F,.F,.F,.O [.F]],.O m2,.F,.O mS,.O m5,.O m5,.O m2]),(10,8,[.F,.F,.F,.O [.F,.F,.F,.O [.F]],.O m2,.F,.O mS,.O m5,.O m5,.O m2]),(10,11,[.F,.F,.F,.O [.F,.F,.F,.O [.F]],.O m2,.F,.O mS,.O m5,.O m5,.O m2]),(10,3,[.F,.F,.F,.O [.F,.F,.F,.O [.F]],.O m2,.F,.O mS,.O m5,.O m5,.O m2]),(11,4,[.F,.F,.F,.O [.F,.F,.F,.O [.F]],.O m2,.F,.O mS,.O m5,.O m5,.O m2]),(11,6,[.F,.F,.F,.O [.F,.F,.F,.O [.F]],.O m2,.F,.O mS,.O m5,.O m5,.O m2]),(14,2,[.F,.F,.F,.O [.F,.F,.F,.O [.F]],.O m2,.F,.O mS,.O m5,.O m5,.O m2]),(15,4,[.F,.F,.F,.O [.F,.F,.F,.O [.F]],.O m2,.F,.O mS,.O m5,.O m5,.O m2]),(15,5,[.F,.F,.F,.O [.F,.F,.F,.O [.F]],.O m2,.F,.O mS,.O m5,.O m5,.O m2]),(18,5,mS),(21,2,[.F,.F,.F,.O m4,.O m2,.F,.O mS,.O m5,.O m5,.O m2]),(22,2,[.F,.F,.F,.O [.F,.F,.F,.O [.F]],.O m2,.F,.O mS,.O m5,.O m5,.O m2]),(22,3,[.F,.F,.F,.O [.F,.F,.F,.O [.F]],.O m2,.F,.O mS,.O m5,.O m5,.O m2]),(24,7,[.F,.O m3]),(26,2,[.F,.F,.F,.O m4,.O m2,.F,.O mS,.O m5,.O m5,.O m2]),(26,5,[.F,.F,.F,.O m4,.O m2,.F,.O mS,.O m5,.O m5,.O m2]),(26,6,[.F,.F,.F,.O m4,.O m2,.F,.O mS,.O m5,.O m5,.O m2]),(26,9,[.F,.F,.F,.O m3]),(27,4,[.F,.F,.F,.O [.F,.F,.F,.O [.F]],.O m2,.F,.O mS,.O m5,.O m5,.O m2]),(27,5,[.F,.F,.F,.O [.F,.F,.F,.O [.F]],.O m2,.F,.O mS,.O m5,.O m5,.O m2]),(27,7,[.F,.F,.F,.O m3]),(30,30,[.O [.F],.F,.F]),(34,2,[.F,.F,.F,.O [.F,.F,.F,.O [.F]],.O m2,.F]),(34,6,[.F,.F,.F,.O [.F,.F,.F,.O [.F]],.O m2,.F]),(34,8,[.F,.F,.F,.O [.F,.F,.F,.O [.F]],.O m2,.F]),(35,2,mS),(35,6,mS),(35,8,mS),(36,1,[.F,.F,.F,.O [.F,.O m3,.F,.O [.F]],.O m2,.F,.O [.F,.O [.F,.F,.O m3],.F,.O m2,.O [.F,.F,.O m3]],.O [.F,.F,.F,.O m3,.F],.O [.F,.F,.F,.O m3,.F],.O [.F,.O m3]]),(36,2,[.F,.F,.F,.O [.F,.O m3,.F,.O [.F]],.O m2,.F,.O [.F,.O [.F,.F,.O m3],.F,.O m2,.O [.F,.F,.O m3]],.O [.F,.F,.F,.O m3,.F],.O [.F,.F,.F,.O m3,.F],.O [.F,.O m3]]),(36,17,[.F,.F,.F,.O [.F,.O m3,.F,.O [.F]],.O m2,.F,.O [.F,.O [.F,.F,.O m3],.F,.O m2,.O [.F,.F,.O m3]],.O [.F,.F,.F,.O m3,.F],.O [.F,.F,.F,.O m3,.F],.O [.F,.O m3]]),(36,3,[.F,.F,.F,.O [.F,.O m3,.F,.O [.F]],.O m2,.F,.O [.F,.O [.F,.F,.O m3],.F,.O m2,.O [.F,.F,.O m3]],.O [.F,.F,.F,.O m3,.F],.O [.F,.F,.F,.O m3,.F],.O [.F,.O m3]]),(36,5,[.F,.O [.F,.F,.O m3],.F,.O m2,.O [.F,.F,.O m3]]),(36,7,[.F,.O m3]),(37,4,mS),(43,5,mS),(44,5,[.F,.O m3,.F,.O [.F]]),(51,6,mS),(51,8,[.F,.F,.O m3]),(52,4,mS),(52,6,[.F,.F,.O m3]),(53,4,mS),(53,6,[.F,.F,.O m3]),(56,4,[.F,.F,.F,.O m4,.O m2,.F,.O mS,.O m5,.O m5,.O m2]),(56,5,[.F,.F,.F,.O m4,.O m2,.F,.O mS,.O m5,.O m5,.O m2]),(61,2,[.F,.F,.F,.O m4,.O m2,.F,.O mS,.O m5,.O m5,.O m2]),(61,15,[.F,.F,.F,.O m4,.O m2,.F,.O mS,.O m5,.O m5,.O m2]),(61,3,[.F,.F,.F,.O m4,.O m2,.F,.O mS,.O m5,.O m5,.O m2]),(63,4,[.F,.F,.F,.O m3]),(63,22,[.F,.F,.F,.O m3]),(63,28,[.F,.F,.F,.O m3]),(63,5,[.F,.F,.F,.O m3]),(63,40,[.F,.F,.F,.O m3]),(63,50,[.F,.F,.F,.O m3]),(63,54,[.F,.F,.F,.O m3]),(63,33,[.F,.F,.F,.O m3]),(73,1,[.F,.F,.F,.O [.F,.O m3,.F,.O [.F]],.O m2,.F]),(73,2,[.F,.F,.F,.O [.F,.O m3,.F,.O [.F]],.O m2,.F]),(73,3,[.F,.F,.F,.O [.F,.O m3,.F,.O [.F]],.O m2,.F]),(73,5,[.F,.O m3,.F,.O [.F]]),(74,5,[.F,.F,.F,.O m3,.F]),(75,2,[.F,.O [.F,.F,.O m3],.F,.O m2,.O [.F,.F,.O m3]]),(75,16,[.F,.O [.F,.F,.O m3],.F,.O m2,.O [.F,.F,.O m3]]),(77,6,[.F,.O m3,.F,.O [.F]]),(79,6,[.F,.F,.F,.O m3,.F]),(80,4,[.F,.O m3]),(80,8,[.F,.O m3,.F,.O [.F]]),(82,7,[.F,.F,.F,.O m3,.F]),(85,5,[.F,.O m3,.F,.O [.F]]),(99,7,[.F,.F,.O m3]),(100,2,[.F,.F,.F,.O m4,.O m2,.F,.O mS,.O m5,.O m5,.O m2]),(100,8,[.F,.F,.F,.O m4,.O m2,.F,.O mS,.O m5,.O m5,.O m2]),(100,11,[.F,.F,.F,.O m4,.O m2,.F,.O mS,.O m5,.O m5,.O m2]),(100,3,[.F,.F,.F,.O m4,.O m2,.F,.O mS,.O m5,.O m5,.O m2]),(102,4,[.F,.F,.F,.O m3,.F]),(104,2,[.F,.F,.F,.O m4,.O m2,.F]),(104,3,[.F,.F,.F,.O m4,.O m2,.F]),(104,5,[.F,.O m3,.F,.O [.F]]),(106,2,mS),(106,17,mS),(111,5,[.F,.F,.F,.O m3,.F]),(120,5,[.F,.F,.O m3]),(124,5,[.O m2,.O m3]),(124,7,[.F,.F,.O m3]),(126,8,[.F,.F,.O m3]),(126,9,[.F,.F,.O m3]),(132,8,[.F,.F,.F,.O m3,.F]),(133,6,[.F,.F,.O m3]),(137,8,[.F,.F,.F,.O m3,.F]),(137,18,[.F,.F,.F,.O m3,.F]),(155,2,[.F,.F,.F,.O m4,.O m2,.F]),(155,6,[.F,.F,.F,.O m4,.O m2,.F]),(155,8,[.F,.F,.F,.O m4,.O m2,.F]),(156,2,mS),(156,6,mS),(156,8,mS),(160,2,[.F,.F,.F,.O m3,.F]),(162,38,[.F,.O m3,.F,.O [.F]]),(162,6,[.F,.O m3,.F,.O [.F]]),(181,30,[.F,.F,.O m3]),(181,8,[.F,.F,.O m3]),(187,2,[.F,.F,.O m3]),(191,12,[.F,.F,.O m3]),(191,7,[.F,.F,.O m3]),(194,9,[.O m2,.O m3,.O [.F]]),(196,6,[.F,.F,.O m3]),(200,7,[.F,.F,.O m3]),(206,13,[.O m2,.O m3,.O [.F]])]
def amd:List (Nat×Nat×List M):=[(8,0,[.O m2]),(8,1,[.O m3]),(10,0,[.F,.F,.F,.O [.F,.F,.F,.O [.F]],.O m2,.F,.O mS,.O m5,.O m5,.O m2]),(11,0,[.F,.F,.F,.O [.F,.F,.F,.O [.F]],.O m2,.F,.O mS,.O m5,.O m5,.O m2]),(12,0,[.O [.F]]),(14,0,[.F,.F,.F,.O [.F,.F,.F,.O [.F]],.O m2,.F,.O mS,.O m5,.O m5,.O m2]),(15,0,[.F,.F,.F,.O [.F,.F,.F,.O [.F]],.O m2,.F,.O mS,.O m5,.O m5,.O m2]),(17,0,[.O m2]),(18,0,[.O m2]),(21,0,[.F,.F,.F,.O m4,.O m2,.F,.O mS,.O m5,.O m5,.O m2]),(22,0,[.F,.F,.F,.O [.F,.F,.F,.O [.F]],.O m2,.F,.O mS,.O m5,.O m5,.O m2]),(24,0,[.O m2]),(25,0,[.O m2]),(26,0,[.F,.F,.F,.O m4,.O m2,.F,.O mS,.O m5,.O m5,.O m2]),(26,1,[.O m4]),(27,0,[.F,.F,.F,.O [.F,.F,.F,.O [.F]],.O m2,.F,.O mS,.O m5,.O m5,.O m2]),(30,0,[.O [.F],.F,.F]),(31,0,[.O m2]),(32,0,[.O m3]),(34,0,[.F,.F,.F,.O [.F,.F,.F,.O [.F]],.O m2,.F]),(35,0,mS),(36,0,[.F,.F,.F,.O [.F,.O m3,.F,.O [.F]],.O m2,.F,.O [.F,.O [.F,.F,.O m3],.F,.O m2,.O [.F,.F,.O m3]],.O [.F,.F,.F,.O m3,.F],.O [.F,.F,.F,.O m3,.F],.O [.F,.O m3]]),(38,1000,[.F,.F,.F,.O [.F,.F,.F,.O [.F]],.O m2,.F,.O mS,.O m5,.O m5,.O m2]),(41,0,[.O [.F]]),(42,0,[.O [.F]]),(45,1000,[.F,.F,.F,.O [.F,.F,.F,.O [.F]],.O m2,.F,.O mS,.O m5,.O m5,.O m2]),(47,0,[.O m2]),(48,0,[.O m2]),(49,0,[.O m2]),(50,0,[.O m2]),(56,0,[.F,.F,.F,.O m4,.O m2,.F,.O mS,.O m5,.O m5,.O m2]),(58,1000,[.F,.F,.F,.O [.F,.F,.F,.O [.F]],.O m2,.F,.O mS,.O m5,.O m5,.O m2]),(60,0,[.O m2]),(61,0,[.F,.F,.F,.O m4,.O m2,.F,.O mS,.O m5,.O m5,.O m2]),(63,0,[.F,.F,.F,.O m3]),(64,1000,[.F,.F,.F,.O m4,.O m2,.F,.O mS,.O m5,.O m5,.O m2]),(67,0,[.O m2]),(70,0,[.O m3]),(73,0,[.F,.F,.F,.O [.F,.O m3,.F,.O [.F]],.O m2,.F]),(74,0,[.O [.F,.F,.F,.O m3,.F]]),(75,0,[.F,.O [.F,.F,.O m3],.F,.O m2,.O [.F,.F,.O m3]]),(76,0,[.O m3]),(81,1000,[.F,.F,.F,.O [.F,.F,.F,.O [.F]],.O m2,.F,.O mS,.O m5,.O m5,.O m2]),(82,1000,[.F,.F,.F,.O [.F,.F,.F,.O [.F]],.O m2,.F,.O mS,.O m5,.O m5,.O m2]),(83,1000,[.F,.F,.F,.O [.F,.F,.F,.O [.F]],.O m2,.F,.O mS,.O m5,.O m5,.O m2]),(84,1000,[.F,.F,.F,.O [.O []],.O [.O []],.F,.O [.O []],.O m5,.O [.O []],.O [.O []]]),(85,0,[.O m5]),(86,1000,[.F,.F,.F,.O [.F,.F,.F,.O [.F]],.O m2,.F]),(90,1000,[.F,.F,.F,.O [.F,.F,.F,.O [.F]],.O m2,.F,.O mS,.O m5,.O m5,.O m2]),(92,0,[.O m2]),(93,0,[.O m2]),(98,0,[.O m3]),(100,0,[.F,.F,.F,.O m4,.O m2,.F,.O mS,.O m5,.O m5,.O m2]),(102,1000,[.F,.F,.F,.O [.F,.F,.F,.O [.F]],.O m2,.F,.O mS,.O m5,.O m5,.O m2]),(103,0,[.O m2]),(104,0,[.F,.F,.F,.O m4,.O m2,.F]),(105,0,[.O m5]),(106,0,mS),(107,0,[.O m3]),(110,1000,[.F,.F,.F,.O m4,.O m2,.F,.O mS,.O m5,.O m5,.O m2]),(111,1000,[.F,.F,.F,.O m4,.O m2,.F,.O mS,.O m5,.O m5,.O m2]),(113,1000,[.F,.F,.F,.O m4,.O m2,.F,.O mS,.O m5,.O m5,.O m2]),(114,1000,[.F,.F,.F,.O [.O []],.O [.O []],.F,.O [.O []],.O m5,.O [.O []],.O [.O []]]),(115,0,[.O m5]),(116,1000,[.F,.F,.F,.O m4,.O m2,.F]),(118,0,[.O [.F]]),(119,0,[.O m2]),(120,0,[.O [.F,.F,.O m3]]),(124,0,[.O m2]),(124,1,[.O m3]),(130,0,[.O m5]),(130,1000,[.F,.F,.F,.O [.F,.F,.F,.O [.F]],.O m2,.F]),(131,0,[.O m5]),(132,0,[.O m5]),(132,1000,[.F,.F,.F,.O [.F,.F,.F,.O [.F]],.O m2,.F,.O mS,.O m5,.O m5,.O m2]),(133,1000,[.F,.F,.F,.O [.F,.F,.F,.O [.F]],.O m2,.F,.O mS,.O m5,.O m5,.O m2]),(134,1000,mS),(137,0,[.F,.F,.F,.O m3,.F]),(155,0,[.F,.F,.F,.O m4,.O m2,.F]),(156,0,mS),(157,1000,[.F,.F,.F,.O [.F,.F,.F,.O [.F]],.O m2,.F,.O mS,.O m5,.O m5,.O m2]),(158,1000,mS),(159,1000,[.F,.F,.F,.O [.F,.F,.F,.O [.F]],.O m2,.F]),(160,0,[.F,.F,.F,.O m3,.F]),(161,0,[.O m3]),(162,0,[.O m5]),(162,1000,[.F,.F,.F,.O m4,.O m2,.F]),(163,1000,[.F,.F,.F,.O m4,.O m2,.F,.O mS,.O m5,.O m5,.O m2]),(164,0,[.O m5]),(164,1,[.O m5]),(165,1000,mS),(166,0,[.O m5]),(170,1000,[.O m2,.O m3]),(181,1000,mS),(184,0,[.O m3]),(187,0,[.F,.F,.O m3]),(189,0,[.O m5]),(190,1000,[.F,.F,.F,.O m4,.O m2,.F,.O mS,.O m5,.O m5,.O m2]),(191,1000,mS),(192,1000,[.F,.F,.F,.O m4,.O m2,.F]),(194,0,[.O m2]),(194,1,[.O m3]),(195,0,[.O [.F]]),(203,0,[.O m3]),(204,1000,mS),(206,1000,mS),(210,1000,[.O m2,.O m3,.O [.F]])]
def ame:List (Nat×Nat×Nat):=[(86,30,1),(116,45,1),(134,29,1),(165,39,1)]
def aoR:List (Nat×Nat×List (Nat×Nat)):=[(111,7,[(0,7)]),(210,16,[(0,1)])]
def amf:List (Nat):=[208]
def aD:FuncId->Option (List Arg->R3 fV):=fun f=>cond (Nat.beq f 40) (some FK) <| cond (Nat.beq f 42) (some xq) <| cond (Nat.beq f 47) (some (oC tP)) <| cond (Nat.beq f 49) (some zF) <| cond (Nat.beq f 51) (some xu) <| cond (Nat.beq f 76) (some (oC tO)) <| cond (Nat.beq f 92) (some (zD tP)) <| cond (Nat.beq f 118) (some (oC tI)) <| cond (Nat.beq f 119) (some (oC tC)) <| cond (Nat.beq f 131) (some (uh tW)) <| cond (Nat.beq f 184) (some (uh tR)) <| none
def Qx {α:Type} (d:α) (f x:Nat):List (Nat×Nat×α)->α
 | []=>d
 | (a,b,c)::r=>cond (Nat.beq f a&&Nat.beq x b) c (Qx d f x r)
def CX:Ctx where
 ty:=Qh agx
 fn:=fun f=>UC f YK
 sig:=alX agx YK aoO
 own:=fun f d=>!(aoP.any fun x=>Nat.beq x.1 f&&Nat.beq x.2 d)
 ms:=fun f d=>Qx [] f d aoQ
 cut:=fun f d=>Qx 0 f d ame
 cast:=fun f d=>Qx [] f d ai1
 box:=fun f d=>Qx [] f d amc
 rg:=fun f d=>Qx [] f d aoR
 ret:=fun f=>amf.any (Nat.beq f)
 can:=fun f q=>Qx [] f q amd
end
end Go.Proofs.YtpchnmbcbcfhjaaGreat

