/- Calls of functions that are given variables by their address, and the contracts of such functions from their bodies: what is told of them is a statement. Own work. -/
import Derived.Test.YtcnddedeeplbcaaGreatAbsCell
import Derived.Test.YtcnddedeeplbcaaGreatAbsTac
namespace Go.Abs
set_option linter.unusedVariables false

theorem objs_whole (st:St) {o:Nat} (ho:o < st.next):Objs st.whole o=st.obj o:=by
 unfold Objs St.whole
 rw [List.getD_eq_getElem?_getD,wholeFrom_get st _ _ _ ho,Nat.zero_add];rfl
theorem whole_len (st:St):st.whole.length=st.next:=wholeFrom_length st _ _

theorem CallK_cell {P:Program} {st:St} {fid:FuncId} {avs:List AV} {K:AV -> St -> Prop} (os:List Nat) {as:List AV} {xs:List AObj} {R:AV -> List AObj -> Prop} (he:enters P fid=true) (hc:CtrC P fid as xs R)
  (hv:as.map (AV.renF (0 :: os))=avs) (hx:os.map st.obj=xs)
  (hK:∀ r0 xs',R r0 xs' -> os.length <= xs'.length -> K (r0.renF (cellIds os st.next xs'.length)) (st.behind (setAll st.whole os xs' ++ xs'.drop os.length)))
  (hn:os.Nodup:=by simp) (hlt:∀ o ∈ os,o < st.next:=by simp) (hnr:∀ x ∈ xs,x.NoRef:=by simp [AObj.NoRef,Leaf.isDat]) (has:∀ a ∈ as,a.Mid (xs.length + 1):=by simp [AV.Mid,AV.Mid1,Leaf.Mid,Ptr.Mid]):CallK P st fid avs K:=by
 subst hv
 have hxs:os.map (Objs st.whole)=xs:=by
  rw [<- hx]
  exact List.map_congr_left fun o ho=>objs_whole st (hlt o ho)
 have hw:=hc.whole os st.whole hn (fun o ho=>by rw [whole_len];exact hlt o ho) hxs hnr has
 refine CallK_whole he hw rfl (hc.inh os st.whole (by rw [<- hx,List.length_map])) ?_
 rintro r ys ⟨r0,xs',h1,h2,rfl,rfl⟩
 rw [whole_len]
 exact hK r0 xs' h1 h2

def FinC (P:Program) (fn:Func) (l:List (Nat × Obj)) (xs:List AObj) (R:AV -> List AObj -> Prop):Exit -> St -> Prop :=
 FinR P fn (.ballast l :: xs) fun r ys=>∃ xs',ys=.ballast l :: xs' /\ (∀ x ∈ xs',x.NoRef) /\ r.Mid (xs'.length + 1) /\ R r xs'
def FinCN (P:Program) (fn:Func) (l:List (Nat × Obj)) (xs:List AObj) (R:AV -> List AObj -> Prop) (st:St):Prop:=FinC P fn l xs R .normal st
theorem FinC_normal {P:Program} {fn:Func} {l:List (Nat × Obj)} {xs:List AObj} {R:AV -> List AObj -> Prop} {st:St}:FinC P fn l xs R .normal st=FinCN P fn l xs R st:=rfl
theorem FinC_ret {P:Program} {fn:Func} {l:List (Nat × Obj)} {xs:List AObj} {R:AV -> List AObj -> Prop} {st:St}:FinC P fn l xs R .ret st=FinCN P fn l xs R st:=by
 simp [FinC,FinCN,FinR]

theorem CtrC.body {P:Program} {f:FuncId} {fn:Func} {c:Code} {as:List AV} {xs:List AObj} {R:AV -> List AObj -> Prop} (hm:P.follows .mixedOrders=true) (hf:P.funcs[f]?=some fn) (hb:fn.body=some c)
  (hbody:∀ l:List (Nat × Obj),wpA P (xs.length + 1) c (FinC P fn l xs R) (mkSt (argEnv 0 as) (.ballast l :: xs)))
  (hi:∃ r xs',R r xs' /\ xs.length <= xs'.length) (hok:codeOk fn.ntmps c=true:=by kernel_rfl) (hn:as.length <= fn.ntmps:=by exact Nat.le_of_ble_eq_true rfl):CtrC P f as xs R :=
 ⟨hi,fun l=>CtrW.of_body hm hf hb hok hn (hbody l)⟩

theorem low_noref {l:List (Nat × Obj)} {xs':List AObj} (h:∀ x ∈ xs',x.NoRef):LowAll [] (.ballast l :: xs'):=by
 refine ⟨by simp,fun x hx=>?_⟩
 rcases List.mem_cons.1 hx with rfl | hx
 ·trivial
 ·have:=h x hx
  cases x with
  | box c =>
   intro lf hl
   have h2:=this lf hl
   cases lf <;> first | trivial | (simp [Leaf.isDat] at h2)
  | pin _ _=>exact this.elim
  | dead=>trivial
  | hole=>trivial
  | vec _ _ _=>trivial
  | frz _ _=>trivial
  | wide _ _ _=>trivial
  | ballast _=>trivial
theorem mid_low {r:AV} {n:Nat} (h:r.Mid n):r.Low n:=by
 have p:∀ {q:Ptr},q.Mid n -> q.Low n:=fun {q} h=>by cases q <;> first | trivial | exact h.2
 have lf:∀ {q:Leaf},q.Mid n -> q.Low n:=fun {q} h=>by
  cases q with
  | dat d=>trivial
  | emp=>trivial
  | own o=>exact h.2
  | part o i m=>exact h.2
  | ptr q=>exact p h
  | fn f caps=>exact fun c hc=>p (h c hc)
 have a1:∀ {q:AV},q.Mid1 n -> q.Low1 n:=fun {q} h=>by
  cases q with
  | one l=>exact lf h
  | agg ls=>exact fun l hl=>lf (h l hl)
  | tup vs=>trivial
  | ifg b v=>trivial
 cases r with
 | one l=>exact a1 (q:=.one l) h
 | agg ls=>exact a1 (q:=.agg ls) h
 | tup vs=>exact fun v hv=>a1 (h v hv)
 | ifg b v=>exact a1 h

theorem FinCN.nt {P:Program} {fn:Func} {l:List (Nat × Obj)} {xs:List AObj} {R:AV -> List AObj -> Prop} {st:St} {rvs:Array ResultVar} {q:Prop} {rs:List AV} (h1:fn.results=rvs) (ids:List Nat) (r:AV) (xs':List AObj) (hR:R r xs') (hq:q)
  (h3:packA rs=r.renF (0 :: ids)) (h7:objsLe st (0 :: ids) (0 :: ids) (.ballast l :: xs'))
  (hlen:xs.length <= xs'.length:=by simp) (hcomp:∀ o,o < xs.length -> Compat (Objs xs o) (Objs xs' o):=by first | (simp [Objs,Compat];done) | (intro o ho;have:o=0 \/ o=1:=by { simp at ho;omega };rcases this with rfl | rfl <;> simp [Objs,Compat]) | fail) (hno:∀ x ∈ xs',x.NoRef:=by simp [AObj.NoRef,Leaf.isDat]) (hmid:r.Mid (xs'.length + 1):=by simp [AV.Mid,AV.Mid1,Leaf.Mid,Ptr.Mid])
  (h2:resA P st rvs.toList=some (q,rs):=by simp (maxSteps:=2000000) only [go_sem,↓reduceIte,reduceCtorEq,Nat.reduceAdd,Nat.reduceMul,Nat.reduceSub,Nat.reduceLT,Nat.reduceLeDiff,Nat.reduceEqDiff,Int.reduceToNat,Int.reduceLT,Int.reduceLE,Int.reduceNeg,resA];rfl)
  (h4:xs.length <= ids.length:=by simp) (h5:(0 :: ids).take (xs.length + 1)=List.range (xs.length + 1):=by rfl) (h6:(0 :: ids).Nodup:=by simp):FinCN P fn l xs R st :=
 ⟨.inl rfl,r,.ballast l :: xs',⟨xs',rfl,hno,hmid,hR⟩,Nat.succ_le_succ hlen,fun o ho=>by
   cases o with
   | zero=>exact Compat.refl _
   | succ o=>exact hcomp o (Nat.lt_of_succ_lt_succ ho),low_noref hno,mid_low hmid,Fin.intro h1 (0 :: ids) h2 hq h3 (Nat.succ_le_succ h4) h5 h6 h7⟩
theorem renF_isDat {ids:List Nat} {r:AV} (h:r.isDat=true):r.renF ids=r:=by
 have hl:∀ {l:Leaf},l.isDat=true -> l.renF ids=l:=fun {l} h=>by cases l <;> first | rfl | (simp [Leaf.isDat] at h)
 cases r with
 | one l=>exact congrArg AV.one (hl h)
 | agg ls =>
  show AV.agg _=_
  have:List.map (Leaf.renF ids) ls=List.map id ls:=List.map_congr_left fun l hm=>hl (List.all_eq_true.1 h l hm)
  rw [this,List.map_id]
 | tup vs=>cases h
 | ifg b v=>cases h
theorem FinCN.nd {P:Program} {fn:Func} {l:List (Nat × Obj)} {xs:List AObj} {R:AV -> List AObj -> Prop} {st:St} {rvs:Array ResultVar} {q:Prop} {rs:List AV} (h1:fn.results=rvs) (ids:List Nat) (hR:R (packA rs) (ids.map st.obj)) (hq:q)
  (h2:resA P st rvs.toList=some (q,rs):=by simp (maxSteps:=2000000) only [go_sem,↓reduceIte,reduceCtorEq,Nat.reduceAdd,Nat.reduceMul,Nat.reduceSub,Nat.reduceLT,Nat.reduceLeDiff,Nat.reduceEqDiff,Int.reduceToNat,Int.reduceLT,Int.reduceLE,Int.reduceNeg,resA];rfl)
  (hr:(packA rs).isDat=true:=by rfl) (h0:st.obj 0=.ballast l:=by rfl) (hn0:0 < st.next:=by simp) (hlt:∀ o ∈ ids,o < st.next:=by simp)
  (hcomp:∀ o,o < xs.length -> Compat (Objs xs o) (Objs (ids.map st.obj) o):=by first | (simp [Objs,Compat,St.obj,find];done) | (intro o ho;have:o=0 \/ o=1:=by { simp at ho;omega };rcases this with rfl | rfl <;> simp [Objs,Compat,St.obj,find]) | fail)
  (hno:∀ x ∈ ids.map st.obj,x.NoRef:=by simp [AObj.NoRef,Leaf.isDat,St.obj,find])
  (h4:xs.length <= ids.length:=by simp) (h5:(0 :: ids).take (xs.length + 1)=List.range (xs.length + 1):=by rfl) (h6:(0 :: ids).Nodup:=by simp):FinCN P fn l xs R st:=by
 have hmid:(packA rs).Mid ((ids.map st.obj).length + 1):=by
  have hl:∀ {q:Leaf} {n:Nat},q.isDat=true -> q.Mid n:=fun {q n} h=>by cases q <;> first | trivial | (simp [Leaf.isDat] at h)
  generalize packA rs=r at hr
  cases r with
  | one l=>exact hl hr
  | agg ls=>exact fun l hm=>hl (List.all_eq_true.1 hr l hm)
  | tup vs=>cases hr
  | ifg b v=>cases hr
 have hren:∀ x,x.NoRef -> ∀ L:List Nat,x=AObj.renF L x:=fun x hx L=>by
  cases x with
  | box c =>
   show _=AObj.box _
   have:List.map (Leaf.renF L) c=List.map id c:=List.map_congr_left fun l hm=>by
    have:=hx l hm
    cases l <;> first | rfl | (simp [Leaf.isDat] at this)
   rw [this,List.map_id]
  | _=>rfl
 have ho:∀ (L:List Nat),(∀ o ∈ L,o < st.next) -> (∀ x ∈ L.map st.obj,x.NoRef) -> objsLe st (0 :: ids) L (L.map st.obj):=fun L=>by
  induction L with
  | nil=>intro _ _;trivial
  | cons a L ih =>
   intro hl hn
   exact ⟨⟨hl a (by simp),.inr (hren _ (hn _ (by simp)) _)⟩,ih (fun o h=>hl o (by simp [h])) fun x h=>hn x (List.mem_cons_of_mem _ h)⟩
 exact FinCN.nt h1 ids (packA rs) (ids.map st.obj) hR hq (renF_isDat hr).symm ⟨⟨hn0,.inr h0⟩,ho ids hlt hno⟩ (by simpa using h4) hcomp hno hmid h2 h4 h5 h6
theorem FinCN.ent {P:Program} {fn:Func} {l:List (Nat × Obj)} {xs:List AObj} {R:AV -> List AObj -> Prop} {st st1:St} (h:Ent (xs.length + 1) st st1) (hf:FinCN P fn l xs R st1):FinCN P fn l xs R st:=by
 obtain ⟨he,r,objs',h1,h2,h3,h4,h5,h6⟩:=hf
 exact ⟨he,r,objs',h1,h2,h3,h4,h5,Fin.ent h h6⟩

attribute [go_sem] FinC_normal FinC_ret wholeFrom St.whole setAll cellIds AV.renF AV.renF1 Leaf.renF Ptr.renF
theorem SR.takeO {B:Base} {N:Nat} {st:St} {β:Nat -> Info} {φ:Nat -> List Nat} {a:Act} {w:World} (h:SR B N st β φ a w) {o sz n:Nat} {sep:Bool} {rows:List (List D)} (eo:st.obj o=.vec sz sep rows) (hf:flatRows rows \/ sep=true) (hn:n <= rows.length) {bs:Option Addr} (hbs:0 < (β o).cap -> bs=(β o).base) :
  ∃ β' φ',SR B N ((killAll st [o]).addObj (.vec sz true (rows.take n))) β' φ' a w /\ (st.ctx w β φ).Le (((killAll st [o]).addObj (.vec sz true (rows.take n))).ctx w β' φ') /\
   AVRel (((killAll st [o]).addObj (.vec sz true (rows.take n))).ctx w β' φ') (.one (.own st.next)) (.slice bs n (β o).cap):=by
 rcases hf with hf | rfl
 ·exact h.take (.inl ⟨sep,eo,hf⟩) hn hbs
 have hon:o < st.next:=lt_next h (by rw [eo];simp)
 have hks:∀ k ∈ [o],k < st.next:=by simpa using hon
 have ho:=h.objs o
 unfold ObjRel at ho
 rw [show (st.ctx w β φ).ob o=_ from eo] at ho
 obtain ⟨h1,h2,h3⟩:=ho
 have h2:rows.length <= (β o).cap:=h2
 by_cases hc:(β o).cap=0
 ·have hr0:rows=[]:=List.eq_nil_of_length_eq_zero (by omega)
  subst hr0
  simp only [List.length_nil,Nat.le_zero] at hn
  subst hn
  obtain ⟨β',φ',le,sr,hp⟩:=h.newVec0 hks sz true bs
  rw [hc]
  exact ⟨β',φ',sr,le,hp⟩
 ·rcases h3 with ⟨_,h0⟩ | ⟨b,T,S,E,vs,hb,hheap,hvs,hrep,hφ,hS⟩
  ·exact absurd h0 hc
  ·simp only [if_true] at hS
   obtain ⟨hSn,hSE,hown⟩:=hS
   have hb:(β o).base=some ⟨b,0,none⟩:=hb
   have hheap:w.heap[b]?=some (.cells vs T (0,0)):=hheap
   obtain ⟨hsize,sd,hroom⟩:=hvs
   have hsize:vs.size=(β o).cap * sz:=hsize
   have hw:∀ r ∈ rows.take n,r.length=sz:=fun r hr=>h1 r (List.mem_of_mem_take hr)
   have hlen:(rows.take n).length=n:=by rw [List.length_take,Nat.min_eq_left hn]
   have hfl:(rows.take n).flatten.length=n * sz:=by rw [flatten_length hw,hlen]
   rw [show rows.flatten=(rows.take n).flatten ++ (rows.drop n).flatten by rw [<- List.flatten_append,List.take_append_drop]] at hown
   obtain ⟨S1,S2,rfl,o1,o2⟩:=hown.split
   rw [hfl] at o1 o2
   have hmul:n * sz <= rows.length * sz:=Nat.mul_le_mul_right sz hn
   have htt:(vs.toList.take (rows.length * sz)).take (n * sz)=vs.toList.take (n * sz):=by rw [List.take_take,Nat.min_eq_left hmul]
   rw [htt] at o1
   obtain ⟨d2,hd2⟩:∃ d2,RepL w d2 ((vs.toList.take (rows.length * sz)).drop (n * sz)) []:=⟨_,RepL.hdrs o2.rep.one⟩
   have hdrop:vs.toList.drop (n * sz)=(vs.toList.take (rows.length * sz)).drop (n * sz) ++ vs.toList.drop (rows.length * sz):=by
    conv=>lhs;rw [<- List.take_append_drop (rows.length * sz) vs.toList]
    rw [List.drop_append_of_le_length (by rw [List.length_take];exact Nat.le_min.2 ⟨hmul,by rw [Array.length_toList,hsize];exact Nat.le_trans hmul (Nat.mul_le_mul_right sz h2)⟩)]
   have hr2:RepL w (d2 ++ sd) (vs.toList.drop (n * sz)) []:=by
    rw [hdrop]
    exact RepL.append (S:=[]) (S':=[]) hd2 hroom
   have hnd:(b :: (S1 ++ S2)).Nodup \/ True:=.inr trivial
   have hEn:(b :: E).Nodup:=by rw [<- show φ o=b :: E from hφ];exact h.nodup o
   have hbS:b ∉ S1:=fun hm=>(List.nodup_cons.1 hEn).1 (hSE b (List.mem_append_left _ hm))
   have hS1:S1.Nodup:=(List.nodup_append.1 hSn).1
   obtain ⟨β',φ',le,sr,hp⟩:=h.newVec (ks:=[o]) (w':=w) hks (Frm.refl w _) (sz:=sz) (cap:=(β o).cap) (b:=b) (sep:=true) (rows:=rows.take n) (S:=S1) (E:=S1) (T:=T) (vs:=vs) hw (by rw [hlen];omega) hheap ⟨hsize,d2 ++ sd,by rw [hlen];exact hr2⟩ (by rw [hlen];exact o1.rep)
    (fun x hx=>by
      have hxo:x ∈ φ o:=by
       rw [show φ o=b :: E from hφ]
       rcases List.mem_cons.1 hx with rfl | hx
       ·exact List.mem_cons_self ..
       ·exact List.mem_cons_of_mem _ (hSE x (List.mem_append_left _ hx))
      exact ⟨(h.fp o x hxo).1,.inr ⟨o,by simp,hxo⟩⟩) (List.nodup_cons.2 ⟨hbS,hS1⟩) (by simp only [if_true];rw [hlen];exact ⟨hS1,fun _ hx=>hx,o1⟩)
   refine ⟨β',φ',sr,le,?_⟩
   rw [hlen] at hp
   rw [hbs (by omega),hb]
   exact hp
theorem Ent.partBoxO {nf:Nat} {st:St} {k j o sz n:Nat} {sep:Bool} {rows:List (List D)} {cells:List Leaf} (ek:st.obj k=.box cells) (hj:cells[j]?=some (.part o 0 n)) (eo:st.obj o=.vec sz sep rows) (hf:flatRows rows \/ sep=true) (hn:n <= rows.length) :
  Ent nf st (((killAll st [o]).addObj (.vec sz true (rows.take n))).setObj k (.box (cells.set j (.own st.next)))):=fun B N β φ a w hB h=>by
 have hko:k ≠ o:=fun e=>by subst e;rw [ek] at eo;cases eo
 have hkn:k < st.next:=lt_next h (by rw [ek];simp)
 have hb0:=h.objs k
 unfold ObjRel at hb0
 rw [show (st.ctx w β φ).ob k=_ from ek] at hb0
 obtain ⟨b,T,vs,hb,hφ,hheap,hL⟩:=hb0
 obtain ⟨v,hv,_,hp⟩:=hL.2 j _ hj
 rw [show (st.ctx w β φ).ob o=_ from eo] at hp
 obtain ⟨_,bs,rfl,hbs⟩:=hp
 have hbs':0 < (β o).cap -> bs=(β o).base:=fun hc=>by
  have:=hbs hc
  rw [this,Nat.zero_mul]
  show Option.map (fun x:Addr=>x.add 0) (β o).base=_
  cases (β o).base with
  | none=>rfl
  | some x=>obtain ⟨b,k,s⟩:=x;cases s <;> rfl
 obtain ⟨β',φ',sr,le,hnew⟩:=h.takeO eo hf hn hbs'
 generalize hs2:(killAll st [o]).addObj (.vec sz true (rows.take n))=st2 at sr le hnew ⊢
 have hk2:st2.obj k=.box cells:=by
  rw [<- hs2,St.obj_addObj_ne _ _ (by rw [killAll_next];omega),killAll_out [o] st k (by simp [hko]),ek]
 have hn2:st2.next=st.next + 1:=by rw [<- hs2];show (killAll st [o]).next + 1=_;rw [killAll_next]
 have hb2:=sr.objs k
 unfold ObjRel at hb2
 rw [show (st2.ctx w β' φ').ob k=_ from hk2] at hb2
 obtain ⟨b',T',vs',hb',hφ',hheap',hL'⟩:=hb2
 obtain ⟨_,hβk⟩:=le.obj k hkn (by rw [show (st.ctx w β φ).ob k=_ from ek];simp)
 have hβk:=hβk (by rw [show (st2.ctx w β' φ').ob k=_ from hk2];simp)
 have hbb:b'=b:=by
  have e1:(β' k).base=some ⟨b',0,none⟩:=hb'
  have e2:(β k).base=some ⟨b,0,none⟩:=hb
  have e3:β' k=β k:=hβk
  rw [e3,e2] at e1
  cases e1;rfl
 subst hbb
 have hvv:vs'=vs:=by
  have e1:w.heap[b']?=some (.cells vs' T' (0,0)):=hheap'
  have e2:w.heap[b']?=some (.cells vs T (0,0)):=hheap
  rw [e1] at e2
  cases e2;rfl
 subst hvv
 obtain ⟨_,sr3⟩:=sr.change (st':=st2.setObj k (.box (cells.set j (.own st.next)))) (β':=β') (φ':=φ') (w':=w) (fun o=>o=k) rfl (Nat.le_refl _) (fun o ho=>St.obj_setObj_ne st2 _ ho) (fun _ _=>rfl) (fun _ _=>rfl)
  (fun o ho=>by
    have ho:st2.next <= o:=ho
    rw [St.obj_setObj_ne st2 _ (by omega)]
    exact sr.dead o ho)
  (fun o ho _=>by subst ho;exact ⟨by rw [hk2,St.obj_setObj_same];trivial,fun _=>rfl⟩) (Frm.refl w _)
  (fun le3 o ho=>by
    subst ho
    unfold ObjRel
    rw [show ((st2.setObj o (.box (cells.set j (.own st.next)))).ctx w β' φ').ob o=_ from St.obj_setObj_same st2 o _]
    refine ⟨b',T',vs',hb',hφ',hheap',by rw [List.length_set];exact hL'.1,fun m l hm=>?_⟩
    by_cases hmj:m=j
    ·subst hmj
     have hlt:m < cells.length:=(List.getElem?_eq_some_iff.1 hj).1
     rw [List.getElem?_set_self hlt] at hm
     cases hm
     exact ⟨_,hv,LeafRel.mono le3 hnew⟩
    ·rw [List.getElem?_set_ne (fun e=>hmj e.symm)] at hm
     obtain ⟨x,hx,hl⟩:=hL'.2 m l hm
     exact ⟨x,hx,LeafRel.mono le3 hl⟩)
  (fun o _=>sr.nodup o) (fun o _ b hb=>⟨(sr.fp o b hb).1,.inr ⟨o,by assumption,hb⟩⟩) (fun o o' ho ho' hne=>absurd (ho.trans ho'.symm) hne)
 exact ⟨β',φ',sr3⟩
theorem Ent.partBox {nf:Nat} {st:St} {k j o sz n:Nat} {sep:Bool} {rows:List (List D)} {cells:List Leaf} (ek:st.obj k=.box cells) (hj:cells[j]?=some (.part o 0 n)) (eo:st.obj o=.vec sz sep rows) (hf:flatRows rows) (hn:n <= rows.length) :
  Ent nf st (((killAll st [o]).addObj (.vec sz true (rows.take n))).setObj k (.box (cells.set j (.own st.next)))) :=
 Ent.partBoxO ek hj eo (.inl hf) hn
end Go.Abs
