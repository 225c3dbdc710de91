/- Functions that are given variables by their address: a contract over these alone serves at every place. Own work. -/
import Derived.Test.YtcnddedeeplbcaaGreatAbsCode
namespace Go.Abs
set_option linter.unusedVariables false

def AObj.NoRef:AObj -> Prop
 | .box cells=>∀ l ∈ cells,l.isDat=true
 | .pin _ _=>False
 | .ballast _=>False
 | .hole=>False
 | _=>True

def Ptr.Mid (n:Nat):Ptr -> Prop
 | .own o _ _=>0 < o /\ o < n
 | _=>True
def Leaf.Mid (n:Nat):Leaf -> Prop
 | .own o=>0 < o /\ o < n
 | .part o _ _=>0 < o /\ o < n
 | .ptr p=>p.Mid n
 | .fn _ caps=>∀ c ∈ caps,c.Mid n
 | _=>True
def AV.Mid1 (n:Nat):AV -> Prop
 | .one l=>l.Mid n
 | .agg ls=>∀ l ∈ ls,l.Mid n
 | _=>True
def AV.Mid (n:Nat):AV -> Prop
 | .tup vs=>∀ v ∈ vs,v.Mid1 n
 | .ifg _ v=>v.Mid1 n
 | v=>v.Mid1 n

structure Moved (C C':Ctx) (ids:List Nat):Prop where
 w:C'.w=C.w
 M:∀ b,C'.M b ↔ C.M b
 ob:∀ k,0 < k -> k < C.n -> ids.getD k 0 < C'.n /\ C'.ob (ids.getD k 0)=C.ob k /\ C'.β (ids.getD k 0)=C.β k

theorem Moved.ptr {C C':Ctx} {ids:List Nat} (h:Moved C C' ids) {p:Ptr} (hp:p.Mid C.n) {v:Value}:PtrRel C' (p.renF ids) v ↔ PtrRel C p v:=by
 cases p with
 | own o i j =>
  obtain ⟨h1,h2,h3⟩:=h.ob o hp.1 hp.2
  show (ids.getD o 0 < C'.n /\ _) ↔ (o < C.n /\ _)
  rw [h2,h3]
  exact ⟨fun x=>⟨hp.2,x.2⟩,fun x=>⟨h1,x.2⟩⟩
 | ro sz rows i j =>
  show PtrRel C' (.ro sz rows i j) v ↔ PtrRel C (.ro sz rows i j) v
  unfold PtrRel
  rw [h.w]
  simp only [h.M]

theorem Moved.leaf {C C':Ctx} {ids:List Nat} (h:Moved C C' ids) {l:Leaf} (hp:l.Mid C.n) {v:Value}:LeafRel C' (l.renF ids) v ↔ LeafRel C l v:=by
 cases l with
 | dat d =>
  show (∃ S,Rep C'.w d v S /\ ∀ b ∈ S,¬ C'.M b) ↔ (∃ S,Rep C.w d v S /\ ∀ b ∈ S,¬ C.M b)
  rw [h.w]
  simp only [h.M]
 | emp=>exact Iff.rfl
 | own o =>
  obtain ⟨h1,h2,h3⟩:=h.ob o hp.1 hp.2
  show (ids.getD o 0 < C'.n /\ _) ↔ (o < C.n /\ _)
  rw [h2,h3]
  exact ⟨fun x=>⟨hp.2,x.2⟩,fun x=>⟨h1,x.2⟩⟩
 | part o i n =>
  obtain ⟨h1,h2,h3⟩:=h.ob o hp.1 hp.2
  show (ids.getD o 0 < C'.n /\ _) ↔ (o < C.n /\ _)
  rw [h2,h3]
  exact ⟨fun x=>⟨hp.2,x.2⟩,fun x=>⟨h1,x.2⟩⟩
 | ptr p=>exact h.ptr (p:=p) hp
 | fn f caps =>
  show (∃ cvs:Array Value,v=.func (.func f) #[] cvs /\ cvs.size=(caps.map (Ptr.renF ids)).length /\ ∀ (k:Nat) (c:Ptr),(caps.map (Ptr.renF ids))[k]?=some c -> ∃ x,cvs[k]?=some x /\ PtrRel C' c x) ↔
   (∃ cvs:Array Value,v=.func (.func f) #[] cvs /\ cvs.size=caps.length /\ ∀ (k:Nat) (c:Ptr),caps[k]?=some c -> ∃ x,cvs[k]?=some x /\ PtrRel C c x)
  rw [List.length_map]
  constructor
  ·rintro ⟨cvs,h1,h2,h3⟩
   refine ⟨cvs,h1,h2,fun k c hc=>?_⟩
   obtain ⟨x,hx,hr⟩:=h3 k (c.renF ids) (by rw [List.getElem?_map,hc];rfl)
   exact ⟨x,hx,(h.ptr (hp c (List.mem_of_getElem? hc))).1 hr⟩
  ·rintro ⟨cvs,h1,h2,h3⟩
   refine ⟨cvs,h1,h2,fun k c hc=>?_⟩
   rw [List.getElem?_map,Option.map_eq_some_iff] at hc
   obtain ⟨c0,hc,rfl⟩:=hc
   obtain ⟨x,hx,hr⟩:=h3 k c0 hc
   exact ⟨x,hx,(h.ptr (hp c0 (List.mem_of_getElem? hc))).2 hr⟩

theorem Moved.pv {C C':Ctx} {ids:List Nat} (h:Moved C C' ids) {u:AV} (hp:u.Mid1 C.n) {v:Value}:PVRel C' (u.renF1 ids) v ↔ PVRel C u v:=by
 cases u with
 | one l=>exact h.leaf hp
 | agg ls =>
  show (∃ vs:Array Value,v=.agg vs /\ vs.toList.length=(ls.map (Leaf.renF ids)).length /\ ∀ (j:Nat) (l:Leaf),(ls.map (Leaf.renF ids))[j]?=some l -> ∃ x,vs.toList[j]?=some x /\ LeafRel C' l x) ↔
   (∃ vs:Array Value,v=.agg vs /\ vs.toList.length=ls.length /\ ∀ (j:Nat) (l:Leaf),ls[j]?=some l -> ∃ x,vs.toList[j]?=some x /\ LeafRel C l x)
  rw [List.length_map]
  constructor
  ·rintro ⟨cvs,h1,h2,h3⟩
   refine ⟨cvs,h1,h2,fun k c hc=>?_⟩
   obtain ⟨x,hx,hr⟩:=h3 k (c.renF ids) (by rw [List.getElem?_map,hc];rfl)
   exact ⟨x,hx,(h.leaf (hp c (List.mem_of_getElem? hc))).1 hr⟩
  ·rintro ⟨cvs,h1,h2,h3⟩
   refine ⟨cvs,h1,h2,fun k c hc=>?_⟩
   rw [List.getElem?_map,Option.map_eq_some_iff] at hc
   obtain ⟨c0,hc,rfl⟩:=hc
   obtain ⟨x,hx,hr⟩:=h3 k c0 hc
   exact ⟨x,hx,(h.leaf (hp c0 (List.mem_of_getElem? hc))).2 hr⟩
 | tup vs=>exact Iff.rfl
 | ifg b v=>exact Iff.rfl

theorem Moved.av {C C':Ctx} {ids:List Nat} (h:Moved C C' ids) {u:AV} (hp:u.Mid C.n) {v:Value}:AVRel C' (u.renF ids) v ↔ AVRel C u v:=by
 cases u with
 | one l=>exact h.pv (u:=.one l) hp
 | agg ls=>exact h.pv (u:=.agg ls) hp
 | tup us =>
  show (∃ vs:Array Value,v=.tuple vs /\ vs.size=(us.map (AV.renF1 ids)).length /\ ∀ (j:Nat) (a:AV),(us.map (AV.renF1 ids))[j]?=some a -> ∃ x,vs[j]?=some x /\ PVRel C' a x) ↔
   (∃ vs:Array Value,v=.tuple vs /\ vs.size=us.length /\ ∀ (j:Nat) (a:AV),us[j]?=some a -> ∃ x,vs[j]?=some x /\ PVRel C a x)
  rw [List.length_map]
  constructor
  ·rintro ⟨cvs,h1,h2,h3⟩
   refine ⟨cvs,h1,h2,fun k c hc=>?_⟩
   obtain ⟨x,hx,hr⟩:=h3 k (c.renF1 ids) (by rw [List.getElem?_map,hc];rfl)
   exact ⟨x,hx,(h.pv (hp c (List.mem_of_getElem? hc))).1 hr⟩
  ·rintro ⟨cvs,h1,h2,h3⟩
   refine ⟨cvs,h1,h2,fun k c hc=>?_⟩
   rw [List.getElem?_map,Option.map_eq_some_iff] at hc
   obtain ⟨c0,hc,rfl⟩:=hc
   obtain ⟨x,hx,hr⟩:=h3 k c0 hc
   exact ⟨x,hx,(h.pv (hp c0 (List.mem_of_getElem? hc))).2 hr⟩
 | ifg b u =>
  show ((b=true -> PVRel C' (u.renF1 ids) v) /\ (b=false -> v=undef)) ↔ ((b=true -> PVRel C u v) /\ (b=false -> v=undef))
  rw [h.pv hp]

theorem objrel_moved {C C':Ctx} {φ φ':Nat -> List Nat} {k k':Nat} (hw:C'.w=C.w) (hM:∀ b,C'.M b ↔ C.M b) (hob:C'.ob k'=C.ob k) (hβ:C'.β k'=C.β k) (hφ:φ' k'=φ k) (hn:(C.ob k).NoRef) (h:ObjRel C φ k):ObjRel C' φ' k':=by
 unfold ObjRel at *
 rw [hob,hβ,hφ,hw]
 cases e:C.ob k with
 | dead=>simpa only [e] using h
 | hole=>rw [e] at hn;exact hn.elim
 | pin o v=>rw [e] at hn;exact hn.elim
 | ballast l=>rw [e] at hn;exact hn.elim
 | wide sz n rows=>simpa only [e] using h
 | box cells =>
  rw [e] at hn
  simp only [e] at h ⊢
  obtain ⟨b,T,vs,h1,h2,h3,h4,h5⟩:=h
  refine ⟨b,T,vs,h1,h2,h3,h4,fun j l hl=>?_⟩
  obtain ⟨x,hx,hr⟩:=h5 j l hl
  exact ⟨x,hx,dat_leaf hw (fun b=>(hM b).1) (hn l (List.mem_of_getElem? hl)) hr⟩
 | vec sz sep rows =>
  simp only [e] at h ⊢
  obtain ⟨h1,h2,h3⟩:=h
  refine ⟨h1,h2,?_⟩
  rcases h3 with h3 | ⟨b,T,S,E,vs,a1,a2,a3,a4,a5,a6⟩
  ·exact .inl h3
  ·refine .inr ⟨b,T,S,E,vs,a1,a2,a3,a4,a5,?_⟩
   cases sep with
   | true=>exact a6
   | false=>exact fun x hx hm=>a6 x hx ((hM x).1 hm)
 | frz sz rows =>
  simp only [e] at h ⊢
  obtain ⟨h1,h2,S,h3,h4⟩:=h
  exact ⟨h1,h2,S,h3,fun x hx hm=>h4 x hx ((hM x).1 hm)⟩

def setAll:List AObj -> List Nat -> List AObj -> List AObj
 | l,o :: os,x :: xs=>setAll (l.set o x) os xs
 | l,_,_=>l

theorem setAll_length:∀ (os:List Nat) (xs l:List AObj),(setAll l os xs).length=l.length
 | [],xs,l=>by cases xs <;> rfl
 | o :: os,[],l=>rfl
 | o :: os,x :: xs,l=>by rw [setAll,setAll_length os xs,List.length_set]

theorem setAll_other:∀ (os:List Nat) (xs l:List AObj) (k:Nat),k ∉ os -> (setAll l os xs)[k]?=l[k]?
 | [],xs,l,k,_=>by cases xs <;> rfl
 | o :: os,[],l,k,_=>rfl
 | o :: os,x :: xs,l,k,h=>by
  rw [setAll,setAll_other os xs _ k (fun hm=>h (List.mem_cons_of_mem _ hm)),List.getElem?_set_ne (fun e=>h (by rw [e];exact List.mem_cons_self ..))]

theorem setAll_at:∀ (os:List Nat) (xs l:List AObj) (k o:Nat),os.Nodup -> os.length <= xs.length -> (∀ o ∈ os,o < l.length) -> os[k]?=some o -> (setAll l os xs)[o]?=xs[k]?
 | [],xs,l,k,o,_,_,_,h=>by simp at h
 | p :: os,[],l,k,o,_,h,_,_=>by simp at h
 | p :: os,x :: xs,l,0,o,hn,hl,hlt,h=>by
  simp at h
  subst h
  rw [setAll,setAll_other os xs _ p (List.nodup_cons.1 hn).1,List.getElem?_set_self (hlt p (List.mem_cons_self ..))]
  rfl
 | p :: os,x :: xs,l,k + 1,o,hn,hl,hlt,h=>by
  rw [setAll,setAll_at os xs _ k o (List.nodup_cons.1 hn).2 (by simpa using hl) (fun q hq=>by rw [List.length_set];exact hlt q (List.mem_cons_of_mem _ hq)) (by simpa using h)]
  simp

def cellIds (os:List Nat) (n m:Nat):List Nat:=0 :: (os ++ fresh n (m - os.length))

theorem cellIds_at {os:List Nat} {n m k o:Nat} (h:os[k]?=some o):(cellIds os n m).getD (k + 1) 0=o:=by
 unfold cellIds
 rw [List.getD_cons_succ,List.getD_eq_getElem?_getD,List.getElem?_append_left (List.getElem?_eq_some_iff.1 h).1,h]
 rfl

theorem cellIds_new {os:List Nat} {n m j:Nat} (h:os.length + j < m):(cellIds os n m).getD (os.length + j + 1) 0=n + j:=by
 unfold cellIds
 rw [List.getD_cons_succ,List.getD_eq_getElem?_getD,List.getElem?_append_right (by omega),show os.length + j - os.length=j by omega,fresh_get _ _ _ (by omega)]
 rfl

theorem idx_of_mem {os:List Nat} {o:Nat} (h:o ∈ os):os[os.idxOf o]?=some o:=by
 have hl:=List.idxOf_lt_length_of_mem h
 rw [List.getElem?_eq_getElem hl]
 exact congrArg some (List.getElem_idxOf hl)

theorem nodup_idx {os:List Nat} (hn:os.Nodup) {i j o:Nat} (hi:os[i]?=some o) (hj:os[j]?=some o):i=j:=by
 have h1:=(List.getElem?_eq_some_iff.1 hi).1
 exact (List.getElem?_inj h1 hn).1 (hi.trans hj.symm)

def CtrC (P:Program) (f:FuncId) (as:List AV) (xs:List AObj) (R:AV -> List AObj -> Prop):Prop :=
 (∃ r xs',R r xs' /\ xs.length <= xs'.length) /\ ∀ l,CtrW P f as (.ballast l :: xs) fun r ys=>∃ xs',ys=.ballast l :: xs' /\ (∀ x ∈ xs',x.NoRef) /\ r.Mid (xs'.length + 1) /\ R r xs'

def cellR (os:List Nat) (objs:List AObj) (R:AV -> List AObj -> Prop):AV -> List AObj -> Prop:=fun r ys =>
 ∃ r0 xs',R r0 xs' /\ os.length <= xs'.length /\ r=r0.renF (cellIds os objs.length xs'.length) /\ ys=setAll objs os xs' ++ xs'.drop os.length

theorem CtrC.inh {P:Program} {f:FuncId} {as:List AV} {xs:List AObj} {R:AV -> List AObj -> Prop} (hCC:CtrC P f as xs R) (os:List Nat) (objs:List AObj) (h:os.length=xs.length):∃ r ys,cellR os objs R r ys :=
 let ⟨r,xs',h1,h2⟩:=hCC.1
 ⟨_,_,r,xs',h1,by omega,rfl,rfl⟩

theorem CtrC.whole {P:Program} {f:FuncId} {as:List AV} {xs:List AObj} {R:AV -> List AObj -> Prop} (hCC:CtrC P f as xs R) (os:List Nat) (objs:List AObj)
  (hnd:os.Nodup) (hlt:∀ o ∈ os,o < objs.length) (hxs:os.map (Objs objs)=xs) (hnr:∀ x ∈ xs,x.NoRef) (has:∀ a ∈ as,a.Mid (xs.length + 1)) :
  CtrW P f (as.map (AV.renF (0 :: os))) objs (cellR os objs R):=by
 have hxl:xs.length=os.length:=by rw [<- hxs,List.length_map]
 have hxk:∀ k o,os[k]?=some o -> Objs xs k=Objs objs o:=fun k o hk=>by
  rw [<- hxs]
  unfold Objs
  rw [List.getD_eq_getElem?_getD,List.getElem?_map,hk]
  rfl
 refine ⟨fun w β φ vs hOR hargs=>?_⟩
 have hz:∀ o,objs.length <= o -> φ o=[]:=fun o ho=>by
  have:=hOR.objs o
  unfold ObjRel at this
  rw [show (lctx w β φ objs).ob o=.dead by
   show objs.getD o .dead=_
   rw [List.getD_eq_getElem?_getD,List.getElem?_eq_none ho];rfl] at this
  exact this
 obtain ⟨Y,hY1,hY2⟩:=nodup_of (((List.range objs.length).filter fun o=>!decide (o ∈ os)).flatMap φ)
 have hY:∀ b,b ∈ Y ↔ ∃ o,o < objs.length /\ o ∉ os /\ b ∈ φ o:=fun b=>by
  rw [hY2]
  simp only [List.mem_flatMap,List.mem_filter,List.mem_range,Bool.not_eq_true',decide_eq_false_iff_not]
  exact ⟨fun ⟨o,⟨h1,h2⟩,h3⟩=>⟨o,h1,h2,h3⟩,fun ⟨o,h1,h2,h3⟩=>⟨o,⟨h1,h2⟩,h3⟩⟩
 let l:List (Nat × Obj):=Y.map fun b=>(b,w.heap[b]!)
 have hl1:l.map Prod.fst=Y:=by
  show (Y.map _).map _=Y
  rw [List.map_map]
  exact List.map_id Y
 have hYs:∀ b ∈ Y,b < w.heap.size:=fun b hb=>by
  obtain ⟨o,_,_,h⟩:=(hY b).1 hb
  exact hOR.fp o b h
 have hl2:∀ x ∈ l,w.heap[x.1]?=some x.2:=fun x hx=>by
  obtain ⟨b,hb,rfl⟩:=List.mem_map.1 hx
  have:=hYs b hb
  simp [this]
 let β0:Nat -> Info:=fun k=>match k with
  | 0=>⟨none,0⟩
  | k + 1=>β (os.getD k 0)
 let φ0:Nat -> List Nat:=fun k=>match k with
  | 0=>Y
  | k + 1=>if k < os.length then φ (os.getD k 0) else []
 have getD_at:∀ k o,os[k]?=some o -> os.getD k 0=o:=fun k o hk=>by rw [List.getD_eq_getElem?_getD,hk];rfl
 have hφ0k:∀ k o,os[k]?=some o -> φ0 (k + 1)=φ o:=fun k o hk=>by
  show (if k < os.length then φ (os.getD k 0) else [])=φ o
  rw [if_pos (List.getElem?_eq_some_iff.1 hk).1,getD_at k o hk]
 have hφ0n:∀ k,os.length <= k -> φ0 (k + 1)=[]:=fun k hk=>if_neg (by omega)
 have some_at:∀ k,k < os.length -> ∃ o,os[k]?=some o:=fun k hk=>⟨_,List.getElem?_eq_getElem hk⟩
 have hM0:∀ b,(∃ o,b ∈ φ o) ↔ ∃ k,b ∈ φ0 k:=fun b=>by
  constructor
  ·rintro ⟨o,hb⟩
   by_cases ho:o < objs.length
   ·by_cases hm:o ∈ os
    ·exact ⟨os.idxOf o + 1,by rw [hφ0k _ o (idx_of_mem hm)];exact hb⟩
    ·exact ⟨0,(hY b).2 ⟨o,ho,hm,hb⟩⟩
   ·rw [hz o (by omega)] at hb;cases hb
  ·rintro ⟨k,hb⟩
   cases k with
   | zero =>
    obtain ⟨o,_,_,h⟩:=(hY b).1 hb
    exact ⟨o,h⟩
   | succ k =>
    by_cases hk:k < os.length
    ·obtain ⟨o,ho⟩:=some_at k hk
     rw [hφ0k k o ho] at hb
     exact ⟨o,hb⟩
    ·rw [hφ0n k (by omega)] at hb;cases hb
 have hmv0:Moved (lctx w β0 φ0 (.ballast l :: xs)) (lctx w β φ objs) (0 :: os):=⟨rfl,hM0,fun k h0 hk=>by
  obtain ⟨j,rfl⟩:∃ j,k=j + 1:=⟨k - 1,by omega⟩
  have hj:j < os.length:=by
   have:j + 1 < xs.length + 1:=hk
   omega
  obtain ⟨o,ho⟩:=some_at j hj
  rw [List.getD_cons_succ,getD_at j o ho]
  refine ⟨hlt o (List.mem_of_getElem? ho),(hxk j o ho).symm,?_⟩
  show β o=β (os.getD j 0)
  rw [getD_at j o ho]⟩
 have hnrk:∀ k,(Objs xs k).NoRef:=fun k=>by
  unfold Objs
  rw [List.getD_eq_getElem?_getD]
  cases e:xs[k]? with
  | none=>exact trivial
  | some x=>exact hnr x (List.mem_of_getElem? e)
 have hOR0:OR w β0 φ0 (.ballast l :: xs):=by
  refine ⟨fun k=>?_,fun k=>?_,fun k k' hne b hb hb'=>?_,fun k b hb=>?_,hOR.glob.sub fun b hb=>(hM0 b).2 hb⟩
  ·cases k with
   | zero=>exact ⟨hl1.symm,hl2⟩
   | succ k =>
    by_cases hk:k < os.length
    ·obtain ⟨o,ho⟩:=some_at k hk
     refine objrel_moved (C:=lctx w β φ objs) (C':=lctx w β0 φ0 (.ballast l :: xs)) (φ:=φ) (k:=o) (k':=k + 1) rfl (fun b=>(hM0 b).symm) (hxk k o ho) ?_ (hφ0k k o ho) ?_ (hOR.objs o)
     ·show β (os.getD k 0)=β o
      rw [getD_at k o ho]
     ·show (Objs objs o).NoRef
      rw [<- hxk k o ho]
      exact hnrk k
    ·unfold ObjRel
     rw [show (lctx w β0 φ0 (.ballast l :: xs)).ob (k + 1)=.dead by
      show xs.getD k .dead=_
      rw [List.getD_eq_getElem?_getD,List.getElem?_eq_none (by omega)];rfl]
     exact hφ0n k (by omega)
  ·cases k with
   | zero=>exact hY1
   | succ k =>
    by_cases hk:k < os.length
    ·obtain ⟨o,ho⟩:=some_at k hk
     rw [hφ0k k o ho];exact hOR.nodup o
    ·rw [hφ0n k (by omega)];exact List.nodup_nil
  ·have own:∀ k b,b ∈ φ0 (k + 1) -> ∃ o,os[k]?=some o /\ b ∈ φ o:=fun k b hb=>by
    by_cases hk:k < os.length
    ·obtain ⟨o,ho⟩:=some_at k hk
     rw [hφ0k k o ho] at hb
     exact ⟨o,ho,hb⟩
    ·rw [hφ0n k (by omega)] at hb;cases hb
   have apart0:∀ k b,b ∈ Y -> b ∈ φ0 (k + 1) -> False:=fun k b hy hb=>by
    obtain ⟨o,ho,h1⟩:=own k b hb
    obtain ⟨o',_,h2,h3⟩:=(hY b).1 hy
    exact hOR.disj o' o (fun e=>h2 (e ▸ List.mem_of_getElem? ho)) b h3 h1
   cases k with
   | zero =>
    cases k' with
    | zero=>exact hne rfl
    | succ k'=>exact apart0 k' b hb hb'
   | succ k =>
    cases k' with
    | zero=>exact apart0 k b hb' hb
    | succ k' =>
     obtain ⟨o,ho,h1⟩:=own k b hb
     obtain ⟨o',ho',h2⟩:=own k' b hb'
     exact hOR.disj o o' (fun e=>hne (by rw [nodup_idx hnd ho (e ▸ ho')])) b h1 h2
  ·obtain ⟨o,ho⟩:=(hM0 b).2 ⟨k,hb⟩
   exact hOR.fp o b ho
 have hargs0:ArgsRel (lctx w β0 φ0 (.ballast l :: xs)) as vs:=by
  refine ⟨by rw [hargs.1,List.length_map],fun j a hj=>?_⟩
  obtain ⟨v,hv,hr⟩:=hargs.2 j (a.renF (0 :: os)) (by rw [List.getElem?_map,hj];rfl)
  exact ⟨v,hv,(hmv0.av (has a (List.mem_of_getElem? hj))).1 hr⟩
 refine ((hCC.2 l).calls w β0 φ0 vs hOR0 hargs0).mono ?_
 rintro e w' ⟨r,ys,⟨xs',rfl,hnr',hr,hR⟩,hlenC,hcompC,v,β1,φ1,he,hOR1,hβ1,hφ1,hr1,hfrm⟩
 have hlen:os.length <= xs'.length:=by
  simp only [List.length_cons] at hlenC
  omega
 have hsl:(setAll objs os xs').length=objs.length:=setAll_length ..
 have hn':(setAll objs os xs' ++ xs'.drop os.length).length=objs.length + (xs'.length - os.length):=by rw [List.length_append,hsl,List.length_drop]
 have oO:∀ o,o < objs.length -> o ∉ os -> Objs (setAll objs os xs' ++ xs'.drop os.length) o=Objs objs o:=fun o ho hm=>by
  unfold Objs
  rw [List.getD_eq_getElem?_getD,List.getElem?_append_left (by omega),setAll_other _ _ _ _ hm,<- List.getD_eq_getElem?_getD]
 have oK:∀ k o,os[k]?=some o -> Objs (setAll objs os xs' ++ xs'.drop os.length) o=Objs xs' k:=fun k o hk=>by
  have ho:=hlt o (List.mem_of_getElem? hk)
  unfold Objs
  rw [List.getD_eq_getElem?_getD,List.getElem?_append_left (by omega),setAll_at os xs' objs k o hnd hlen hlt hk,<- List.getD_eq_getElem?_getD]
 have oN:∀ j,Objs (setAll objs os xs' ++ xs'.drop os.length) (objs.length + j)=Objs xs' (os.length + j):=fun j=>by
  unfold Objs
  rw [List.getD_eq_getElem?_getD,List.getElem?_append_right (by omega),hsl,show objs.length + j - objs.length=j by omega,List.getElem?_drop,<- List.getD_eq_getElem?_getD]
 have hcompK:∀ k o,os[k]?=some o -> Compat (Objs objs o) (Objs (setAll objs os xs' ++ xs'.drop os.length) o):=fun k o hk=>by
  have hkl:=(List.getElem?_eq_some_iff.1 hk).1
  have:=hcompC (k + 1) (by rw [List.length_cons,hxl];omega)
  rw [oK k o hk,<- hxk k o hk]
  exact this
 have hnrk':∀ k,(Objs xs' k).NoRef:=fun k=>by
  unfold Objs
  rw [List.getD_eq_getElem?_getD]
  cases e:xs'[k]? with
  | none=>exact trivial
  | some x=>exact hnr' x (List.mem_of_getElem? e)
 have hb0:=hOR1.objs 0
 unfold ObjRel at hb0
 obtain ⟨hbφ,hbh⟩:=(show φ1 0=l.map Prod.fst /\ ∀ x ∈ l,w'.heap[x.1]?=some x.2 from hb0)
 rw [hl1] at hbφ
 have hYk:∀ b ∈ Y,w'.heap[b]?=w.heap[b]?:=fun b hb=>by
  have hm1:(b,w.heap[b]!) ∈ l:=List.mem_map_of_mem hb
  rw [hbh _ hm1,hl2 _ hm1]
 let β':Nat -> Info:=fun o=>if o < objs.length then β o else β1 (os.length + (o - objs.length) + 1)
 let φ':Nat -> List Nat:=fun o=>if o < objs.length then (if o ∈ os then φ1 (os.idxOf o + 1) else φ o) else φ1 (os.length + (o - objs.length) + 1)
 have φO:∀ o,o < objs.length -> o ∉ os -> φ' o=φ o:=fun o h1 h2=>by
  show (if _ then _ else _)=_
  rw [if_pos h1,if_neg h2]
 have φK:∀ k o,os[k]?=some o -> φ' o=φ1 (k + 1):=fun k o hk=>by
  have hm:=List.mem_of_getElem? hk
  show (if _ then _ else _)=_
  rw [if_pos (hlt o hm),if_pos hm,nodup_idx hnd (idx_of_mem hm) hk]
 have φN:∀ j,φ' (objs.length + j)=φ1 (os.length + j + 1):=fun j=>by
  show (if _ then _ else _)=_
  rw [if_neg (by omega),show objs.length + j - objs.length=j by omega]
 have βO:∀ o,o < objs.length -> β' o=β o:=fun o h=>if_pos h
 have βK:∀ k o,os[k]?=some o -> β' o=β1 (k + 1):=fun k o hk=>by
  rw [βO o (hlt o (List.mem_of_getElem? hk)),hβ1 (k + 1) (by rw [List.length_cons,hxl];have:=(List.getElem?_eq_some_iff.1 hk).1;omega)]
  show β o=β (os.getD k 0)
  rw [getD_at k o hk]
 have βN:∀ j,β' (objs.length + j)=β1 (os.length + j + 1):=fun j=>by
  show (if _ then _ else _)=_
  rw [if_neg (by omega),show objs.length + j - objs.length=j by omega]
 have hM1:∀ b,(∃ o,b ∈ φ' o) ↔ ∃ k,b ∈ φ1 k:=fun b=>by
  constructor
  ·rintro ⟨o,hb⟩
   by_cases ho:o < objs.length
   ·by_cases hm:o ∈ os
    ·exact ⟨_,by rw [φK _ o (idx_of_mem hm)] at hb;exact hb⟩
    ·rw [φO o ho hm] at hb
     exact ⟨0,by rw [hbφ];exact (hY b).2 ⟨o,ho,hm,hb⟩⟩
   ·obtain ⟨j,rfl⟩:∃ j,o=objs.length + j:=⟨o - objs.length,by omega⟩
    rw [φN] at hb
    exact ⟨_,hb⟩
  ·rintro ⟨k,hb⟩
   cases k with
   | zero =>
    rw [hbφ] at hb
    obtain ⟨o,h1,h2,h3⟩:=(hY b).1 hb
    exact ⟨o,by rw [φO o h1 h2];exact h3⟩
   | succ k =>
    by_cases hk:k < os.length
    ·obtain ⟨o,ho⟩:=some_at k hk
     exact ⟨o,by rw [φK k o ho];exact hb⟩
    ·refine ⟨objs.length + (k - os.length),?_⟩
     rw [φN,show os.length + (k - os.length)=k by omega]
     exact hb
 have hctx:∀ (ys:List AObj) (w:World) (β:Nat -> Info) (φ:Nat -> List Nat),(mkSt [] ys).ctx w β φ=lctx w β φ ys:=fun ys w β φ=>by
  show Ctx.mk w β (mkSt [] ys).obj _ _=_
  rw [show (mkSt [] ys).obj=Objs ys from funext fun k=>mkSt_obj [] ys k]
  rfl
 have hmob:∀ (ys:List AObj) (o:Nat),(mkSt [] ys).obj o=Objs ys o:=fun ys o=>mkSt_obj [] ys o
 let B:Base:=⟨w,fun b=>∃ o,b ∈ φ o,objs.length,β,hOR.glob⟩
 let a:Act:={ tmps:=#[],defers:=[] }
 have sr:SR B 0 (mkSt [] objs) β φ a w:=by
  refine ⟨rfl,Marks.nil,fun t v hv=>(by cases hv),fun o ho=>?_,fun o=>by rw [hctx];exact hOR.objs o,hOR.nodup,hOR.disj,fun o b hb=>⟨hOR.fp o b hb,.inl ⟨o,hb⟩⟩,Frm.refl _ _,⟨Nat.le_refl _,fun _ _=>rfl⟩⟩
  rw [hmob]
  have ho:objs.length <= o:=ho
  unfold Objs
  rw [List.getD_eq_getElem?_getD,List.getElem?_eq_none ho];rfl
 have caseK:∀ o,(o ∈ os \/ objs.length <= o) -> ∃ k,(lctx w' β' φ' (setAll objs os xs' ++ xs'.drop os.length)).ob o=Objs xs' k /\ β' o=β1 (k + 1) /\ φ' o=φ1 (k + 1) /\ (o < objs.length -> os[k]?=some o) /\ (objs.length <= o -> k=os.length + (o - objs.length)):=fun o ho=>by
  rcases ho with hm | ho
  ·have hk:=idx_of_mem hm
   exact ⟨_,oK _ o hk,βK _ o hk,φK _ o hk,fun _=>hk,fun h=>absurd (hlt o hm) (by omega)⟩
  ·obtain ⟨j,rfl⟩:∃ j,o=objs.length + j:=⟨o - objs.length,by omega⟩
   exact ⟨os.length + j,oN j,βN j,φN j,fun h=>absurd h (by omega),fun _=>by omega⟩
 obtain ⟨le,sr'⟩:=sr.change (st':=mkSt [] (setAll objs os xs' ++ xs'.drop os.length)) (β':=β') (φ':=φ') (w':=w') (fun o=>o ∈ os \/ objs.length <= o) rfl (by show objs.length <= (setAll objs os xs' ++ xs'.drop os.length).length;rw [hn'];omega)
  (fun o ho=>by
    have h1:o ∉ os:=fun h=>ho (.inl h)
    have h2:o < objs.length:=Nat.lt_of_not_le fun h=>ho (.inr h)
    rw [hmob,hmob];exact oO o h2 h1)
  (fun o ho=>βO o ho)
  (fun o ho=>φO o (Nat.lt_of_not_le fun h=>ho (.inr h)) (fun h=>ho (.inl h)))
  (fun o ho=>by
    have ho:(setAll objs os xs' ++ xs'.drop os.length).length <= o:=ho
    rw [hmob]
    unfold Objs
    rw [List.getD_eq_getElem?_getD,List.getElem?_eq_none ho];rfl)
  (fun o ho hl=>by
    have hl:o < objs.length:=hl
    have hm:o ∈ os:=ho.elim id (fun h=>absurd hl (by omega))
    rw [hmob,hmob]
    exact ⟨hcompK _ o (idx_of_mem hm),fun _=>βO o hl⟩)
  ⟨hfrm.os,hfrm.tape,hfrm.output,hfrm.size,fun b hb hx=>by
   by_cases hy:b ∈ Y
   ·exact hYk b hy
   ·refine hfrm.block b hb ?_
    rintro ⟨k,hk⟩
    cases k with
    | zero=>exact hy hk
    | succ k =>
     by_cases hkl:k < os.length
     ·obtain ⟨o,ho⟩:=some_at k hkl
      rw [hφ0k k o ho] at hk
      exact hx ⟨o,.inl (List.mem_of_getElem? ho),hk⟩
     ·rw [hφ0n k (by omega)] at hk;cases hk⟩
  (fun le o ho=>by
    rw [hctx]
    obtain ⟨k,h1,h2,h3,_⟩:=caseK o ho
    exact objrel_moved (C:=lctx w' β1 φ1 (.ballast l :: xs')) (C':=lctx w' β' φ' (setAll objs os xs' ++ xs'.drop os.length)) (φ:=φ1) (k:=k + 1) rfl hM1 h1 h2 h3 (hnrk' k) (hOR1.objs (k + 1)))
  (fun o ho=>by
    obtain ⟨k,_,_,h3,_⟩:=caseK o ho
    rw [h3];exact hOR1.nodup _)
  (fun o ho b hb=>by
    obtain ⟨k,_,_,h3,_⟩:=caseK o ho
    rw [h3] at hb
    refine ⟨hOR1.fp _ b hb,?_⟩
    rcases hφ1 _ b hb with h | ⟨k',hk'⟩
    ·exact .inl h
    ·cases k' with
     | zero =>
      have hk':b ∈ Y:=hk'
      rw [<- hbφ] at hk'
      exact absurd hk' (hOR1.disj _ _ (by omega) b hb)
     | succ k' =>
      by_cases hkl:k' < os.length
      ·obtain ⟨o',ho'⟩:=some_at k' hkl
       rw [hφ0k k' o' ho'] at hk'
       exact .inr ⟨o',.inl (List.mem_of_getElem? ho'),hk'⟩
      ·rw [hφ0n k' (by omega)] at hk';cases hk')
  (fun o o' ho ho' hne b hb hb'=>by
    obtain ⟨k,_,_,h3,h4,h5⟩:=caseK o ho
    obtain ⟨k',_,_,h3',h4',h5'⟩:=caseK o' ho'
    rw [h3] at hb
    rw [h3'] at hb'
    refine hOR1.disj _ _ (fun e=>hne ?_) b hb hb'
    have e:k=k':=by omega
    subst e
    by_cases hl:o < objs.length
    ·by_cases hl':o' < objs.length
     ·have:=(h4 hl).symm.trans (h4' hl')
      exact Option.some.inj this
     ·have h6:=h5' (by omega)
      have h7:=(List.getElem?_eq_some_iff.1 (h4 hl)).1
      omega
    ·by_cases hl':o' < objs.length
     ·have h6:=h5 (by omega)
      have h7:=(List.getElem?_eq_some_iff.1 (h4' hl')).1
      omega
     ·have h6:=h5 (by omega)
      have h7:=h5' (by omega)
      omega)
 have hmv1:Moved (lctx w' β1 φ1 (.ballast l :: xs')) (lctx w' β' φ' (setAll objs os xs' ++ xs'.drop os.length)) (cellIds os objs.length xs'.length):=⟨rfl,hM1,fun k h0 hk=>by
  obtain ⟨j,rfl⟩:∃ j,k=j + 1:=⟨k - 1,by omega⟩
  have hj:j < xs'.length:=by
   have:j + 1 < xs'.length + 1:=hk
   omega
  by_cases hjo:j < os.length
  ·obtain ⟨o,ho⟩:=some_at j hjo
   rw [cellIds_at ho]
   refine ⟨?_,oK j o ho,βK j o ho⟩
   show o < (setAll objs os xs' ++ xs'.drop os.length).length
   rw [hn']
   have:=hlt o (List.mem_of_getElem? ho)
   omega
  ·obtain ⟨i,rfl⟩:∃ i,j=os.length + i:=⟨j - os.length,by omega⟩
   rw [cellIds_new hj]
   refine ⟨?_,oN i,βN i⟩
   show objs.length + i < (setAll objs os xs' ++ xs'.drop os.length).length
   rw [hn'];omega⟩
 refine ⟨_,_,⟨r,xs',hR,hlen,rfl,rfl⟩,by rw [hn'];omega,fun o ho=>?_,v,β',φ',he,⟨fun o=>by rw [<- hctx];exact sr'.objs o,sr'.nodup,sr'.disj,fun o b hb=>(sr'.fp o b hb).1,sr'.glob⟩,fun o ho=>βO o ho,fun o b hb=>(sr'.fp o b hb).2.symm,(hmv1.av (show r.Mid (xs'.length + 1) from hr)).2 hr1,sr'.frame⟩
 by_cases hm:o ∈ os
 ·exact hcompK _ o (idx_of_mem hm)
 ·rw [oO o ho hm];exact Compat.refl _

end Go.Abs
