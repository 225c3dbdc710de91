/- From the row's reading of an argument to the abstract layer's data, and back: the law's last step. Own work; generic over the program. -/
import Derived.Test.YtcnddedeeplbcaaGreatAbsCode
import Derived.Deep.Slices
import Derived.Carry
import Derived.ChangeArms
import Derived.OpenShut
import Derived.RowKit
import Derived.ProofKit
namespace Go.Abs
open Go.ChangeShapes Go.WideShapes Go.RowKit
set_option linter.unusedSimpArgs false
set_option linter.unusedVariables false

def WTs (p:TypeId -> List D -> Prop):List TypeId -> List D -> Prop
 | [],ds=>ds=[]
 | t :: ts,ds=>∃ a b,ds=a ++ b /\ p t a /\ WTs p ts b

def WT (P:Program):Nat -> TypeId -> List D -> Prop
 | 0,_,_=>False
 | n + 1,t,ds =>
  match P.underlying t with
  | some (.int k)=>∃ x,ds=[.int k x] /\ (Lit.int k x).wf=true
  | some .bool=>∃ b,ds=[.bool b]
  | some .string=>∃ s:ByteArray,ds=[.str s] /\ s.size <= maxLen
  | some (.slice e)=>∃ rows:List (List D),ds=[.sl (P.cellsOf e) rows] /\ rows.length <= maxLen /\ ∀ r ∈ rows,WT P n e r
  | some (.struct fs)=>WTs (WT P n) (fs.toList.map (·.type)) ds
  | _=>False

def contig (P:Program) (total:Nat):List Field -> Nat -> Bool
 | [],o=>o == total
 | f :: fs,o=>f.offset == o && contig P total fs (o + P.cellsOf f.type)

def okTy (P:Program):Nat -> TypeId -> Bool
 | 0,_=>false
 | n + 1,t =>
  match P.underlying t with
  | some (.int _) | some .bool | some .string=>P.cellsOf t == 1
  | some (.slice e)=>P.cellsOf t == 1 && decide (0 < P.cellsOf e) && okTy P n e
  | some (.struct fs)=>contig P (P.cellsOf t) fs.toList 0 && fs.toList.all fun f=>okTy P n f.type
  | _=>false

section
variable {H:Type} {enc:TypeId × Value -> H} {P:Program} {w:World} {base:Nat} {spare:Nat -> Bool} {held:Bool}

theorem rowsUp {sz:Nat} {p:List D -> Prop} {a:Addr} (hsz:0 < sz):∀ {len:Nat},
  (∀ i,i < len -> ∃ cs ds S,w.cells? base (a.add (i * sz)) sz=some cs /\ p ds /\ RepL w ds cs S /\ ds.length=sz) ->
  ∃ (rows:List (List D)) (vs:List Value) (S:List Nat),rows.length=len /\ (∀ r ∈ rows,r.length=sz /\ p r) /\ RepL w rows.flatten vs S /\ vs.length=len * sz /\
   ∀ (j:Nat) (v:Value),vs[j]?=some v -> w.cell? (a.add j)=some v
 | 0,_=>⟨[],[],[],rfl,by simp,.nil,by simp,by simp⟩
 | len + 1,h=>by
  obtain ⟨rows,vs,S,e1,e2,e3,e4,e5⟩:=rowsUp hsz (len:=len) (fun i hi=>h i (by omega))
  obtain ⟨cs,ds,S',c1,c2,c3,c4⟩:=h len (by omega)
  obtain ⟨_,hl,hc⟩:=World.cells?_some c1
  refine ⟨rows ++ [ds],vs ++ cs,S ++ S',by simp [e1],?_,?_,by simp [e4,hl,Nat.succ_mul],?_⟩
  ·intro r hr
   rcases List.mem_append.1 hr with hr | hr
   ·exact e2 r hr
   ·simp at hr;subst hr;exact ⟨c4,c2⟩
  ·simpa using RepL.append e3 c3
  ·intro j v hj
   by_cases hjl:j < vs.length
   ·rw [List.getElem?_append_left hjl] at hj;exact e5 j v hj
   ·rw [List.getElem?_append_right (by omega)] at hj
    have hlt:j - vs.length < cs.length:=(List.getElem?_eq_some_iff.1 hj).1
    have:=hc (j - vs.length) (by omega)
    rw [Deep.add_add,e4,show len * sz + (j - len * sz)=j by omega] at this
    rw [this,<- e4];exact hj

theorem fieldsUp {n:Nat} (ih:∀ {t:TypeId},okTy P n t=true -> ∀ {fuel:Nat} {cs:List Value} {x:DataW H × List MemPlace},DataW.trod enc P w base spare held fuel t cs=some x ->
   ∃ ds S,WT P n t ds /\ RepL w ds cs S /\ ds.length=P.cellsOf t) {cs:List Value} {total:Nat} (hcs:cs.length=total):∀ {fs:List Field} {o:Nat},contig P total fs o=true -> (fs.all fun f=>okTy P n f.type)=true ->
   (∀ f ∈ fs,∃ fuel y,DataW.trod enc P w base spare held fuel f.type ((cs.drop f.offset).take (P.cellsOf f.type))=some y) ->
   ∃ ds S,WTs (WT P n) (fs.map (·.type)) ds /\ RepL w ds (cs.drop o) S /\ ds.length + o=total
 | [],o,hc,_,_=>by
  simp [contig] at hc
  exact ⟨[],[],rfl,by rw [hc,<- hcs,List.drop_length];exact .nil,by simp [hc]⟩
 | f :: fs,o,hc,ha,h=>by
  simp only [contig,Bool.and_eq_true,beq_iff_eq] at hc
  simp only [List.all_cons,Bool.and_eq_true] at ha
  obtain ⟨fuel,y,hy⟩:=h f (by simp)
  obtain ⟨ds1,S1,a1,a2,a3⟩:=ih ha.1 hy
  obtain ⟨ds2,S2,b1,b2,b3⟩:=fieldsUp (fs:=fs) @ih hcs hc.2 ha.2 (fun g hg=>h g (by simp [hg]))
  refine ⟨ds1 ++ ds2,S1 ++ S2,⟨ds1,ds2,rfl,a1,b1⟩,?_,by simp;omega⟩
  have:=RepL.append a2 b2
  rw [hc.1,show (cs.drop o).take (P.cellsOf f.type) ++ cs.drop (o + P.cellsOf f.type)=cs.drop o from by
   rw [<- List.drop_drop,List.take_append_drop]] at this
  exact this

theorem trod_rep:∀ {n:Nat} {t:TypeId},okTy P n t=true -> ∀ {fuel:Nat} {cs:List Value} {x:DataW H × List MemPlace},DataW.trod enc P w base spare held fuel t cs=some x ->
  ∃ ds S,WT P n t ds /\ RepL w ds cs S /\ ds.length=P.cellsOf t
 | 0,t,h,_,_,_,_=>by simp [okTy] at h
 | n + 1,t,h,fuel,cs,x,hx=>by
  unfold okTy at h
  unfold WT
  split at h
  ·rename_i k ht
   obtain ⟨m,rfl,_,hw⟩:=DataW.trod_int ht hx
   try rw [ht]
   exact ⟨[.int k m],_,⟨m,rfl,hw⟩,.cons (.int k m) .nil,by simp at h;simp [h]⟩
  ·rename_i ht
   obtain ⟨b,rfl,_⟩:=DataW.trod_bool ht hx
   try rw [ht]
   exact ⟨[.bool b],_,⟨b,rfl⟩,.cons (.bool b) .nil,by simp at h;simp [h]⟩
  ·rename_i ht
   obtain ⟨s,rfl,_,hs⟩:=DataW.trod_string ht hx
   try rw [ht]
   exact ⟨[.str s],_,⟨s,rfl,hs⟩,.cons (.str s) .nil,by simp at h;simp [h]⟩
  ·rename_i e ht
   simp only [Bool.and_eq_true,beq_iff_eq,decide_eq_true_eq] at h
   obtain ⟨⟨h1,h2⟩,h3⟩:=h
   try rw [ht]
   rcases Deep.open_slice ht hx with ⟨rfl,_⟩ | ⟨a,len,cap,m,k,Dt,Pl,rfl,hb,hl,hm,hmm,_,hel⟩
   ·exact ⟨[.sl (P.cellsOf e) []],_,⟨[],rfl,by simp,by simp⟩,.cons (.nil _ none 0) .nil,by simp [h1]⟩
   ·have hlm:len <= m:=by rw [hmm];split <;> omega
    obtain ⟨rows,vs,S,e1,e2,e3,e4,e5⟩:=rowsUp (p:=WT P n e) h2 (len:=len) (a:=a) (w:=w) (base:=base) (fun i hi=>by
     obtain ⟨cs',c1,c2⟩:=hel i (by omega)
     obtain ⟨ds,S,d1,d2,d3⟩:=trod_rep h3 c2
     exact ⟨cs',ds,S,c1,d1,d2,d3⟩)
    refine ⟨[.sl (P.cellsOf e) rows],?_⟩
    suffices hs:∃ S,Rep w (.sl (P.cellsOf e) rows) (.slice (some a) len cap) S by
     obtain ⟨S',hs⟩:=hs
     exact ⟨_,⟨rows,rfl,by omega,fun r hr=>(e2 r hr).2⟩,.cons hs .nil,by simp [h1]⟩
    by_cases h0:len=0
    ·subst h0
     have:rows=[]:=List.eq_nil_of_length_eq_zero e1
     subst this
     exact ⟨_,.nil _ (some a) cap⟩
    ·have hv0:0 < vs.length:=by rw [e4];exact Nat.mul_pos (by omega) h2
     have hc0:=e5 0 _ (List.getElem?_eq_getElem hv0)
     have ha:a.spot=none /\ a.block < w.heap.size:=by
      simp only [Addr.add,if_true] at hc0
      unfold World.cell? at hc0
      split at hc0
      ·rename_i hh
       split at hc0
       ·cases hc0
       ·rename_i hsp
        exact ⟨by cases hq:a.spot <;> simp_all,(Array.getElem?_eq_some_iff.1 hh).1⟩
      ·cases hc0
     obtain ⟨b,off,sp⟩:=a
     obtain ⟨rfl,hbs⟩:=ha
     refine ⟨b :: S,?_⟩
     have:=Rep.sl (w:=w) (P.cellsOf e) rows b off cap vs S hbs (fun r hr=>(e2 r hr).1) e3 (fun j v hj=>by
      have:=e5 j v hj
      by_cases hj0:j=0
      ·subst hj0;simpa [Addr.add] using this
      ·simpa [Addr.add,hj0] using this) (by omega)
     rw [e1] at this
     exact this
  ·rename_i fs ht
   simp only [Bool.and_eq_true] at h
   try rw [ht]
   obtain ⟨xs,k,_,_,hl,hlen,hf⟩:=DataW.trod_struct ht hx
   obtain ⟨ds,S,a1,a2,a3⟩:=fieldsUp (fs:=fs.toList) (o:=0) (fun h' _ _ _ hx'=>trod_rep h' hx') hl h.1 h.2 (fun f hfm=>by
    obtain ⟨i,hi,e⟩:=List.getElem_of_mem hfm
    have hi':i < fs.size:=by simpa using hi
    have e':fs[i]?=some f:=by rw [Array.getElem?_eq_getElem hi'];simpa using e
    have:=hf i f e'
    rw [List.getElem?_eq_getElem (by omega)] at this
    exact ⟨_,_,this⟩)
   exact ⟨ds,S,a1,by simpa using a2,by simpa using a3⟩
  ·cases h

def argAV (P:Program) (t:TypeId) (ds:List D):AV :=
 match P.underlying t with
 | some (.struct _)=>.agg (ds.map .dat)
 | _=>.one (.dat (ds.headD default))

theorem arg_rel {n:Nat} {t:TypeId} (ho:okTy P n t=true) {v:Value} {r:Reach} {b0:Nat} (hval:Value.okWide P w r b0 t v) {ds:List D} {S:List Nat}
  (h2:RepL w ds v.cells.toList S) (C:Ctx) (hw:C.w=w) (hM:∀ x,¬ C.M x):AVRel C (argAV P t ds) v:=by
 subst hw
 have one:∀ {u:Value},v=u -> u.cells.toList=[u] -> AVRel C (.one (.dat (ds.headD default))) v:=by
  intro u e hu
  subst e
  rw [hu] at h2
  cases h2 with
  | cons a b=>cases b;exact ⟨_,a,fun x _=>hM x⟩
 cases n with
 | zero=>simp [okTy] at ho
 | succ n =>
  unfold okTy at ho
  unfold argAV
  split at ho
  ·rename_i ht
   obtain ⟨m,rfl⟩:=okWide_int ht hval
   try rw [ht]
   exact one rfl rfl
  ·rename_i ht
   obtain ⟨m,rfl⟩:=okWide_bool ht hval
   try rw [ht]
   exact one rfl rfl
  ·rename_i ht
   obtain ⟨m,rfl⟩:=okWide_string ht hval
   try rw [ht]
   exact one rfl rfl
  ·rename_i ht
   obtain ⟨a,l,c,rfl⟩:=okWide_slice ht hval
   try rw [ht]
   exact one rfl rfl
  ·rename_i ht
   obtain ⟨cs,rfl,_⟩:=okWide_struct ht hval
   try rw [ht]
   have:Leaves C (ds.map .dat) cs.toList:=leaves_of_repL (C:=C) h2 (fun x _=>hM x)
   exact ⟨cs,rfl,this⟩
  ·cases ho

def WTAll (P:Program) (n:Nat):List TypeId -> List (List D) -> Prop
 | [],dss=>dss=[]
 | t :: ts,dss=>∃ ds r,dss=ds :: r /\ WT P n t ds /\ WTAll P n ts r

def argAVs (P:Program):List TypeId -> List (List D) -> List AV
 | t :: ts,ds :: dss=>argAV P t ds :: argAVs P ts dss
 | _,_=>[]

theorem args_rep {n:Nat}:∀ {ts:List TypeId} {vs:List Value} {ds:List (DataW H)} {ps:List MemPlace} {r:Reach} {b0:Nat},(ts.all fun t=>okTy P n t)=true ->
  (∀ (j:Nat) t v,ts[j]?=some t -> vs[j]?=some v -> Value.okWide P w r b0 t v) -> DataW.TrodAll enc P w base spare held ts vs ds ps ->
  ∃ dss,WTAll P n ts dss /\ ∀ C:Ctx,C.w=w -> (∀ x,¬ C.M x) ->
   vs.length=(argAVs P ts dss).length /\ ∀ (j:Nat) (a:AV),(argAVs P ts dss)[j]?=some a -> ∃ v,vs[j]?=some v /\ AVRel C a v
 | [],vs,ds,ps,r,b0,_,_,h=>by
  obtain ⟨rfl,rfl,rfl⟩:=trodAll_nil h
  exact ⟨[],rfl,fun C _ _=>⟨rfl,fun j a hj=>by simp [argAVs] at hj⟩⟩
 | t :: ts,vs,ds,ps,r,b0,ho,hv,h=>by
  obtain ⟨v,vs',d,ds',p,q,rfl,rfl,rfl,h1,h2⟩:=trodAll_cons h
  simp only [List.all_cons,Bool.and_eq_true] at ho
  obtain ⟨dss,a1,a2⟩:=args_rep (ts:=ts) ho.2 (fun j t v hj hv'=>hv (j + 1) t v (by simpa using hj) (by simpa using hv')) h2
  have hval:=hv 0 t v rfl rfl
  obtain ⟨fuel,hf⟩:=h1
  obtain ⟨d0,_,hd0,_,_⟩:=trod_rep ho.1 hf
  have key:∃ ds,WT P n t ds /\ ∀ C:Ctx,C.w=w -> (∀ x,¬ C.M x) -> AVRel C (argAV P t ds) v:=by
   obtain ⟨ds,S,e1,e2,e3⟩:=trod_rep ho.1 hf
   exact ⟨ds,e1,fun C hC hM=>arg_rel ho.1 hval e2 C hC hM⟩
  obtain ⟨ds,b1,b2⟩:=key
  refine ⟨ds :: dss,⟨ds,dss,rfl,b1,a1⟩,fun C hC hM=>?_⟩
  obtain ⟨c1,c2⟩:=a2 C hC hM
  refine ⟨by simp [argAVs,c1],fun j a hj=>?_⟩
  cases j with
  | zero=>simp [argAVs] at hj;subst hj;exact ⟨v,rfl,b2 C hC hM⟩
  | succ j=>simp [argAVs] at hj;simpa using c2 j a hj

theorem trodAll_below (hl:laidOutB P=true) {W W':World} (hb:Below W.heap.size W W') {sp:Nat -> Bool}:∀ {ts:List TypeId} {vs:List Value} {ds:List (DataW H)} {ps:List MemPlace},
  (ts.all fun t=>P.readableRec t && decide (t < P.types.size))=true -> DataW.TrodAll enc P W 0 (fun _=>true) true ts vs ds ps -> (∀ x ∈ ps,x.block < W.heap.size) -> (∀ x ∈ ps,sp x.block=true) ->
  DataW.TrodAll enc P W' 0 sp true ts vs ds ps
 | [],vs,ds,ps,_,h,_,_=>by
  obtain ⟨rfl,rfl,rfl⟩:=trodAll_nil h
  rfl
 | t :: ts,vs,ds,ps,hr,h,hlt,hsp=>by
  obtain ⟨v,vs',d,ds',p,q,rfl,rfl,rfl,h1,h2⟩:=trodAll_cons h
  simp only [List.all_cons,Bool.and_eq_true,decide_eq_true_eq] at hr
  exact trodAll_cons_mk (WideElems.Trod_stays hl hr.1.1 hr.1.2 h1 (fun x hx=>hb.same (hlt x (List.mem_append_left _ hx))) (fun x hx=>hsp x (List.mem_append_left _ hx)))
   (trodAll_below hl hb hr.2 h2 (fun x hx=>hlt x (List.mem_append_right _ hx)) (fun x hx=>hsp x (List.mem_append_right _ hx)))

theorem law_calls {f:FuncId} {as:List AV} {vs:List Value} {W:World} (h:Ctr P f as [] (.one (.dat (.bool true))) [])
  (ha:∀ C:Ctx,C.w=W -> (∀ x,¬ C.M x) -> vs.length=as.length /\ ∀ (j:Nat) (a:AV),as[j]?=some a -> ∃ v,vs[j]?=some v /\ AVRel C a v)
  (hg:GlobOk W (fun _=>False):=by (intro t h;exact absurd h (by simp [tabs]))) :
  Calls P f vs.toArray W fun e W'=>e=.returned (.bool true) /\ Below W.heap.size W W':=by
 let β:Nat -> Info:=fun _=>⟨none,0⟩
 let φ:Nat -> List Nat:=fun _=>[]
 have hOR:OR W β φ []:=⟨fun o=>by simp [ObjRel,lctx,Objs,φ],fun o=>by simp [φ],fun _ _ _ _ hb=>by simp [φ] at hb,fun _ _ hb=>by simp [φ] at hb,hg.sub fun b ⟨o,hb⟩=>by simp [φ] at hb⟩
 have hA:ArgsRel (lctx W β φ []) as vs.toArray:=by
  obtain ⟨h1,h2⟩:=ha (lctx W β φ []) rfl (by simp [lctx,φ])
  exact ⟨by simpa using h1,fun j a hj=>by simpa using h2 j a hj⟩
 refine (h.calls W β φ vs.toArray hOR hA).mono fun e W' ⟨v,β',φ',he,_,_,_,hv,hF⟩=>?_
 have hv':LeafRel (lctx W' β' φ' []) (.dat (.bool true)) v:=hv
 obtain ⟨S,hr,_⟩:=hv'
 cases hr
 exact ⟨he,hF.os,hF.tape,hF.output,hF.size,fun k hk=>hF.block k hk (by simp [φ])⟩

theorem law_post {f:Func} {s:ChangeSpec} {apart fresh handsOn again:Bool} {W W':World} {args:Array Value} {ds gs:List (DataW H)} {before:List MemPlace} {tb:TypeId} (hl:laidOutB P=true)
  (hts:(f.params.toList.all fun t=>P.readableRec t && decide (t < P.types.size))=true) (hvars:s.vars=[])
  (hW:DataW.Whole enc P f.params.toList s.vars apart W args.toList ds gs before)
  (hs:s.fn H (ds ++ gs)={ results:=[.lit (.bool true)],args:=ds,vars:=[] }) (hr:f.resultTypes=#[tb]) (htb:P.underlying tb=some .bool) (hb:Below W.heap.size W W') :
  s.post enc P f apart fresh handsOn again W args (.bool true) W':=by
 have hlt:=hW.lt
 have hW':=hW
 obtain ⟨p,q,hA,hV,rfl,hz,hn⟩:=hW'
 rw [hvars] at hV
 obtain ⟨rfl,rfl⟩:=trodVars_none hV
 have hres:∀ (b:Nat) (sp:Nat -> Bool) (hd:Bool),DataW.TrodAll enc P W' b sp hd f.resultTypes.toList ((Value.bool true).resultList f.resultTypes.size) (s.fn H (ds ++ [])).results []:=by
  intro b sp hd
  rw [hs,hr]
  exact trodAll_cons_mk (p':=[]) (shut_bool htb _) trodAll_mk0
 have hargs:∀ sp:Nat -> Bool,(∀ x ∈ p ++ [],sp x.block=true) -> DataW.TrodAll enc P W' 0 sp true f.params.toList args.toList (s.fn H (ds ++ [])).args p:=by
  intro sp hsp
  rw [hs]
  simp only [List.append_nil] at hsp hlt
  exact trodAll_below hl hb hts hA hlt hsp
 have hvv:∀ sp:Nat -> Bool,DataW.TrodVars enc P W' sp s.vars (s.fn H (ds ++ [])).vars []:=by
  intro sp
  rw [hs,hvars]
  rfl
 have hold:∀ x ∈ p ++ [],(fun b=>decide (b < W.heap.size)) x.block=true:=fun x hx=>by simpa using hlt x hx
 refine ⟨ds,[],p ++ [],[],p,[],hW,hres _ _ _,hargs _ hold,hvv _,hb.frame _,fun _=>?_⟩
 refine ⟨ok_one hr rfl (okWide_bool_mk htb _),_,_,([] ++ p) ++ [],⟨[] ++ p,[],trodAll_append (hargs _ (fun _ _=>rfl)) (hres _ _ _),hvv _,rfl,?_,?_⟩,?_⟩
 ·intro b off hp
  have hp':MemPlace.cell b off ∈ p ++ []:=by simpa using hp
  rw [hb.frozen (p:=⟨b,off,none⟩) (hlt _ hp')]
  exact hz b off hp'
 ·intro ha
  simpa using hn ha
 ·intro x hx _
  simpa using hx
end
end Go.Abs
