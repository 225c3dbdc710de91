/- One operation of a region, its guard, a region in the order of the text. -/
import Derived.Test.YtcnddedeeplbcaaGreatAbsWhole
import Derived.Test.YtcnddedeeplbcaaGreatAbsOpen
import Derived.Lib.Overlaps
import Derived.Laws.Cover3
namespace Go.Abs
set_option linter.unusedVariables false
set_option linter.unusedSimpArgs false

def enters (P:Program) (f:FuncId):Bool :=
 match P.funcs[f]? with
 | some fn => fn.body.isSome && !(fn.name == "runtime.NumGoroutine")
 | none=>false

def evAs (st:St):List Operand -> Option (Prop × List AV)
 | []=>some (True,[])
 | x :: r=>match opA st x,evAs st r with
  | some (p,v),some (q,vs)=>some (p /\ q,v :: vs)
  | _,_=>none

def capsA (caps:List Ptr):List AV:=caps.map fun c=>.one (.ptr c)

def osOk (st:St):List Nat -> Prop
 | []=>True
 | o :: os=>(o < st.next /\ Given (st.obj o) /\ o ∉ os) /\ osOk st os

def callee (st:St) (o:Oper):Option (Prop × FuncId × List AV) :=
 match o.op with
 | .call { callee:=.value f,args,.. }=>match opA st f,evAs st args.toList with
  | some (p,.one (.fn fid caps)),some (q,avs)=>some (p /\ q,fid,avs ++ capsA caps)
  | _,_=>none
 | _=>none

def isOverlaps (P : Program) (f : FuncId) : Prop := ∃ fn tS tR e, P.funcs[f]? = some fn /\ (fn.name == "runtime.NumGoroutine") = false /\ fn.body.isNone = true /\ Extern.findNext fn = none /\
 Extern.find fn=some (Extern.SlicesOverlaps.overlaps #[tS,tS] #[tR]) /\ te P tS=some e

def apart (st:St):List AV -> Prop
 | [.one (.own o),.one (.part o' _ n)]=>o ≠ o' /\ 0 < n /\ (match st.obj o with | .vec _ _ rows=>0 < rows.length | _=>False) /\ (match st.obj o' with | .wide sz _ _=>0 < sz | _=>False)
 | _=>False

def callQ (P:Program) (st:St) (o:Oper) (K:AV -> St -> Prop):Prop :=
 match callee st o with
 | some (q,fid,avs)=>q /\ ((∃ os vs r objs',viewAs st os avs=some vs /\ osOk st os /\ enters P fid=true /\ Ctr P fid vs (os.map st.obj) r objs' /\ K (r.ren (idsOf os st.next objs'.length)) (st.after os objs')) \/
   (isOverlaps P fid /\ apart st avs /\ K (.one (.dat (.bool false))) st) \/
   (∃ os vs r objs',datAs (frzAll st os) avs=some vs /\ enters P fid=true /\ CtrB P fid vs r objs' /\ K (r.ren (idsOf [] st.next objs'.length)) ((frzAll st os).after [] objs')) \/
   (∃ R,enters P fid=true /\ CtrW P fid avs st.whole R /\ (∃ r objs',R r objs') /\ ∀ r objs',R r objs' -> K r (st.behind objs')))
 | none=>False

def capArg (P:Program) (st:St) (o:Oper):Option (Prop × Nat × Nat × Bool × List (List D)) :=
 match o.op with
 | .call { callee:=.builtin .cap,args,argTypes }=>match args.toList,argTypes.toList with
  | [x],[t]=>match te P t,opA st x with
   | some _,some (q,.one (.own k))=>match st.obj k with
    | .vec sz sep rows=>some (q /\ flatRows rows,k,sz,sep,rows)
    | _=>none
   | _,_=>none
  | _,_=>none
 | _=>none

def nilArg (P:Program) (st:St) (o:Oper):Option (Prop × Bool × List (List D)) :=
 match o.op with
 | .binOp op t x (.const (.slice none 0 0)) _=>match op,te P t,opA st x with
  | .eql,some _,some (q,.one (.dat (.sl _ rows)))=>some (q,true,rows)
  | .neq,some _,some (q,.one (.dat (.sl _ rows)))=>some (q,false,rows)
  | _,_,_=>none
 | _=>none

def openArg (P:Program) (st:St) (o:Oper):Option (Prop × Bool × Nat × Nat × Nat × Nat × List (List D)) :=
 match o.op with
 | .load t x=>match tl P t,opA st x with
  | some (agg,1),some (q,.one (.ptr (.own k i j)))=>match st.obj k with
   | .vec sz true rows=>some (q /\ i < rows.length /\ j < sz,agg,k,i,j,sz,rows)
   | _=>none
  | _,_=>none
 | _=>none

def openV (agg:Bool) (n:Nat):AV:=match agg with
 | true=>.agg [.own n]
 | false=>.one (.own n)
def openK (st:St) (agg:Bool) (k i j sz:Nat) (rows:List (List D)) (d:D) (K:Option AV -> St -> Prop):Prop :=
 match d with
 | .sl s2 rs=>∀ v:Value,K (some (openV agg st.next)) (openSt st k i j sz rows s2 rs v)
 | _=>False

def opQ (P:Program) (st:St) (o:Oper) (K:Option AV -> St -> Prop):Prop :=
 match opS P st o with
 | some (q,r,st')=>q /\ K r st'
 | none=>match nilArg P st o with
  | some (q,s,rows)=>q /\ ∀ b:Bool,(b=true -> rows=[]) -> K (some (.one (.dat (.bool (b == s))))) st
  | none=>match capArg P st o with
   | some (q,k,sz,_,rows)=>q /\ ∀ sp:List (List D),(∀ r ∈ sp,r.length=sz) -> K (some (.one (.dat (.int .i64 ((rows.length + sp.length:Nat):Int))))) (st.setObj k (.wide sz rows.length (rows ++ sp)))
   | none=>match openArg P st o with
    | some (q,agg,k,i,j,sz,rows)=>q /\ openK st agg k i j sz rows ((rows.getD i []).getD j default) K
    | none=>callQ P st o fun r st'=>K (some r) st'

theorem run_load_slice {P:Program} {w:World} {t e:TypeId} {x:Addr} {v:Value} (ht:P.underlying t=some (.slice e)) (hc:w.cell? x=some v):(do pure (.value (<- Instr.loadAt t (.pointer (some x)))):Sem Next).run P w=.ok (.value v) w:=by
 have ha:(isAgg t).run P w=.ok false w:=by simp [isAgg,run_underlying ht]
 simp [Instr.loadAt,Instr.sureAddr,loadVar,ha,hc]

theorem nil_run {P:Program} {w:World} {t:TypeId} {e:TypeId × Nat × Nat} (ht:te P t=some e) {sz:Nat} {rows:List (List D)} {v:Value} {S:List Nat} (h:Rep w (.sl sz rows) v S) (x y:Operand) :
  ∃ b:Bool,(b=true -> rows=[]) /\ (do eqGuard .eql t x y v (.slice none 0 0);binOp .eql t v (.slice none 0 0):Sem Value).run P w=.ok (.bool (b == true)) w /\
   (do eqGuard .neq t x y v (.slice none 0 0);binOp .neq t v (.slice none 0 0):Sem Value).run P w=.ok (.bool (b == false)) w:=by
 obtain ⟨e1,e2,e3⟩:=e
 obtain ⟨hu,_⟩:=te_spec ht
 have key:∀ (a:Option Addr) (l c:Nat),(do eqGuard .eql t x y (.slice a l c) (.slice none 0 0);binOp .eql t (.slice a l c) (.slice none 0 0):Sem Value).run P w=.ok (.bool a.isNone) w /\
   (do eqGuard .neq t x y (.slice a l c) (.slice none 0 0);binOp .neq t (.slice a l c) (.slice none 0 0):Sem Value).run P w=.ok (.bool (!a.isNone)) w:=fun a l c=>by
  have g:∀ op,(eqGuard op t x y (.slice a l c) (.slice none 0 0)).run P w=.ok () w:=fun op=>by cases op <;> simp [eqGuard]
  constructor
  ·rw [Sem.run_bind,g,Result.andThen_ok,show (binOp .eql t (.slice a l c) (.slice none 0 0)).run P w=.ok (.bool a.isNone) w from by simp only [binOp];simp [run_equal_slice_nil w t e1 a l c hu]]
  ·rw [Sem.run_bind,g,Result.andThen_ok,run_neq_slice_nil w t e1 a l c hu]
 cases h with
 | nil _ a cap =>
  cases a with
  | none=>exact ⟨true,fun _=>rfl,(key none 0 cap).1,(key none 0 cap).2⟩
  | some a=>exact ⟨false,by simp,(key (some a) 0 cap).1,(key (some a) 0 cap).2⟩
 | sl _ _ b off cap=>exact ⟨false,by simp,(key _ _ _).1,(key _ _ _).2⟩

def St.putO (st:St) (d:Option Tmp) (r:Option AV):St :=
 match d with
 | none=>st
 | some d=>match r with
  | some v=>st.put d v
  | none=>{ st with env:=drop d st.env }

section
variable {P:Program} {B:Base} {N:Nat} {st st':St} {β:Nat -> Info} {φ:Nat -> List Nat} {a:Act} {w w':World}

theorem evAs_sound (h:SR B N st β φ a w):∀ {xs:List Operand} {q:Prop} {vs:List AV},evAs st xs=some (q,vs) -> q -> (xs.map a.eval).length=vs.length /\
  ∀ (k:Nat) (v:AV),vs[k]?=some v -> ∃ x,(xs.map a.eval)[k]?=some x /\ AVRel (st.ctx w β φ) v x
 | [],_,_,hs,_=>by
  simp only [evAs,Option.some.injEq,Prod.mk.injEq] at hs
  obtain ⟨rfl,rfl⟩:=hs
  exact ⟨rfl,fun k c hc=>by simp at hc⟩
 | x :: xs,_,_,hs,hq=>by
  simp only [evAs] at hs
  split at hs
  ·rename_i p c q cs e1 e2
   simp only [Option.some.injEq,Prod.mk.injEq] at hs
   obtain ⟨rfl,rfl⟩:=hs
   obtain ⟨h1,h2⟩:=evAs_sound h e2 hq.2
   refine ⟨by simpa using h1,fun k c' hc=>?_⟩
   cases k with
   | zero=>simp at hc;subst hc;exact ⟨_,rfl,opA_sound h e1 hq.1⟩
   | succ k=>simp at hc;simpa using h2 k c' (by simpa using hc)
  ·cases hs

theorem viewAs_sound (h:SR B N st β φ a w) {os:List Nat} (hos:∀ o ∈ os,o < st.next /\ Given (st.obj o)):∀ {us us':List AV},viewAs st os us=some us' -> ∀ {vs:List Value},vs.length=us.length ->
  (∀ (k:Nat) (u:AV),us[k]?=some u -> ∃ x,vs[k]?=some x /\ AVRel (st.ctx w β φ) u x) -> vs.length=us'.length /\ ∀ (k:Nat) (u:AV),us'[k]?=some u -> ∃ x,vs[k]?=some x /\ AVRel (subCtx st w β φ os) u x
 | [],_,hu,vs,hl,hr=>by cases hu;exact ⟨hl,fun k u hk=>by simp at hk⟩
 | u :: us,_,hu,vs,hl,hr=>by
  simp only [viewAs] at hu
  split at hu
  ·rename_i b bs e1 e2
   cases hu
   cases vs with
   | nil=>simp at hl
   | cons v vs =>
    obtain ⟨x,hx,hxr⟩:=hr 0 u rfl
    cases hx
    obtain ⟨h1,h2⟩:=viewAs_sound h hos e2 (vs:=vs) (by simpa using hl) (fun k u' hk=>by simpa using hr (k + 1) u' (by simpa using hk))
    refine ⟨by simp [h1],fun k u' hk=>?_⟩
    cases k with
    | zero=>simp at hk;subst hk;exact ⟨v,rfl,viewA_sound h hos e1 hxr⟩
    | succ k=>simp at hk;simpa using h2 k u' (by simpa using hk)
  ·cases hu

theorem osOk_spec:∀ {os:List Nat},osOk st os -> os.Nodup /\ ∀ o ∈ os,o < st.next /\ Given (st.obj o)
 | [],_=>⟨List.nodup_nil,by simp⟩
 | o :: os,h=>by
  obtain ⟨⟨h1,h2,h3⟩,h4⟩:=h
  obtain ⟨g1,g2⟩:=osOk_spec h4
  refine ⟨List.nodup_cons.2 ⟨h3,g1⟩,fun k hk=>?_⟩
  cases hk with
  | head=>exact ⟨h1,h2⟩
  | tail _ hk=>exact g2 k hk

theorem subOR (h:SR B N st β φ a w) {os:List Nat} (hn:os.Nodup) (hos:∀ o ∈ os,o < st.next /\ Given (st.obj o)) :
  OR w (fun k=>β (os.getD k 0)) (fun k=>if k < os.length then φ (os.getD k 0) else []) (os.map st.obj):=by
 have hget:∀ k,(hk:k < os.length) -> os.getD k 0=os[k]:=fun k hk=>by
  rw [List.getD_eq_getElem?_getD,List.getElem?_eq_getElem hk,Option.getD_some]
 have hob:∀ k,(hk:k < os.length) -> Objs (os.map st.obj) k=st.obj os[k]:=fun k hk=>by
  unfold Objs
  rw [List.getD_eq_getElem?_getD,List.getElem?_map,List.getElem?_eq_getElem hk]
  rfl
 refine ⟨fun k=>?_,fun k=>?_,fun k k' hne b hb hb'=>?_,fun k b hb=>?_,h.glob.sub fun b ⟨k,hb⟩=>by
  have hb:b ∈ (if k < os.length then φ (os.getD k 0) else []):=hb
  split at hb
  ·exact ⟨_,hb⟩
  ·cases hb⟩
 ·by_cases hk:k < os.length
  ·have ho:=h.objs os[k]
   have hβ:(lctx w (fun k=>β (os.getD k 0)) (fun k=>if k < os.length then φ (os.getD k 0) else []) (os.map st.obj)).β k=(st.ctx w β φ).β os[k]:=by
    show β (os.getD k 0)=β os[k]
    rw [hget k hk]
   have hφ:(fun k=>if k < os.length then φ (os.getD k 0) else []) k=φ os[k]:=by
    show (if k < os.length then φ (os.getD k 0) else [])=φ os[k]
    rw [if_pos hk,hget k hk]
   obtain ⟨_,⟨sz,rows,eo⟩ | ⟨sz,eo⟩⟩:=hos _ (List.getElem_mem hk)
   rotate_left
   ·unfold ObjRel at ho ⊢
    rw [show (lctx w (fun k=>β (os.getD k 0)) (fun k=>if k < os.length then φ (os.getD k 0) else []) (os.map st.obj)).ob k=_ from hob k hk,eo]
    rw [show (st.ctx w β φ).ob os[k]=_ from eo] at ho
    obtain ⟨a1,a2,S,a3,a4⟩:=ho
    refine ⟨by rw [hφ];exact a1,fun hne=>absurd rfl hne,S,by rw [hβ];exact a3,fun x hx hm=>a4 x hx ?_⟩
    obtain ⟨k',hk'⟩:=hm
    have hk':x ∈ (if k' < os.length then φ (os.getD k' 0) else []):=hk'
    split at hk'
    ·exact ⟨_,hk'⟩
    ·cases hk'
   unfold ObjRel at ho ⊢
   rw [show (lctx w (fun k=>β (os.getD k 0)) (fun k=>if k < os.length then φ (os.getD k 0) else []) (os.map st.obj)).ob k=_ from hob k hk,eo]
   rw [show (st.ctx w β φ).ob os[k]=_ from eo] at ho
   obtain ⟨a1,a2,a3⟩:=ho
   refine ⟨a1,by rw [hβ];exact a2,?_⟩
   rw [hβ,hφ]
   rcases a3 with a3 | ⟨b,T,S,E,vs,b1,b2,b3,b4,b5,b6⟩
   ·exact .inl a3
   ·exact .inr ⟨b,T,S,E,vs,b1,b2,b3,b4,b5,b6⟩
  ·unfold ObjRel
   have:Objs (os.map st.obj) k=.dead:=by
    unfold Objs
    rw [List.getD_eq_getElem?_getD,List.getElem?_eq_none (by simpa using hk)]
    rfl
   rw [show (lctx w (fun k=>β (os.getD k 0)) (fun k=>if k < os.length then φ (os.getD k 0) else []) (os.map st.obj)).ob k=_ from this]
   exact if_neg hk
 ·split
  ·exact h.nodup _
  ·exact List.nodup_nil
 ·split at hb
  ·rename_i hk
   split at hb'
   ·rename_i hk'
    rw [hget k hk] at hb
    rw [hget k' hk'] at hb'
    refine h.disj _ _ (fun e=>hne ?_) b hb hb'
    exact (List.getElem_inj hn).1 e
   ·cases hb'
  ·cases hb
 ·split at hb
  ·exact (h.fp _ b hb).1
  ·cases hb

theorem run_call {f:FuncId} {ρ:Operand -> Value} {o:Oper} {x:Operand} {args:Array Operand} {ts:Array TypeId} {caps:Array Value} (ho:o.op=.call { callee:=.value x,args,argTypes:=ts })
  (hx:ρ x=.func (.func f) #[] caps) (he:enters P f=true):(execOp ρ o).run P w=.ok (.enter f (args.map ρ ++ caps)) w:=by
 unfold enters at he
 unfold execOp
 simp only [ho]
 cases hf:P.funcs[f]? with
 | none=>rw [hf] at he;cases he
 | some fn =>
  rw [hf] at he
  simp only [Bool.and_eq_true,Bool.not_eq_true'] at he
  have hb:fn.body.isNone=false:=by cases h:fn.body with | none=>rw [h] at he;simp at he | some _=>rfl
  have hn : fn.name ≠ "runtime.NumGoroutine" := by simpa using he.2
  have hbn:fn.body ≠ none:=by intro e;rw [e] at hb;simp at hb
  simp [resolve,hx,Deferred.ofValue,invoke,callFunc,hf,hn,hbn]

theorem over_run (h:SR B N st β φ a w) {avs:List AV} (hap:apart st avs) {vs:Array Value} (hvs:vs.size=avs.length /\ ∀ (k:Nat) (v:AV),avs[k]?=some v -> ∃ x,vs[k]?=some x /\ AVRel (st.ctx w β φ) v x) {tS tR:TypeId} {e:TypeId × Nat × Nat} (ht:te P tS=some e) :
  (Extern.SlicesOverlaps.overlaps #[tS,tS] #[tR] vs).run P w=.ok (.bool false) w:=by
 unfold apart at hap
 split at hap
 ·rename_i o o' i n
  obtain ⟨hne,hn0',h1,h2⟩:=hap
  obtain ⟨hte,inf,hi,_⟩:=te_spec (P:=P) (t:=tS) (e:=e.1) (s:=e.2.1) (y:=e.2.2) ht
  obtain ⟨hsz,hg⟩:=hvs
  obtain ⟨x0,hx0,hr0⟩:=hg 0 _ rfl
  obtain ⟨x1,hx1,hr1⟩:=hg 1 _ rfl
  have hv:vs=#[x0,x1]:=by
   apply Array.ext'
   have hl:vs.toList.length=2:=by rw [Array.length_toList];exact hsz
   match hvl:vs.toList,hl with
   | [a,b],_ =>
    have e0:vs.toList[0]?=some x0:=by rw [Array.getElem?_toList];exact hx0
    have e1:vs.toList[1]?=some x1:=by rw [Array.getElem?_toList];exact hx1
    rw [hvl] at e0 e1
    cases e0;cases e1
    rfl
  subst hv
  obtain ⟨hn0,hr0⟩:=hr0
  obtain ⟨hn1,hr1⟩:=hr1
  have ho0:=h.objs o
  have ho1:=h.objs o'
  unfold ObjRel at ho0 ho1
  split at h1
  ·rename_i sz sep rows eo
   split at h2
   ·rename_i sz' m rows' eo'
    rw [show (st.ctx w β φ).ob o=_ from eo] at hr0 ho0
    rw [show (st.ctx w β φ).ob o'=_ from eo'] at hr1 ho1
    simp only at hr0
    subst hr0
    obtain ⟨hin,bs,rfl,hbs⟩:=hr1
    have hz:∀ w,(Go.sizeOf e.1).run P w=.ok inf.size w:=fun w=>by simp [sizeOf,typeInfo,hi]
    obtain ⟨_,hc0,ho0⟩:=ho0
    obtain ⟨hsz1,_,hc1,ho1⟩:=ho1
    have hc0':rows.length <= (β o).cap:=hc0
    have hc1':rows'.length=(β o').cap:=hc1
    rcases ho0 with ⟨_,hz0⟩ | ⟨b,T,S,E,us,b1,b2,b3,b4,b5,b6⟩
    ·have hz0':(β o).cap=0:=hz0
     omega
    ·rcases ho1 with ⟨_,hz1⟩ | ⟨b',T',us',c1,c2,c3,E',c5⟩
     ·have hz1':(β o').cap=0:=hz1
      omega
     ·have hbb:b ≠ b':=fun e=>h.disj o o' hne b (by rw [b5];simp) (by rw [c5,e];simp)
      have b1':(β o).base=some ⟨b,0,none⟩:=b1
      have c1':(β o').base=some ⟨b',0,none⟩:=c1
      have b2':w.heap[b]?=some (.cells us T (0,0)):=b2
      have c2':w.heap[b']?=some (.cells us' T' (0,0)):=c2
      have hbs':bs=(β o').base.map (·.add (i * sz')):=hbs (show i < (β o').cap by omega)
      have hk:us'.size ≠ 0:=by
       have hl:=c3.length
       rw [Array.length_toList,flatten_length hsz1] at hl
       have:rows'.length * sz' ≠ 0:=Nat.mul_ne_zero (by omega) (by omega)
       omega
      rw [hbs',c1',Option.map_some,Addr.add_lit]
      show (Extern.SlicesOverlaps.overlaps #[tS,tS] #[tR] #[.slice (β o).base rows.length (β o).cap,_]).run P w=_
      rw [b1']
      exact Go.Lib.run_overlaps_apart w tS tR e.1 hte inf.size hz ⟨b,0,none⟩ ⟨b',0 + i * sz',none⟩ _ _ _ _ hbb T T' us.size us'.size (by simp [World.shape?,b2']) (by simp [World.shape?,c2']) hk
       (by simp [World.frozen?,b2']) (by simp [World.frozen?,b2'])
   ·exact h2.elim
  ·exact h1.elim
 ·exact hap.elim

theorem over_wp (h:SR B N st β φ a w) {o:Oper} {q:Prop} {fid:FuncId} {avs:List AV} (ec:callee st o=some (q,fid,avs)) (hq:q) (hov:isOverlaps P fid) (hap:apart st avs) {next:Act -> World -> Prop} {Q:Exit -> Act -> World -> Prop}
  (hnext:next (a.put o.dst (.bool false)) w):o.wp P a w next Q:=by
 obtain ⟨fn,tS,tR,e,f1,f2,f3,f4,f5,f6⟩:=hov
 unfold callee at ec
 split at ec
 ·rename_i x args ts eo
  split at ec
  ·rename_i p fid' caps q' avs' e1 e2
   simp only [Option.some.injEq,Prod.mk.injEq] at ec
   obtain ⟨rfl,rfl,rfl⟩:=ec
   obtain ⟨hp,hq'⟩:=hq
   obtain ⟨cvs,hfv,hcs,hck⟩:=opA_sound h e1 hp
   obtain ⟨g1,g2⟩:=evAs_sound h e2 hq'
   have hvs:(args.map a.eval ++ cvs).size=(avs' ++ capsA caps).length /\ ∀ (k:Nat) (v:AV),(avs' ++ capsA caps)[k]?=some v -> ∃ x,(args.map a.eval ++ cvs)[k]?=some x /\ AVRel (st.ctx w β φ) v x:=by
    have hlist:(args.map a.eval ++ cvs).toList=args.toList.map a.eval ++ cvs.toList:=by simp
    refine ⟨by rw [<- Array.length_toList,hlist];simp [capsA,hcs];simpa using g1,fun k u hk=>?_⟩
    rw [<- Array.getElem?_toList,hlist]
    by_cases hkl:k < avs'.length
    ·rw [List.getElem?_append_left hkl] at hk
     obtain ⟨x,hx,hr⟩:=g2 k u hk
     exact ⟨x,by rw [List.getElem?_append_left (by rw [g1];exact hkl)];exact hx,hr⟩
    ·rw [List.getElem?_append_right (by omega)] at hk
     unfold capsA at hk
     rw [List.getElem?_map] at hk
     cases ek:caps[k - avs'.length]? with
     | none=>rw [ek] at hk;cases hk
     | some c =>
      rw [ek] at hk
      cases hk
      obtain ⟨x,hx,hr⟩:=hck _ c ek
      refine ⟨x,?_,hr⟩
      rw [List.getElem?_append_right (by rw [g1];omega),g1,Array.getElem?_toList];exact hx
   have hov:=over_run (P:=P) (tR:=tR) h hap hvs f6
   have hrun:(execOp a.eval o).run P w=.ok (.value (.bool false)) w:=by
    unfold execOp
    simp only [eo]
    simp only [resolve,hfv,Deferred.ofValue,invoke,Sem.run_bind,Sem.run_pure,Result.andThen_ok]
    have hb':fn.body.isNone=true:=f3
    have:=run_callFunc_extern (P:=P) f1 f2 f3 f4 f5 (args.map a.eval ++ cvs) w
    rw [hov] at this
    simpa using this
   unfold Oper.wp
   rw [hrun]
   exact hnext
  ·cases ec
 ·cases ec

theorem whole_wp (h:SR B N st β φ a w) {o:Oper} {q:Prop} {fid:FuncId} {avs:List AV} {K:AV -> St -> Prop} (ec:callee st o=some (q,fid,avs)) (hq:q) {R:AV -> List AObj -> Prop} (hen:enters P fid=true) (hctr:CtrW P fid avs st.whole R)
  (hK:∀ r objs',R r objs' -> K r (st.behind objs')) {next:Act -> World -> Prop} {Q:Exit -> Act -> World -> Prop}
  (hnext:∀ β' φ' w' st' r x,(st.ctx w β φ).Le (st'.ctx w' β' φ') -> SR B N st' β' φ' a w' -> st'.env=st.env -> AVRel (st'.ctx w' β' φ') r x -> K r st' -> next (a.put o.dst x) w'):o.wp P a w next Q:=by
 unfold callee at ec
 split at ec
 ·rename_i x args ts eo
  split at ec
  ·rename_i p fid' caps q' avs' e1 e2
   simp only [Option.some.injEq,Prod.mk.injEq] at ec
   obtain ⟨rfl,rfl,rfl⟩:=ec
   obtain ⟨hp,hq'⟩:=hq
   obtain ⟨cvs,hfv,hcs,hck⟩:=opA_sound h e1 hp
   obtain ⟨g1,g2⟩:=evAs_sound h e2 hq'
   have hrun:=run_call (P:=P) (w:=w) (ρ:=a.eval) eo hfv hen
   unfold Oper.wp
   rw [hrun]
   show Calls P fid' (args.map a.eval ++ cvs) w _
   have hlist:(args.map a.eval ++ cvs).toList=args.toList.map a.eval ++ cvs.toList:=by simp
   have hargs:ArgsRel (lctx w β φ st.whole) (avs' ++ capsA caps) (args.map a.eval ++ cvs):=by
    rw [whole_ctx h]
    refine ⟨by rw [<- Array.length_toList,hlist];simp [capsA,hcs];simpa using g1,fun k u hk=>?_⟩
    rw [<- Array.getElem?_toList,hlist]
    by_cases hkl:k < avs'.length
    ·rw [List.getElem?_append_left hkl] at hk
     obtain ⟨x,hx,hr⟩:=g2 k u hk
     exact ⟨x,by rw [List.getElem?_append_left (by rw [g1];exact hkl)];exact hx,hr⟩
    ·rw [List.getElem?_append_right (by omega)] at hk
     unfold capsA at hk
     rw [List.getElem?_map] at hk
     cases ek:caps[k - avs'.length]? with
     | none=>rw [ek] at hk;cases hk
     | some c =>
      rw [ek] at hk
      cases hk
      obtain ⟨x,hx,hr⟩:=hck _ c ek
      refine ⟨x,?_,hr⟩
      rw [List.getElem?_append_right (by rw [g1];omega),g1,Array.getElem?_toList];exact hx
   refine (hctr.calls w β φ _ (whole_OR h) hargs).mono fun e w' ⟨r,objs',hR,hlen,hcomp,v,β1,φ1,he,hOR,hβ,hφ,hr,hfrm⟩=>?_
   subst he
   have hwl:st.whole.length=st.next:=wholeFrom_length st _ _
   obtain ⟨le,sr⟩:=h.behind (by rw [<- hwl];exact hlen) (fun o ho=>by
    have:=hcomp o (by rw [hwl];exact ho)
    rw [whole_ob h] at this
    exact this) hOR (fun o ho=>hβ o (by rw [hwl];exact ho)) hφ hfrm
   exact hnext β1 φ1 w' _ r v le sr rfl (by rw [behind_ctx];exact hr) (hK r objs' hR)
  ·cases ec
 ·cases ec

theorem callQ_wp (h:SR B N st β φ a w) {o:Oper} {K:AV -> St -> Prop} (hq:callQ P st o K) {next:Act -> World -> Prop} {Q:Exit -> Act -> World -> Prop}
  (hnext:∀ β' φ' w' st' r x,(st.ctx w β φ).Le (st'.ctx w' β' φ') -> SR B N st' β' φ' a w' -> st'.env=st.env -> AVRel (st'.ctx w' β' φ') r x -> K r st' -> next (a.put o.dst x) w'):o.wp P a w next Q:=by
 unfold callQ at hq
 split at hq
 ·rename_i q fid avs ec
  obtain ⟨hq0,hq⟩:=hq
  rcases hq with ⟨os,vs,r,objs',hview,hosok,hen,hctr,hK⟩ | ⟨hov,hap,hK⟩ | ⟨os,vs,r,objs',hdat,hen,hctr,hK⟩ | ⟨R,hen,hctr,_,hK⟩
  case inr.inl=>exact over_wp h ec hq0 hov hap (hnext β φ w st _ _ (le_refl _) h rfl (leaf_flat (.bool false)) hK)
  case inr.inr.inr=>exact whole_wp h ec hq0 hen hctr hK hnext
  case inr.inr.inl =>
   obtain ⟨φf,lef,hf⟩:=h.frzAll os
   rw [<- frzAll_next os st] at hK
   generalize hst1:frzAll st os=st1 at hdat hK lef hf
   have henv1:st1.env=st.env:=by rw [<- hst1];exact frzAll_env os st
   obtain ⟨d1,d2,d3⟩:=datAs_sound hf hdat
   unfold callee at ec
   split at ec
   ·rename_i x args ts eo
    split at ec
    ·rename_i p fid' caps q' avs' e1 e2
     simp only [Option.some.injEq,Prod.mk.injEq] at ec
     obtain ⟨rfl,rfl,rfl⟩:=ec
     obtain ⟨hp,hq'⟩:=hq0
     obtain ⟨cvs,hfv,hcs,hck⟩:=opA_sound h e1 hp
     obtain ⟨g1,g2⟩:=evAs_sound h e2 hq'
     have hrun:=run_call (P:=P) (w:=w) (ρ:=a.eval) eo hfv hen
     unfold Oper.wp
     rw [hrun]
     show Calls P fid' (args.map a.eval ++ cvs) w _
     obtain ⟨Y,hY1,hY2⟩:=nodup_of ((List.range st1.next).flatMap φf)
     have hφ0:∀ o,st1.next <= o -> φf o=[]:=fun o ho=>by
      have:=hf.objs o
      unfold ObjRel at this
      rw [show (st1.ctx w β φf).ob o=_ from hf.dead o ho] at this
      exact this
     have hY:∀ b,b ∈ Y ↔ ∃ o,b ∈ φf o:=fun b=>by
      rw [hY2,List.mem_flatMap]
      refine ⟨fun ⟨o,_,hb⟩=>⟨o,hb⟩,fun ⟨o,hb⟩=>⟨o,List.mem_range.2 (Classical.byContradiction fun hn=>?_),hb⟩⟩
      rw [hφ0 o (by omega)] at hb
      cases hb
     have hlist:(args.map a.eval ++ cvs).toList=args.toList.map a.eval ++ cvs.toList:=by simp
     have hargs:ArgsRel ⟨w,fun _=>⟨none,0⟩,fun _=>.dead,fun b=>b ∈ Y,0⟩ vs (args.map a.eval ++ cvs):=by
      have key:∀ (k:Nat) (u:AV),(avs' ++ capsA caps)[k]?=some u -> ∃ x,(args.map a.eval ++ cvs)[k]?=some x /\ AVRel (st.ctx w β φ) u x:=fun k u hk=>by
       rw [<- Array.getElem?_toList,hlist]
       by_cases hkl:k < avs'.length
       ·rw [List.getElem?_append_left hkl] at hk
        obtain ⟨x,hx,hr⟩:=g2 k u hk
        exact ⟨x,by rw [List.getElem?_append_left (by rw [g1];exact hkl)];exact hx,hr⟩
       ·rw [List.getElem?_append_right (by omega)] at hk
        unfold capsA at hk
        rw [List.getElem?_map] at hk
        cases ek:caps[k - avs'.length]? with
        | none=>rw [ek] at hk;cases hk
        | some c =>
         rw [ek] at hk
         cases hk
         obtain ⟨x,hx,hr⟩:=hck _ c ek
         refine ⟨x,?_,hr⟩
         rw [List.getElem?_append_right (by rw [g1];omega),g1,Array.getElem?_toList];exact hx
      refine ⟨by rw [d1,<- Array.length_toList,hlist];simp [capsA,hcs];simpa using g1,fun j u' hj=>?_⟩
      obtain ⟨u,hu,hmap⟩:=d3 j u' hj
      obtain ⟨x,hx,hr⟩:=key j u hu
      exact ⟨x,hx,dat_av (C:=st1.ctx w β φf) (C':=⟨w,fun _=>⟨none,0⟩,fun _=>.dead,fun b=>b ∈ Y,0⟩) rfl (fun b hb=>(hY b).1 hb) ((List.all_eq_true.1 d2) u' (List.mem_of_getElem? hj)) (hmap (AVRel.mono lef hr))⟩
     refine (hctr.calls w Y _ hY1 (fun b hb=>by obtain ⟨o,ho⟩:=(hY b).1 hb;exact (hf.fp o b ho).1) (hf.glob.sub fun b hb=>(hY b).1 hb) hargs).mono fun e w' ⟨v,β1,φ1,he,hobj,hnd1,hdj1,hfp1,hr1,hfrm⟩=>?_
     subst he
     obtain ⟨β',φ',le,sr,hres⟩:=hf.afterB hY hctr.vecs hobj hnd1 hdj1 hfp1 hfrm
     exact hnext β' φ' w' _ _ v (lef.frz_trans le (fun k hk=>by rw [<- hst1] at hk;exact frzAll_hole os k hk)) sr henv1 (hres hctr.sh hr1) hK
    ·cases ec
   ·cases ec
  obtain ⟨hnd,hos⟩:=osOk_spec hosok
  unfold callee at ec
  split at ec
  ·rename_i x args ts eo
   split at ec
   ·rename_i p fid' caps q' avs' e1 e2
    simp only [Option.some.injEq,Prod.mk.injEq] at ec
    obtain ⟨rfl,rfl,rfl⟩:=ec
    obtain ⟨hp,hq'⟩:=hq0
    obtain ⟨cvs,hfv,hcs,hck⟩:=opA_sound h e1 hp
    obtain ⟨g1,g2⟩:=evAs_sound h e2 hq'
    have hrun:=run_call (P:=P) (w:=w) (ρ:=a.eval) eo hfv hen
    unfold Oper.wp
    rw [hrun]
    show Calls P fid' (args.map a.eval ++ cvs) w _
    have hargs:ArgsRel (subCtx st w β φ os) vs (args.map a.eval ++ cvs):=by
     have hlist:(args.map a.eval ++ cvs).toList=args.toList.map a.eval ++ cvs.toList:=by simp
     obtain ⟨k1,k2⟩:=viewAs_sound h hos hview (vs:=args.toList.map a.eval ++ cvs.toList) (by simp [capsA,hcs];simpa using g1) (fun k u hk=>by
      by_cases hkl:k < avs'.length
      ·rw [List.getElem?_append_left hkl] at hk
       obtain ⟨x,hx,hr⟩:=g2 k u hk
       exact ⟨x,by rw [List.getElem?_append_left (by rw [g1];exact hkl)];exact hx,hr⟩
      ·rw [List.getElem?_append_right (by omega)] at hk
       unfold capsA at hk
       rw [List.getElem?_map] at hk
       cases ek:caps[k - avs'.length]? with
       | none=>rw [ek] at hk;cases hk
       | some c =>
        rw [ek] at hk
        cases hk
        obtain ⟨x,hx,hr⟩:=hck _ c ek
        refine ⟨x,?_,hr⟩
        rw [List.getElem?_append_right (by rw [g1];omega),g1,Array.getElem?_toList];exact hx)
     refine ⟨by rw [<- Array.length_toList,hlist];exact k1,fun j u hj=>?_⟩
     obtain ⟨x,hx,hr⟩:=k2 j u hj
     exact ⟨x,by rw [<- Array.getElem?_toList,hlist];exact hx,hr⟩
    refine (hctr.calls w _ _ _ (subOR h hnd hos) hargs).mono fun e w' ⟨v,β1,φ1,he,hOR,hβ1,hφ1,hr1,hfrm⟩=>?_
    subst he
    obtain ⟨β',φ',le,sr,hres⟩:=h.after (os:=os) hos hnd (by simpa using hctr.len) hctr.sep (by simpa using hctr.comp) hOR (by simpa using hβ1) hφ1 hfrm
    exact hnext β' φ' w' _ _ v le sr rfl (hres hctr.clean hr1) hK
   ·cases ec
  ·cases ec
 ·exact hq.elim

theorem opQ_wp (h:SR B N st β φ a w) {o:Oper} {K:Option AV -> St -> Prop} (hq:opQ P st o K) {next:Act -> World -> Prop} {Q:Exit -> Act -> World -> Prop}
  (hnext:∀ β' φ' w' st' r x,(st.ctx w β φ).Le (st'.ctx w' β' φ') -> SR B N st' β' φ' a w' -> st'.env=st.env -> (∀ v,r=some v -> AVRel (st'.ctx w' β' φ') v x) -> (r=none -> x=undef) -> K r st' -> next (a.put o.dst x) w'):o.wp P a w next Q:=by
 unfold opQ at hq
 split at hq
 ·rename_i q r st' eo
  obtain ⟨β',φ',w',le,sr,he,hres⟩:=opS_sound h eo hq.1
  unfold Oper.wp
  rcases hres with ⟨r',z,rfl,hrun,hv⟩ | ⟨rfl,hrun⟩
  ·rw [hrun]
   exact hnext β' φ' w' st' _ z le sr he (fun v hv'=>by cases hv';exact hv) (by simp) hq.2
  ·rw [hrun]
   exact hnext β' φ' w' st' _ undef le sr he (by simp) (fun _=>rfl) hq.2
 ·split at hq
  ·rename_i q s rows en
   obtain ⟨hq,hK⟩:=hq
   unfold nilArg at en
   split at en
   ·rename_i op t x t' eo
    split at en
    ·rename_i e q' sz rows' ht hx
     simp only [Option.some.injEq,Prod.mk.injEq] at en
     obtain ⟨rfl,rfl,rfl⟩:=en
     obtain ⟨S,hr,_⟩:=opA_sound h hx hq
     obtain ⟨b,hb,hrun,_⟩:=nil_run ht hr x (.const (.slice none 0 0))
     have hok:OpOk P B N st st β φ a w (some (.one (.dat (.bool (b == true))))) (execOp a.eval o):=by
      unfold execOp
      simp only [eo]
      exact OpOk.of_res h ⟨rfl,_,_,rfl,hrun,leaf_flat (.bool _)⟩
     obtain ⟨β',φ',w',le,sr,he,hres⟩:=hok
     unfold Oper.wp
     rcases hres with ⟨r',z,hr',hrun,hv⟩ | ⟨hr',hrun⟩
     ·cases hr'
      rw [hrun]
      exact hnext β' φ' w' st _ z le sr he (fun v hv'=>by cases hv';exact hv) (by simp) (hK b hb)
     ·cases hr'
    ·rename_i e q' sz rows' ht hx
     simp only [Option.some.injEq,Prod.mk.injEq] at en
     obtain ⟨rfl,rfl,rfl⟩:=en
     obtain ⟨S,hr,_⟩:=opA_sound h hx hq
     obtain ⟨b,hb,_,hrun⟩:=nil_run ht hr x (.const (.slice none 0 0))
     have hok:OpOk P B N st st β φ a w (some (.one (.dat (.bool (b == false))))) (execOp a.eval o):=by
      unfold execOp
      simp only [eo]
      exact OpOk.of_res h ⟨rfl,_,_,rfl,hrun,leaf_flat (.bool _)⟩
     obtain ⟨β',φ',w',le,sr,he,hres⟩:=hok
     unfold Oper.wp
     rcases hres with ⟨r',z,hr',hrun,hv⟩ | ⟨hr',hrun⟩
     ·cases hr'
      rw [hrun]
      exact hnext β' φ' w' st _ z le sr he (fun v hv'=>by cases hv';exact hv) (by simp) (hK b hb)
     ·cases hr'
    ·cases en
   ·cases en
  ·split at hq
   ·rename_i q k sz sep rows en
    obtain ⟨hq,hK⟩:=hq
    unfold capArg at en
    split at en
    ·rename_i args ts eo
     split at en
     ·rename_i x t hax hat
      split at en
      ·rename_i e q' k' ht hx
       split at en
       ·rename_i sz' sep' rows' ek
        simp only [Option.some.injEq,Prod.mk.injEq] at en
        obtain ⟨rfl,rfl,rfl,rfl,rfl⟩:=en
        obtain ⟨hq',hf⟩:=hq
        obtain ⟨hn,hv⟩:=opA_sound h hx hq'
        rw [show (st.ctx w β φ).ob k'=_ from ek] at hv
        simp only at hv
        obtain ⟨sp,hsp,hcap,le,sr⟩:=h.widen ek hf
        obtain ⟨hte,_⟩:=te_spec (P:=P) (t:=t) (e:=e.1) (s:=e.2.1) (y:=e.2.2) ht
        have hax':args=#[x]:=by rw [<- Array.toArray_toList (xs:=args),hax]
        have hat':ts=#[t]:=by rw [<- Array.toArray_toList (xs:=ts),hat]
        subst hax'
        subst hat'
        have hrun:(execOp a.eval o).run P w=.ok (.value (.int .i64 ((rows'.length + sp.length:Nat):Int))) w:=by
         unfold execOp
         simp only [eo]
         have hcap':((st.ctx w β φ).β k').cap=rows'.length + sp.length:=hcap
         simp [resolve,invoke,builtin,hv,Builtin.cap_,run_underlying hte,goInt,hcap']
        unfold Oper.wp
        rw [hrun]
        exact hnext β φ w _ _ _ le sr rfl (fun v hv'=>by cases hv';exact leaf_flat (.int _ _)) (by simp) (hK sp hsp)
       ·cases en
      ·cases en
     ·cases en
    ·cases en
   ·split at hq
    ·rename_i q agg k i j sz rows en
     obtain ⟨hq,hK⟩:=hq
     unfold openArg at en
     split at en
     ·rename_i t x eo
      split at en
      ·rename_i agg' q' k' i' j' ht hx
       split at en
       ·rename_i sz' rows' ek
        simp only [Option.some.injEq,Prod.mk.injEq] at en
        obtain ⟨rfl,rfl,rfl,rfl,rfl,rfl,rfl⟩:=en
        obtain ⟨hq',hi,hj⟩:=hq
        obtain ⟨hn,hp⟩:=opA_sound h hx hq'
        rw [show (st.ctx w β φ).ob k'=_ from ek] at hp
        obtain ⟨b,hb,hpv⟩:=hp
        have hb':(β k').base=some ⟨b,0,none⟩:=hb
        unfold openK at hK
        split at hK
        ·rename_i s2 rs hd
         obtain ⟨b',v,hbb,hc,β',φ',le,sr,hv⟩:=h.openAny ek hi hj hd
         rw [hb'] at hbb
         cases hbb
         have hat:At ((openSt st k' i' j' sz' rows' s2 rs v).ctx w β' φ') agg' 1 (openV agg' st.next) ⟨b,i' * sz' + j',none⟩:=by
          cases agg' with
          | true =>
           refine ⟨[v],[.own st.next],rfl,rfl,⟨rfl,fun m l hm=>?_⟩,fun m u hm=>?_⟩
           ·cases m with
            | zero=>cases hm;exact ⟨v,rfl,hv⟩
            | succ m=>simp at hm
           ·cases m with
            | zero=>cases hm;rw [Addr.add_lit];exact hc
            | succ m=>simp at hm
          | false=>exact ⟨v,.own st.next,rfl,hc,hv⟩
         obtain ⟨z,hz,hr⟩:=run_at ht hat
         have hz':(loadVar t ⟨b,i' * sz' + j',none⟩).run P w=.ok z w:=hz
         have hrun:(execOp a.eval o).run P w=.ok (.value z) w:=by
          unfold execOp
          simp [eo,hpv,Instr.loadAt,Instr.sureAddr,hz']
         unfold Oper.wp
         rw [hrun]
         exact hnext β' φ' w _ _ z le sr rfl (fun u hu=>by
          cases hu
          cases agg' with
          | true=>exact hr
          | false=>exact hr) (by simp) (hK v)
        ·exact hK.elim
       ·cases en
      ·cases en
     ·cases en
    ·exact callQ_wp h hq fun β' φ' w' st' r x le sr he hv hK=>hnext β' φ' w' st' (some r) x le sr he (fun v hv'=>by cases hv';exact hv) (by simp) hK

theorem SR.putO (h:SR B N st β φ a w) {d:Option Tmp} {r:Option AV} {x:Value} (hd:∀ t,d=some t -> t < N) (hv:∀ v,r=some v -> AVRel (st.ctx w β φ) v x):SR B N (st.putO d r) β φ (a.put d x) w:=by
 unfold St.putO
 cases d with
 | none=>exact h
 | some d =>
  cases r with
  | some v=>exact h.put (hd d rfl) (hv v rfl)
  | none =>
   have:=h.forget (drop d st.env) (fun t v hf=>by
    by_cases e:t=d
    ·subst e;rw [find_drop_same] at hf;cases hf
    ·rwa [find_drop_ne e] at hf)
   exact this.putAny (d:=some d) (fun t ht=>by cases ht;exact find_drop_same d st.env)

def guardA (ops:Array Oper) (st:St) (j:Nat) (want:Bool):Option Bool :=
 match (ops[j]?).bind (·.dst) with
 | some d=>match find st.env d with
  | some (.one (.dat (.bool b)))=>some (b == want)
  | some (.ifg c (.one (.dat (.bool b))))=>some (c && (b == want))
  | _=>none
 | none=>none

theorem guardA_sound (h:SR B N st β φ a w) {ops:Array Oper} {o:Oper} {j:Nat} {want g:Bool} (ho:o.guard=some (j,want)) (hg:guardA ops st j want=some g):Region.wanted o (yielded ops a.tmps)=g:=by
 unfold Region.wanted yielded
 rw [ho]
 unfold guardA at hg
 cases e:(ops[j]?).bind (·.dst) with
 | none=>rw [e] at hg;cases hg
 | some d =>
  rw [e] at hg
  simp only at hg
  have hsz:∀ v,find st.env d=some v -> a.tmps[d]?=some (a.tmps.getD d undef):=fun v hv=>by
   have:=(h.env d v hv).1
   rw [Array.getD_eq_getD_getElem?,Array.getElem?_eq_getElem (by rw [h.size];exact this)]
   rfl
  simp only [e,Option.bind_some]
  split at hg
  ·rename_i b ef
   cases hg
   obtain ⟨_,S,hr,_⟩:=h.env d _ ef
   rw [hsz _ ef]
   generalize a.tmps.getD d undef=x at hr ⊢
   cases hr
   cases b <;> cases want <;> rfl
  ·rename_i c b ef
   cases hg
   obtain ⟨_,hr1,hr2⟩:=h.env d _ ef
   rw [hsz _ ef]
   generalize a.tmps.getD d undef=x at hr1 hr2 ⊢
   cases c with
   | true =>
    obtain ⟨S,hr,_⟩:=hr1 rfl
    cases hr
    cases b <;> cases want <;> rfl
   | false =>
    rw [hr2 rfl]
    simp [undef]
  ·cases hg

def pureOp:Op -> Bool
 | .move _ | .assign _ | .load _ _ | .binOp _ _ _ _ _ | .unOp _ _ _ | .convert _ _ _ | .fieldAddr _ _ _ | .field _ _ _ | .indexAddr _ _ _ | .index _ _ _ | .pick _ _ _ | .slice _ _ _ _ _ | .build _ _ | .extract _ _ | .nilCheck _ | .makeFunc _ _ _=>true
 | .call { callee:=.builtin b,args,.. }=>match b with
  | .len=>args.size == 1
  | .min | .max=>args.size == 2
  | _=>false
 | _=>false

theorem un_st {x:Operand} {k:AV -> Out} {q:Prop} {r:Option AV} {s:St} (h:un st x k=some (q,r,s)) (hk:∀ v q r s,k v=some (q,r,s) -> s=st):s=st:=by
 unfold un at h
 split at h
 ·split at h
  ·rename_i e
   cases h
   exact hk _ _ _ _ e
  ·cases h
 ·cases h

theorem sliceS_st {t:TypeId} {v:AV} {l h m:Option AV} {q:Prop} {r:Option AV} {s:St} (e:sliceS P st t v l h m=some (q,r,s)):s=st:=by
 unfold sliceS at e
 repeat' split at e
 all_goals first | (cases e;done) | (cases e;rfl)

theorem un?_st {x:Option Operand} {k:Option AV -> Out} {q:Prop} {r:Option AV} {s:St} (h:un? st x k=some (q,r,s)) (hk:∀ v q r s,k v=some (q,r,s) -> s=st):s=st:=by
 cases x with
 | none=>exact hk _ _ _ _ h
 | some x=>exact un_st h fun v q r s e=>hk _ _ _ _ e

theorem opS_pure {o:Oper} {q:Prop} {r:Option AV} (hp:pureOp o.op=true) (h:opS P st o=some (q,r,st')):st'=st:=by
 unfold opS at h
 split at h <;> rename_i eo <;> first | (rw [eo] at hp;simp only [pureOp] at hp) | (cases h;done)
 all_goals try (cases hp;done)
 ·exact un_st h fun v q r s e=>by cases e;rfl
 ·exact un_st h fun v q r s e=>by cases e;rfl
 ·unfold pickS at h;split at h <;> cases h;rfl
 ·unfold buildS at h
  split at h
  ·split at h <;> cases h
   rfl
  ·cases h
 ·refine un_st h fun v q r s e=>?_
  unfold loadS at e
  split at e
  ·split at e
   ·cases e
   split at e
   ·split at e
    ·simp only [Option.map_eq_some_iff] at e;obtain ⟨_,_,e⟩:=e;cases e;rfl
    ·cases e
   ·cases e
  ·cases e
 ·refine un_st h fun v q r s e=>un_st e fun v q r s e=>?_
  unfold binS at e
  split at e
  ·split at e <;> cases e;rfl
  ·split at e
   ·split at e <;> cases e;rfl
   ·split at e <;> cases e;rfl
   ·cases e
  ·cases e
 ·refine un_st h fun v q r s e=>?_
  unfold unS at e
  split at e
  ·split at e <;> cases e;rfl
  ·split at e <;> cases e;rfl
  ·cases e
 ·refine un_st h fun v q r s e=>?_
  unfold convS at e
  split at e
  ·split at e <;> cases e;rfl
  ·split at e <;> cases e;rfl
  ·split at e
   ·rw [Option.map_eq_some_iff] at e
    obtain ⟨_,_,e⟩:=e
    cases e;rfl
   ·cases e
  ·split at e
   ·split at e
    ·rw [Option.map_eq_some_iff] at e
     obtain ⟨_,_,e⟩:=e
     cases e;rfl
    ·cases e
   ·cases e
  ·cases e
 ·split at h
  ·rw [Option.map_eq_some_iff] at h
   obtain ⟨_,_,e⟩:=h
   cases e;rfl
  ·cases h
 ·exact un_st h fun v q r s e=>un?_st e fun v q r s e=>un?_st e fun v q r s e=>un?_st e fun v q r s e=>sliceS_st e
 ·refine un_st h fun v q r s e=>?_
  unfold faddrS at e
  split at e
  ·split at e
   ·cases e
   ·simp only [Option.map_eq_some_iff] at e;obtain ⟨_,_,e⟩:=e;cases e;rfl
  ·simp only [Option.map_eq_some_iff] at e;obtain ⟨_,_,e⟩:=e;cases e;rfl
  ·cases e
 ·refine un_st h fun v q r s e=>?_
  unfold fieldS at e
  split at e
  ·split at e <;> cases e <;> rfl
  ·cases e
 ·refine un_st h fun v q r s e=>un_st e fun v q r s e=>?_
  unfold iaddrS at e
  split at e
  ·split at e
   ·split at e <;> cases e <;> rfl
   ·cases e
  ·split at e
   ·split at e <;> cases e <;> rfl
   ·cases e
  ·split at e <;> cases e;rfl
  ·split at e
   ·split at e <;> cases e;rfl
   ·cases e
  ·split at e <;> cases e;rfl
  ·cases e
 ·refine un_st h fun v q r s e=>un_st e fun v q r s e=>?_
  unfold indexS at e
  split at e
  ·split at e <;> cases e;rfl
  ·split at e
   ·split at e <;> cases e;rfl
   ·cases e
  ·cases e
 ·refine un_st h fun v q r s e=>?_
  unfold extractS at e
  split at e
  ·split at e <;> cases e <;> rfl
  ·cases e
 ·refine un_st h fun v q r s e=>?_
  unfold nilS at e
  split at e
  ·split at e <;> cases e <;> rfl
  ·cases e
 ·rename_i b args ts
  have hlen:∀ {v:AV} {q:Prop} {r:Option AV} {s:St},lenS st v=some (q,r,s) -> s=st:=fun {v q r s} e=>by
   unfold lenS at e
   split at e
   ·split at e <;> cases e <;> rfl
   ·split at e <;> cases e <;> rfl
   all_goals (cases e;try rfl)
  have hmm:∀ {m:Bool} {u v:AV} {q:Prop} {r:Option AV} {s:St},minmaxS st m u v=some (q,r,s) -> s=st:=fun {m u v q r s} e=>by
   unfold minmaxS at e
   split at e <;> cases e;rfl
  unfold builtinS at h
  split at h
  ·split at h
   ·refine un_st h fun v q r s e=>?_
    split at e
    ·split at e
     ·exact hlen e
     ·cases e
    ·split at e
     ·exact hlen e
     ·cases e
   ·cases hp
   ·cases hp
   ·cases h
  ·split at h
   ·cases hp
   ·cases hp
   ·exact un_st h fun v q r s e=>un_st e fun v q r s e=>hmm e
   ·exact un_st h fun v q r s e=>un_st e fun v q r s e=>hmm e
   ·cases h
  ·cases h

def AV.isPV:AV -> Bool
 | .one _=>true
 | .agg _=>true
 | _=>false

theorem AV.pv {C:Ctx} {v:AV} (h:v.isPV=true) {x:Value} (hr:AVRel C v x):PVRel C v x:=by
 cases v with
 | one l=>exact hr
 | agg ls=>exact hr
 | tup vs=>cases h
 | ifg b v=>cases h

def Leaf.noOwn:Leaf -> Bool
 | .own _=>false
 | .part _ _ _=>false
 | _=>true

def AV.plain:AV -> Bool
 | .one l=>l.noOwn
 | .agg ls=>ls.all Leaf.noOwn
 | _=>false

theorem ren_plain {r:AV} (h:r.plain=true) (ids:List Nat):r.ren ids=r:=by
 have hl:∀ l:Leaf,l.noOwn=true -> l.ren ids=l:=fun l hl=>by cases l <;> first | rfl | cases hl
 cases r with
 | one l=>show AV.one (l.ren ids)=_;rw [hl l h]
 | agg ls =>
  show AV.agg (ls.map (Leaf.ren ids))=_
  congr 1
  have h':∀ l ∈ ls,l.noOwn=true:=by simpa [AV.plain] using h
  clear h
  induction ls with
  | nil=>rfl
  | cons l ls ih=>rw [List.map_cons,hl l (h' l (List.mem_cons_self ..)),ih (fun l hl=>h' l (List.mem_cons_of_mem _ hl))]
 | tup vs=>cases h
 | ifg b v=>cases h

theorem isPV_plain {r:AV} (h:r.plain=true):r.isPV=true:=by cases r <;> first | rfl | cases h

theorem after_nil (st:St):st.after [] []=st:=by
 cases st;rfl

def CtrV (P:Program) (fid:FuncId) (vs:List AV) (r:AV):Prop :=
 Ctr P fid vs [] r [] \/ ∃ sz rows,r=.one (.dat (.sl sz rows)) /\ Ctr P fid vs [] (.one (.own 0)) [.vec sz true rows]

theorem objRel_rep {C:Ctx} {φ:Nat -> List Nat} {o sz:Nat} {rows:List (List D)} (e:C.ob o=.vec sz true rows) (ho:ObjRel C φ o) :
  ∃ S,Rep C.w (.sl sz rows) (.slice (C.β o).base rows.length (C.β o).cap) S /\ ∀ x ∈ S,x ∈ φ o:=by
 unfold ObjRel at ho
 rw [e] at ho
 obtain ⟨hsz,hcap,ho⟩:=ho
 rcases ho with ⟨hφ,h0⟩ | ⟨b,T,S,E,vs,hb,hheap,hvs,hrep,hφ,hS⟩
 ·have hr:rows=[]:=List.eq_nil_of_length_eq_zero (by omega)
  subst hr
  exact ⟨[],.nil ..,by simp⟩
 ·refine ⟨b :: S,?_,fun x hx=>?_⟩
  ·rw [hb]
   refine .sl sz rows b 0 _ _ S (lt_of_heap hheap) hsz hrep (fun j v hj=>?_) hcap
   rw [Nat.zero_add]
   refine (cell_of_heap hheap).trans ?_
   rw [<- Array.getElem?_toList]
   rw [List.getElem?_take] at hj
   split at hj
   ·exact hj
   ·cases hj
  ·rw [hφ]
   rcases List.mem_cons.1 hx with rfl | hx
   ·exact List.mem_cons_self ..
   ·exact List.mem_cons_of_mem _ (hS.2.1 x hx)

theorem SR.calm (h:SR B N st β φ a w) (hfrm:Frm w (fun _=>False) w'):(st.ctx w β φ).Le (st.ctx w' β φ) /\ SR B N st β φ a w' :=
 h.change (fun _=>False) rfl (Nat.le_refl _) (fun _ _=>rfl) (fun _ _=>rfl) (fun _ _=>rfl) h.dead (fun _ hk=>hk.elim)
  (hfrm.mono (fun _ _ hf=>hf.elim)) (fun _ _ hk=>hk.elim) (fun _ hk=>hk.elim) (fun _ hk=>hk.elim) (fun _ _ hk=>hk.elim)

theorem callV_wp (h:SR B N st β φ a w) {o:Oper} {q:Prop} {fid:FuncId} {avs vs:List AV} {r:AV} (ec:callee st o=some (q,fid,avs)) (hq0:q) (hview:viewAs st [] avs=some vs)
  (hen:enters P fid=true) (hc:CtrV P fid vs r) (hpv:r.plain=true) {next:Act -> World -> Prop} {Q:Exit -> Act -> World -> Prop}
  (hnext:∀ β' φ' w' x,SR B N st β' φ' a w' -> AVRel (st.ctx w' β' φ') r x -> next (a.put o.dst x) w'):o.wp P a w next Q:=by
 rcases hc with hc | ⟨sz,rows,rfl,hctr⟩
 ·have hcq:callQ P st o (fun r2 st'=>r2=r.ren [] /\ st'=st):=by
   unfold callQ
   rw [ec]
   exact ⟨hq0,.inl ⟨[],vs,r,[],hview,trivial,hen,hc,rfl,after_nil st⟩⟩
  refine callQ_wp h hcq fun β' φ' w' st' r2 x le sr he hv ⟨hr2,hs'⟩=>?_
  subst hs'
  subst hr2
  rw [ren_plain hpv] at hv
  exact hnext β' φ' w' x sr hv
 ·have hos:∀ o ∈ ([]:List Nat),o < st.next /\ Given (st.obj o):=fun _ hx=>by cases hx
  unfold callee at ec
  split at ec
  ·rename_i x args ts eo
   split at ec
   ·rename_i p fid' caps q' avs' e1 e2
    simp only [Option.some.injEq,Prod.mk.injEq] at ec
    obtain ⟨rfl,rfl,rfl⟩:=ec
    obtain ⟨hp,hq'⟩:=hq0
    obtain ⟨cvs,hfv,hcs,hck⟩:=opA_sound h e1 hp
    obtain ⟨g1,g2⟩:=evAs_sound h e2 hq'
    have hrun:=run_call (P:=P) (w:=w) (ρ:=a.eval) eo hfv hen
    unfold Oper.wp
    rw [hrun]
    show Calls P fid' (args.map a.eval ++ cvs) w _
    have hargs:ArgsRel (subCtx st w β φ []) vs (args.map a.eval ++ cvs):=by
     have hlist:(args.map a.eval ++ cvs).toList=args.toList.map a.eval ++ cvs.toList:=by simp
     obtain ⟨k1,k2⟩:=viewAs_sound h hos hview (vs:=args.toList.map a.eval ++ cvs.toList) (by simp [capsA,hcs];simpa using g1) (fun k u hk=>by
      by_cases hkl:k < avs'.length
      ·rw [List.getElem?_append_left hkl] at hk
       obtain ⟨x,hx,hr⟩:=g2 k u hk
       exact ⟨x,by rw [List.getElem?_append_left (by rw [g1];exact hkl)];exact hx,hr⟩
      ·rw [List.getElem?_append_right (by omega)] at hk
       unfold capsA at hk
       rw [List.getElem?_map] at hk
       cases ek:caps[k - avs'.length]? with
       | none=>rw [ek] at hk;cases hk
       | some c =>
        rw [ek] at hk
        cases hk
        obtain ⟨x,hx,hr⟩:=hck _ c ek
        refine ⟨x,?_,hr⟩
        rw [List.getElem?_append_right (by rw [g1];omega),g1,Array.getElem?_toList];exact hx)
     refine ⟨by rw [<- Array.length_toList,hlist];exact k1,fun j u hj=>?_⟩
     obtain ⟨x,hx,hr⟩:=k2 j u hj
     exact ⟨x,by rw [<- Array.getElem?_toList,hlist];exact hx,hr⟩
    refine (hctr.calls w _ _ _ (subOR h List.nodup_nil hos) hargs).mono fun e w' ⟨v,β1,φ1,he,hOR,hβ1,hφ1,hr1,hfrm⟩=>?_
    subst he
    obtain ⟨S,hrep,hS⟩:=objRel_rep (o:=0) (C:=lctx w' β1 φ1 [.vec sz true rows]) (sz:=sz) (rows:=rows) rfl (hOR.objs 0)
    obtain ⟨_,hv⟩:=hr1
    have hv:v=.slice (β1 0).base rows.length (β1 0).cap:=hv
    obtain ⟨_,sr⟩:=h.calm (w':=w') (hfrm.mono (fun b _ ⟨k,hk⟩=>by
     have hk:b ∈ (if k < 0 then φ (([]:List Nat).getD k 0) else []):=hk
     rw [if_neg (by omega)] at hk
     cases hk))
    refine hnext β φ w' v sr ?_
    rw [hv]
    refine ⟨S,hrep,fun b hb ⟨o',ho'⟩=>?_⟩
    have h1:=(h.fp o' b ho').1
    rcases hφ1 0 b (hS b hb) with h2 | ⟨k,hk⟩
    ·omega
    ·have hk:b ∈ (if k < 0 then φ (([]:List Nat).getD k 0) else []):=hk
     rw [if_neg (by omega)] at hk
     cases hk
   ·cases ec
  ·cases ec

def condCall (P:Program) (st:St) (o:Oper) (g:Bool) (K:AV -> Prop):Prop :=
 match callee st o with
 | some (q,fid,avs)=>∃ r,r.plain=true /\ (g=true -> q /\ ∃ vs,viewAs st [] avs=some vs /\ enters P fid=true /\ CtrV P fid vs r) /\ K r
 | none=>False

def stepQ (P:Program) (ops:Array Oper) (st:St) (o:Oper) (K:St -> Prop):Prop :=
 match o.guard with
 | none=>opQ P st o fun r st'=>K (st'.putO o.dst r)
 | some (j,want)=>match guardA ops st j want with
  | none=>False
  | some g =>
   if pureOp o.op then
    match opS P st o with
    | some (q,some r,_)=>r.isPV=true /\ (g=true -> q) /\ K (st.putO o.dst (some (.ifg g r)))
    | _=>False
   else condCall P st o g (fun r=>K (st.putO o.dst (some (.ifg g r)))) \/ (g=true /\ opQ P st o fun r st'=>K (st'.putO o.dst r)) \/ (g=false /\ K (st.putO o.dst none))

theorem stepQ_wp (h:SR B N st β φ a w) {ops:Array Oper} {o:Oper} (hd:∀ t,o.dst=some t -> t < N) {K:St -> Prop} (hq:stepQ P ops st o K) {next:Act -> World -> Prop} {Q:Exit -> Act -> World -> Prop}
  (hnext:∀ β' φ' w' st' x,SR B N st' β' φ' (a.put o.dst x) w' -> K st' -> next (a.put o.dst x) w') :
  if Region.wanted o (yielded ops a.tmps) then o.wp P a w next Q else next (a.put o.dst undef) w:=by
 have full:opQ P st o (fun r st'=>K (st'.putO o.dst r)) -> o.wp P a w next Q:=fun hq =>
  opQ_wp h hq fun β' φ' w' st' r x le sr he hv hn hK=>hnext β' φ' w' _ x (sr.putO hd hv) hK
 unfold stepQ at hq
 cases eg:o.guard with
 | none =>
  rw [eg] at hq
  have hw:Region.wanted o (yielded ops a.tmps)=true:=by unfold Region.wanted;rw [eg]
  rw [hw]
  exact full hq
 | some jw =>
  obtain ⟨j,want⟩:=jw
  rw [eg] at hq
  simp only at hq
  cases hga:guardA ops st j want with
  | none=>rw [hga] at hq;exact hq.elim
  | some g =>
   rw [hga] at hq
   have hw:=guardA_sound h eg hga
   rw [hw]
   simp only at hq
   split at hq
   ·rename_i hpure
    split at hq
    ·rename_i q r st' eo
     obtain ⟨hpv,hqg,hK⟩:=hq
     have hst:=opS_pure hpure eo
     subst hst
     cases g with
     | true =>
      simp only [if_true]
      obtain ⟨β',φ',w',le,sr,he,hres⟩:=opS_sound h eo (hqg rfl)
      rcases hres with ⟨r',z,hr',hrun,hv⟩ | ⟨hr',_⟩
      ·cases hr'
       unfold Oper.wp
       rw [hrun]
       exact hnext β' φ' w' _ z (sr.putO hd (fun v hv'=>by cases hv';exact ⟨fun _=>AV.pv hpv hv,fun hf=>by cases hf⟩)) hK
      ·cases hr'
     | false =>
      simp only [Bool.false_eq_true,if_false]
      exact hnext β φ w _ undef (h.putO hd (fun v hv'=>by cases hv';exact ⟨fun hf=>by (cases hf),fun _=>rfl⟩)) hK
    ·exact hq.elim
   ·rcases hq with hq | ⟨rfl,hq⟩ | ⟨rfl,hq⟩
    ·unfold condCall at hq
     split at hq
     ·rename_i q fid avs ec
      obtain ⟨r,hpv,hctr,hK⟩:=hq
      cases g with
      | true =>
       simp only [if_true]
       obtain ⟨hq0,vs,hview,hen,hc⟩:=hctr rfl
       refine callV_wp h ec hq0 hview hen hc hpv fun β' φ' w' x sr hv=>?_
       exact hnext β' φ' w' _ x (sr.putO hd (fun v hv'=>by cases hv';exact ⟨fun _=>AV.pv (isPV_plain hpv) hv,fun hf=>by cases hf⟩)) hK
      | false =>
       simp only [Bool.false_eq_true,if_false]
       exact hnext β φ w _ undef (h.putO hd (fun v hv'=>by cases hv';exact ⟨fun hf=>by (cases hf),fun _=>rfl⟩)) hK
     ·exact hq.elim
    ·simp only [if_true]
     exact full hq
    ·simp only [Bool.false_eq_true,if_false]
     exact hnext β φ w _ undef (h.putO (r:=none) hd (by simp)) hq
end
end Go.Abs
