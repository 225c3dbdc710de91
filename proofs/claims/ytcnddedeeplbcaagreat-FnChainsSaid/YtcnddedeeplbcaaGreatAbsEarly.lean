/- A region of open order with variables that may come early: their numbers are fixed ahead. Own work. -/
import Derived.Test.YtcnddedeeplbcaaGreatAbsFloat
import Derived.Test.YtcnddedeeplbcaaGreatAbsOnce
namespace Go.Abs
set_option linter.unusedVariables false
set_option linter.unusedSimpArgs false

def setB (st:St) (f:Nat -> AObj):List (Nat × Nat) -> St
 | []=>st
 | (_,m) :: r=>(setB st f r).setObj m (f m)
def keepB (st:St) (f:Nat -> AObj):List (Nat × Nat) -> Prop
 | []=>True
 | (_,m) :: r=>st.obj m=f m /\ keepB st f r
def numB (i:Nat):List (Nat × Nat) -> Option Nat
 | []=>none
 | (j,m) :: r=>match decide (i=j) with
  | true=>some m
  | false=>numB i r
def dropB (i:Nat):List (Nat × Nat) -> List (Nat × Nat)
 | []=>[]
 | (j,m) :: r=>match decide (i=j) with
  | true=>r
  | false=>(j,m) :: dropB i r
def constP:List (Nat × Operand) -> Bool
 | []=>true
 | (_,.const _) :: r=>constP r
 | _=>false
def earlyLit (P:Program) (t:TypeId) (len:Nat) (parts:List (Nat × Operand)):Option (AObj × (Nat -> AV)) :=
 match te P t,evP ⟨[],[],0⟩ parts with
 | some (e,s,_),some (_,ps)=>match tz P e with
  | some zs=>match fillL (fun i=>some (i * s,s)) ((List.replicate len (zs.map zleaf)).flatten) ps with
   | some ls=>match flatDs ls with
    | some ds=>if ds.length=len * s /\ zs.length=s /\ len * s <= 16777216 then some (.vec s true (chunks s len ds),fun m=>.one (.own m)) else none
    | none=>none
   | none=>none
  | none=>none
 | _,_=>none
def earlyV:Op -> Bool
 | .alloc _=>true
 | .makeSlice _ (.const (.int _ _)) (.const (.int _ _))=>true
 | .buildSlice _ _ ⟨p :: ps⟩=>constP (p :: ps)
 | _=>false
def earlyOf (P:Program):Op -> Option (AObj × (Nat -> AV))
 | .alloc t=>match tz P t with
  | some ds=>some (.box (ds.map zleaf),fun m=>.one (.ptr (.own m 0 0)))
  | none=>none
 | .makeSlice t (.const (.int _ l)) (.const (.int _ c))=>match te P t with
  | some (e,s,y)=>match tz P e with
   | some zs=>if l=c /\ 0 <= l /\ (y:Int) * l <= 281474976710656 /\ l <= 9223372036854775807 /\ zs.length=s then some (.vec s true (List.replicate l.toNat zs),fun m=>.one (.own m)) else none
   | none=>none
  | none=>none
 | .buildSlice t len ⟨p :: ps⟩=>match constP (p :: ps) with
  | true=>earlyLit P t len (p :: ps)
  | false=>none
 | _=>none
theorem earlyOf_V {P:Program} {o:Op} {x:AObj × (Nat -> AV)} (h:earlyOf P o=some x):earlyV o=true:=by
 unfold earlyOf at h
 split at h
 ·rfl
 ·rfl
 ·split at h
  ·rename_i hc;exact hc
  ·cases h
 ·cases h
theorem earlyLit_nop {P:Program} {t:TypeId} {len:Nat} {ps:List (Nat × Operand)} {x:AObj × (Nat -> AV)} (h:earlyLit P t len ps=some x):∃ s rs,x.1=.vec s true rs:=by
 unfold earlyLit at h
 split at h
 ·split at h
  ·split at h
   ·split at h
    ·split at h
     ·cases h;exact ⟨_,_,rfl⟩
     ·cases h
    ·cases h
   ·cases h
  ·cases h
 ·cases h
def nop:AObj -> AObj
 | .pin _ _=>.hole
 | .ballast _=>.hole
 | x=>x
def nopF (f:Nat -> AObj):Nat -> AObj:=fun k=>nop (f k)
theorem earlyOf_nop {P:Program} {o:Op} {t:AObj} {ds:Nat -> AV} (h:earlyOf P o=some (t,ds)):nop t=t:=by
 unfold earlyOf at h
 split at h
 ·split at h <;> cases h
  rfl
 ·split at h
  ·split at h
   ·split at h <;> cases h
    rfl
   ·cases h
  ·cases h
 ·split at h
  ·obtain ⟨s,rs,e⟩:=earlyLit_nop h
   have e:t=_:=e
   rw [e];rfl
  ·cases h
 ·cases h
def regE (P:Program) (ops:Array Oper):List (Nat × List Nat) -> List (Nat × Nat) -> List Nat -> St -> (St -> Prop) -> Prop
 | r,[],_,st,K=>regF P ops r st K
 | [],_ :: _,_,_,_=>False
 | (i,cs) :: r,p :: pn,ks,st,K=>match ops[i]? with
  | none=>False
  | some o=>match readV o with
   | true=>match opR P st o with
    | some (q,some v,_)=>q /\ regE P ops r (p :: pn) (i :: ks) (st.putO o.dst (some v)) K
    | _=>False
   | false=>match numB i (p :: pn) with
    | some m=>match earlyOf P o.op with
      | some (t,ds)=>∀ f,chk P ops ks (setB st (nopF f) (p :: pn)) /\ chk P ops cs (((setB st (nopF f) (p :: pn)).setObj m t).putO o.dst (some (ds m))) /\
        regE P ops r (dropB i (p :: pn)) ks (((setB st (nopF f) (p :: pn)).setObj m t).putO o.dst (some (ds m))) K
      | none=>False
    | none=>∀ f,chk P ops ks (setB st (nopF f) (p :: pn)) /\ opQ P (setB st (nopF f) (p :: pn)) o fun v s=>keepB s (nopF f) (p :: pn) /\ chk P ops cs (s.putO o.dst v) /\ regE P ops r (p :: pn) ks (s.putO o.dst v) K

section
variable {P:Program} {B:Base} {N:Nat} {st st':St} {β:Nat -> Info} {φ:Nat -> List Nat} {a a':Act} {w w':World}

theorem setB_env (f:Nat -> AObj):∀ pn:List (Nat × Nat),(setB st f pn).env=st.env
 | []=>rfl
 | (_,m) :: r=>setB_env f r
theorem setB_next (f:Nat -> AObj):∀ pn:List (Nat × Nat),(setB st f pn).next=st.next
 | []=>rfl
 | (_,m) :: r=>setB_next f r
theorem setB_obj (f:Nat -> AObj) (k:Nat):∀ pn:List (Nat × Nat),(setB st f pn).obj k=if k ∈ pn.map (·.2) then f k else st.obj k
 | []=>by simp [setB]
 | (j,m) :: r=>by
  by_cases e:k=m
  ·subst e
   show ((setB st f r).setObj k (f k)).obj k=_
   rw [St.obj_setObj_same,if_pos]
   exact List.mem_cons_self ..
  ·show ((setB st f r).setObj m (f m)).obj k=_
   rw [St.obj_setObj_ne _ _ e,setB_obj f k r,List.map_cons]
   simp only [List.mem_cons,e,false_or]
theorem keepB_mem {f:Nat -> AObj}:∀ {pn:List (Nat × Nat)},keepB st f pn -> ∀ x ∈ pn,st.obj x.2=f x.2
 | _ :: _,h,x,hx=>by
  rcases List.mem_cons.1 hx with e | hx
  ·subst e;exact h.1
  ·exact keepB_mem h.2 x hx
theorem SR.setB (h:SR B N st β φ a w) {f:Nat -> AObj} {pn:List (Nat × Nat)} (hk:∀ x ∈ pn,st.obj x.2=f x.2):SR B N (setB st f pn) β φ a w :=
 h.alike (setB_env f pn) (setB_next f pn) fun k=>by
  rw [setB_obj]
  split
  ·rename_i hm
   obtain ⟨x,hx,rfl⟩:=List.mem_map.1 hm
   exact (hk x hx).symm
  ·rfl
theorem numB_mem {i m:Nat}:∀ {pn:List (Nat × Nat)},numB i pn=some m -> (i,m) ∈ pn
 | (j,n) :: r,h=>by
  unfold numB at h
  split at h
  ·rename_i e
   cases h
   rw [of_decide_eq_true e]
   exact List.mem_cons_self ..
  ·exact List.mem_cons_of_mem _ (numB_mem h)
theorem numB_none {i:Nat}:∀ {pn:List (Nat × Nat)},numB i pn=none -> ∀ x ∈ pn,x.1 ≠ i
 | (j,n) :: r,h,x,hx=>by
  unfold numB at h
  split at h
  ·cases h
  ·rename_i e
   rcases List.mem_cons.1 hx with h1 | hx
   ·subst h1;exact fun e'=>(of_decide_eq_false e) e'.symm
   ·exact numB_none h x hx
theorem dropB_mem {i:Nat}:∀ {pn:List (Nat × Nat)},(pn.map (·.1)).Nodup -> ∀ x,x ∈ dropB i pn ↔ x ∈ pn /\ x.1 ≠ i
 | [],_,x=>by simp [dropB]
 | (j,n) :: r,hn,x=>by
  simp only [List.map_cons,List.nodup_cons] at hn
  unfold dropB
  split
  ·rename_i e
   have:=of_decide_eq_true e
   subst this
   constructor
   ·intro hx
    exact ⟨List.mem_cons_of_mem _ hx,fun e=>hn.1 (List.mem_map.2 ⟨x,hx,e⟩)⟩
   ·rintro ⟨hx,hne⟩
    rcases List.mem_cons.1 hx with h1 | h1
    ·subst h1;exact absurd rfl hne
    ·exact h1
  ·rename_i e
   have e:=of_decide_eq_false e
   rw [List.mem_cons,dropB_mem hn.2 x,List.mem_cons]
   constructor
   ·rintro (h1 | ⟨h1,h2⟩)
    ·subst h1;exact ⟨.inl rfl,fun h=>e h.symm⟩
    ·exact ⟨.inr h1,h2⟩
   ·rintro ⟨h1 | h1,h2⟩
    ·exact .inl h1
    ·exact .inr ⟨h1,h2⟩

theorem SR.earlyBox (h:SR B N st β φ a w) {m:Nat} {ls:List Leaf} {vs:Array Value} {T:TypeId} (hm:m < st.next) (hB:B.n <= m) (hh:st.obj m=.hole) (hl:Leaves (st.ctx w β φ) ls vs.toList) :
  ∃ β' φ',(st.ctx w β φ).Le ((st.setObj m (.box ls)).ctx (w.alloc (.cells vs T)) β' φ') /\ SR B N (st.setObj m (.box ls)) β' φ' a (w.alloc (.cells vs T)) /\
   AVRel ((st.setObj m (.box ls)).ctx (w.alloc (.cells vs T)) β' φ') (.one (.ptr (.own m 0 0))) (.pointer (some ⟨w.heap.size,0,none⟩)):=by
 have hb:∀ b ∈ [w.heap.size],b < (w.alloc (.cells vs T)).heap.size /\ w.heap.size <= b:=by simp
 obtain ⟨le,sr⟩:=h.bring (w':=w.alloc (.cells vs T)) (.box ls) ⟨some ⟨w.heap.size,0,none⟩,0⟩ [w.heap.size] hm hB hh ((Frm.refl w _).alloc _) hb (by simp) (fun le=>by
  unfold ObjRel
  rw [show (((st.setObj m (.box ls)).ctx (w.alloc (.cells vs T)) (upd β m ⟨some ⟨w.heap.size,0,none⟩,0⟩) (upd φ m [w.heap.size])).ob m)=.box ls from St.obj_setObj_same st _ _]
  exact ⟨w.heap.size,T,vs,by show (upd β m _ m).base=_;rw [upd_same],upd_same ..,heap_alloc_new ..,hl.mono le⟩)
 refine ⟨_,_,le,sr,⟨hm,?_⟩⟩
 rw [show (((st.setObj m (.box ls)).ctx (w.alloc (.cells vs T)) (upd β m ⟨some ⟨w.heap.size,0,none⟩,0⟩) (upd φ m [w.heap.size])).ob m)=.box ls from St.obj_setObj_same st _ _]
 exact ⟨w.heap.size,by show (upd β m _ m).base=_;rw [upd_same],rfl⟩
theorem Near.putL {D:Nat -> Prop} (h:Near D a a') (d:Tmp) (x:Value) (hd:D d):Near D (a.put (some d) x) a':=by
 obtain ⟨h1,h2,h3⟩:=h
 refine ⟨by simp [Act.put,h1],h2,fun t ht=>?_⟩
 have hne:t ≠ d:=fun e=>ht (e ▸ hd)
 rw [<- h3 t ht]
 show (a.tmps.setIfInBounds d x)[t]?=_
 rw [Array.getElem?_setIfInBounds_ne (Ne.symm hne)]
theorem Near.catch {D D':Nat -> Prop} (h:Near D a a') (d:Tmp) (x:Value) (hx:a.tmps[d]?=some x) (hd:∀ t,D t -> t=d \/ D' t):Near D' a (a'.put (some d) x):=by
 obtain ⟨h1,h2,h3⟩:=h
 refine ⟨by simp [Act.put,h1],h2,fun t ht=>?_⟩
 show _=(a'.tmps.setIfInBounds d x)[t]?
 by_cases e:t=d
 ·subst e
  have hlt:t < a'.tmps.size:=by
   rw [<- h1]
   exact (Array.getElem?_eq_some_iff.1 hx).1
  rw [Array.getElem?_setIfInBounds_self,hx]
  simp [hlt]
 ·rw [Array.getElem?_setIfInBounds_ne (Ne.symm e)]
  exact h3 t fun hdt=>(hd t hdt).elim e ht
theorem allocAtLe (h:SR B N st β φ a w) {t:TypeId} {ds:List D} (hz:tz P t=some ds) {m:Nat} (hm:m < st.next) (hB:B.n <= m) (hh:st.obj m=.hole) {o:Oper} (eo:o.op=.alloc t) :
  ∃ β' φ' w' z,(st.ctx w β φ).Le ((st.setObj m (.box (ds.map zleaf))).ctx w' β' φ') /\ SR B N (st.setObj m (.box (ds.map zleaf))) β' φ' a w' /\ (∀ e,(execOp e o).run P w=.ok (.value z) w') /\ AVRel ((st.setObj m (.box (ds.map zleaf))).ctx w' β' φ') (.one (.ptr (.own m 0 0))) z:=by
 obtain ⟨i,v,hi,hv,_,hsz,hr⟩:=tz_spec (w:=w) hz
 obtain ⟨β',φ',le,sr,hp⟩:=h.earlyBox (vs:=v.cells) (T:=t) hm hB hh (zleaves (C:=st.ctx w β φ) hr)
 have hrun:(Instr.alloc t true (.tuple #[])).run P w=.ok (.pointer (some ⟨w.heap.size,0,none⟩)) (w.alloc (.cells v.cells t)):=by simp [Instr.alloc,zeroValue,typeInfo,hi,hv,newVar,newRow]
 refine ⟨β',φ',_,_,le,sr,fun e=>?_,hp⟩
 unfold execOp
 simp only [eo]
 simp [hrun]
theorem makeAtLe (h:SR B N st β φ a w) {t e:TypeId} {s y:Nat} {zs:List D} {k k':IntKind} {l:Int} (ht:te P t=some (e,s,y)) (hz:tz P e=some zs) (h0:0 <= l) (hby:(y:Int) * l <= 281474976710656) (h63:l <= 9223372036854775807) (hzl:zs.length=s)
  {id:Nat} (hid:id < st.next) (hB:B.n <= id) (hh:st.obj id=.hole) :
  ∃ β' φ' w' z,(st.ctx w β φ).Le ((st.setObj id (.vec s true (List.replicate l.toNat zs))).ctx w' β' φ') /\ SR B N (st.setObj id (.vec s true (List.replicate l.toNat zs))) β' φ' a w' /\ (Instr.makeSlice t (.int k l) (.int k' l)).run P w=.ok z w' /\ AVRel ((st.setObj id (.vec s true (List.replicate l.toNat zs))).ctx w' β' φ') (.one (.own id)) z:=by
 obtain ⟨hte,i,hi,hsz,hyy⟩:=te_spec ht
 obtain ⟨i',z,hi',hzv,hrz,hzs,hzz⟩:=tz_spec (w:=w) hz
 rw [hi] at hi'
 cases hi'
 have hrun:=run_make (P:=P) w t e i z hte hi hzv k k' l l h0 (Int.le_refl _) (by rw [hyy];exact hby) h63
 have hzs':z.cells.size=s:=by omega
 have hcells:madeCells z.cells (l.toNat * i.size)=madeCells z.cells (l.toNat * z.cells.size):=by rw [hzs]
 have hlist:(madeCells z.cells (l.toNat * i.size)).toList=(List.replicate l.toNat z.cells.toList).flatten:=by rw [hcells,replicate_range]
 have hsize:(madeCells z.cells (l.toNat * i.size)).size=l.toNat * s:=by rw [size_madeCells,hsz]
 have hz0:RepL (w.alloc (.cells (madeCells z.cells (l.toNat * i.size)) e)) zs z.cells.toList []:=hrz.frm (by simp) (by simp)
 have hrl:RepL (w.alloc (.cells (madeCells z.cells (l.toNat * i.size)) e)) (List.replicate l.toNat zs).flatten ((madeCells z.cells (l.toNat * i.size)).toList.take ((List.replicate l.toNat zs).length * s)) []:=by
  rw [List.length_replicate,List.take_of_length_le (by rw [Array.length_toList,hsize];omega),hlist];exact repL_replicate hz0 _
 have hol:OwnL (w.alloc (.cells (madeCells z.cells (l.toNat * i.size)) e)) (List.replicate l.toNat zs).flatten ((madeCells z.cells (l.toNat * i.size)).toList.take ((List.replicate l.toNat zs).length * s)) []:=by
  rw [List.length_replicate,List.take_of_length_le (by rw [Array.length_toList,hsize];omega),hlist];exact (OwnL.of_zero hzz).replicate _
 generalize madeCells z.cells (l.toNat * i.size)=cs at *
 have hb:∀ b ∈ [w.heap.size],b < (w.alloc (.cells cs e)).heap.size /\ w.heap.size <= b:=by simp
 have hob:(st.setObj id (.vec s true (List.replicate l.toNat zs))).obj id=.vec s true (List.replicate l.toNat zs):=St.obj_setObj_same st _ _
 obtain ⟨le,sr⟩:=h.bring (w':=w.alloc (.cells cs e)) (.vec s true (List.replicate l.toNat zs)) ⟨some ⟨w.heap.size,0,none⟩,l.toNat⟩ [w.heap.size] hid hB hh ((Frm.refl w _).alloc _) hb (by simp) (fun le=>by
  unfold ObjRel
  rw [show ((st.setObj id (.vec s true (List.replicate l.toNat zs))).ctx (w.alloc (.cells cs e)) (upd β id ⟨some ⟨w.heap.size,0,none⟩,l.toNat⟩) (upd φ id [w.heap.size])).ob id=_ from hob]
  refine ⟨fun r hr=>by rw [List.eq_of_mem_replicate hr];exact hzl,by show (List.replicate l.toNat zs).length <= (upd β id _ id).cap;rw [upd_same];simp,.inr ⟨w.heap.size,e,[],[],cs,by show (upd β id _ id).base=_;rw [upd_same],heap_alloc_new ..,?_,hrl,upd_same ..,?_⟩⟩
  ·show Room _ cs _ ((upd β id _ id).cap * s)
   rw [upd_same]
   exact ⟨hsize,[],by rw [List.length_replicate,List.drop_of_length_le (by rw [Array.length_toList,hsize];omega)];exact .nil⟩
  ·simp only [if_true]
   exact ⟨List.nodup_nil,by simp,hol⟩)
 refine ⟨_,_,w.alloc (.cells cs e),_,le,sr,hrun,⟨hid,?_⟩⟩
 rw [show ((st.setObj id (.vec s true (List.replicate l.toNat zs))).ctx (w.alloc (.cells cs e)) (upd β id ⟨some ⟨w.heap.size,0,none⟩,l.toNat⟩) (upd φ id [w.heap.size])).ob id=_ from hob]
 show Value.slice _ _ _=Value.slice (upd β id _ id).base _ (upd β id _ id).cap
 rw [upd_same,List.length_replicate]
theorem constP_eval {a e:Act}:∀ {ps:List (Nat × Operand)},constP ps=true -> ps.map (fun (i,x)=>(i,e.eval x))=ps.map (fun (i,x)=>(i,a.eval x))
 | [],_=>rfl
 | (i,x) :: ps,h=>by
  cases x with
  | const v =>
   rw [List.map_cons,List.map_cons,constP_eval (ps:=ps) h]
   rfl
  | _=>cases h
theorem constP_opA {s1 s2:St}:∀ {ps:List (Nat × Operand)},constP ps=true -> ∀ p ∈ ps,opA s1 p.2=opA s2 p.2
 | [],_,p,hp=>by cases hp
 | (i,x) :: ps,h,p,hp=>by
  cases x with
  | const v =>
   rcases List.mem_cons.1 hp with rfl | hp
   ·rfl
   ·exact constP_opA (ps:=ps) h p hp
  | _=>cases h
theorem constP_q {s:St}:∀ {ps:List (Nat × Operand)} {q:Prop} {rs:List (Nat × List Leaf)},constP ps=true -> evP s ps=some (q,rs) -> q
 | [],q,rs,_,h=>by cases h;trivial
 | (i,x) :: ps,q,rs,hc,h=>by
  cases x with
  | const v =>
   unfold evP at h
   cases e:constAV v with
   | none=>simp [opA,e] at h
   | some u =>
    simp only [opA,e,Option.map_some] at h
    split at h
    ·rename_i ls q2 ps2 h1 h2
     cases h
     exact ⟨trivial,constP_q (ps:=ps) hc h2⟩
    ·cases h
  | _=>cases hc
theorem litAtLe (h:SR B N st β φ a w) {t:TypeId} {len:Nat} {ps:List (Nat × Operand)} {x:AObj} {ds:Nat -> AV} (hz:earlyLit P t len ps=some (x,ds)) (hc:constP ps=true)
  {id:Nat} (hid:id < st.next) (hB:B.n <= id) (hh:st.obj id=.hole) :
  ∃ β' φ' w' z,(st.ctx w β φ).Le ((st.setObj id x).ctx w' β' φ') /\ SR B N (st.setObj id x) β' φ' a w' /\ (∀ e:Act,(Instr.buildSlice t len ((ps.map fun (i,x)=>(i,e.eval x)).toArray)).run P w=.ok z w') /\ AVRel ((st.setObj id x).ctx w' β' φ') (ds id) z:=by
 unfold earlyLit at hz
 split at hz
 ·rename_i e s y q ps' ht ep
  split at hz
  ·rename_i zs hzz
   split at hz
   ·rename_i ls ef
    split at hz
    ·rename_i dl hfd
     split at hz
     ·rename_i hcd
      obtain ⟨hdl,hzl,hle⟩:=hcd
      cases hz
      have ep':evP st (ps.toArray).toList=some (q,ps'):=by
       rw [<- ep]
       exact evP_same (constP_opA (by simpa using hc))
      obtain ⟨cells,f1,f2⟩:=lit_run (P:=P) h ht ep' (constP_q hc ep) hzz ef hzl hle
      have hr0:RepL w dl cells.toList []:=flatDs_rep hfd f2
      have hcl:cells.size=len * s:=by have:=hr0.length;rw [Array.length_toList] at this;omega
      have hr:RepL (w.alloc (.cells cells e)) dl cells.toList []:=hr0.frm (by simp) (by simp)
      have hrl:RepL (w.alloc (.cells cells e)) (chunks s len dl).flatten (cells.toList.take ((chunks s len dl).length * s)) []:=by
       rw [chunks_length,chunks_flatten _ len dl hdl,List.take_of_length_le (by rw [Array.length_toList,hcl];omega)];exact hr
      have hb:∀ b ∈ [w.heap.size],b < (w.alloc (.cells cells e)).heap.size /\ w.heap.size <= b:=by simp
      have hob:(st.setObj id (.vec s true (chunks s len dl))).obj id=.vec s true (chunks s len dl):=St.obj_setObj_same st _ _
      obtain ⟨le,sr⟩:=h.bring (w':=w.alloc (.cells cells e)) (.vec s true (chunks s len dl)) ⟨some ⟨w.heap.size,0,none⟩,len⟩ [w.heap.size] hid hB hh ((Frm.refl w _).alloc _) hb (by simp) (fun le=>by
       unfold ObjRel
       rw [show ((st.setObj id (.vec s true (chunks s len dl))).ctx (w.alloc (.cells cells e)) (upd β id ⟨some ⟨w.heap.size,0,none⟩,len⟩) (upd φ id [w.heap.size])).ob id=_ from hob]
       refine ⟨chunks_mem _ len dl hdl,by show (chunks s len dl).length <= (upd β id _ id).cap;rw [upd_same,chunks_length];exact Nat.le_refl _,.inr ⟨w.heap.size,e,[],[],cells,by show (upd β id _ id).base=_;rw [upd_same],heap_alloc_new ..,?_,hrl,upd_same ..,?_⟩⟩
       ·show Room _ cells _ ((upd β id _ id).cap * s)
        rw [upd_same]
        exact ⟨hcl,[],by rw [chunks_length,List.drop_of_length_le (by rw [Array.length_toList,hcl];omega)];exact .nil⟩
       ·simp only [if_true]
        exact ⟨List.nodup_nil,by simp,OwnL.of_flat hrl (by rw [chunks_flatten _ len dl hdl];exact flatDs_flat hfd)⟩)
      refine ⟨_,_,w.alloc (.cells cells e),.slice (some ⟨w.heap.size,0,none⟩) len len,le,sr,fun a'=>?_,⟨hid,?_⟩⟩
      ·rw [constP_eval (a:=a) hc,<- f1]
       simp
      ·rw [show ((st.setObj id (.vec s true (chunks s len dl))).ctx (w.alloc (.cells cells e)) (upd β id ⟨some ⟨w.heap.size,0,none⟩,len⟩) (upd φ id [w.heap.size])).ob id=_ from hob]
       show Value.slice _ _ _=Value.slice (upd β id _ id).base _ (upd β id _ id).cap
       rw [upd_same,chunks_length]
     ·cases hz
    ·cases hz
   ·cases hz
  ·cases hz
 ·cases hz
theorem earlyAt (h:SR B N st β φ a w) {o:Oper} {t:AObj} {ds:Nat -> AV} (hz:earlyOf P o.op=some (t,ds)) {m:Nat} (hm:m < st.next) (hB:B.n <= m) (hh:st.obj m=.hole) :
  ∃ β' φ' w' z,(st.ctx w β φ).Le ((st.setObj m t).ctx w' β' φ') /\ SR B N (st.setObj m t) β' φ' a w' /\ (∀ e:Act,(execOp e.eval o).run P w=.ok (.value z) w') /\ AVRel ((st.setObj m t).ctx w' β' φ') (ds m) z:=by
 unfold earlyOf at hz
 split at hz
 ·rename_i t' eo
  split at hz
  ·rename_i ds' hz'
   cases hz
   obtain ⟨β',φ',w',z,le,sr,hrun,hr⟩:=allocAtLe (P:=P) h hz' hm hB hh eo
   exact ⟨β',φ',w',z,le,sr,fun e=>hrun e.eval,hr⟩
  ·cases hz
 ·rename_i t' k l k' c eo
  split at hz
  ·rename_i e s y ht
   split at hz
   ·rename_i zs hze
    split at hz
    ·rename_i hc
     obtain ⟨rfl,h0,hby,h63,hzl⟩:=hc
     cases hz
     obtain ⟨β',φ',w',z,le,sr,hrun,hr⟩:=makeAtLe (P:=P) (k:=k) (k':=k') h ht hze h0 hby h63 hzl hm hB hh
     refine ⟨β',φ',w',z,le,sr,fun e=>?_,hr⟩
     unfold execOp
     simp only [eo]
     simp [Act.eval,hrun]
    ·cases hz
   ·cases hz
  ·cases hz
 ·rename_i t' len p ps eo
  split at hz
  ·rename_i hc
   obtain ⟨β',φ',w',z,le,sr,hrun,hr⟩:=litAtLe (P:=P) h hz hc hm hB hh
   refine ⟨β',φ',w',z,le,sr,fun e=>?_,hr⟩
   unfold execOp
   simp only [eo]
   have h1:=hrun e
   simp only [List.map_cons] at h1
   simp [h1]
  ·cases hz
 ·cases hz
theorem alike_ctx (h2:st'.next=st.next) (h3:∀ k,st'.obj k=st.obj k):st'.ctx w β φ=st.ctx w β φ:=by
 unfold St.ctx
 rw [h2,show st'.obj=st.obj from funext h3]
theorem setB_ctx {f:Nat -> AObj} {pn:List (Nat × Nat)} (hk:∀ x ∈ pn,st.obj x.2=f x.2):(setB st f pn).ctx w β φ=st.ctx w β φ :=
 alike_ctx (setB_next f pn) fun k=>by
  rw [setB_obj]
  split
  ·rename_i hm
   obtain ⟨x,hx,rfl⟩:=List.mem_map.1 hm
   exact (hk x hx).symm
  ·rfl
structure Pn (P:Program) (ops:Array Oper) (listed:Array Bool) (B:Base) (S:St) (β:Nat -> Info) (φ:Nat -> List Nat) (a:Act) (w:World) (f:Nat -> AObj) (pn:List (Nat × Nat)):Prop where
 nf:nopF f=f
 nd1:(pn.map (·.1)).Nodup
 nd2:(pn.map (·.2)).Nodup
 all:∀ x ∈ pn,x.2 < S.next /\ B.n <= x.2 /\ S.obj x.2=f x.2 /\ ∃ o t ds d,ops[x.1]?=some o /\ earlyV o.op=true /\ earlyOf P o.op=some (t,ds) /\ o.dst=some d /\
  ((listed.getD x.1 true=false /\ f x.2=.hole) \/ (listed.getD x.1 true=true /\ f x.2=t /\ ∃ z,a.tmps[d]?=some z /\ AVRel (S.ctx w β φ) (ds x.2) z))
theorem Pn.toB {ops:Array Oper} {listed:Array Bool} {s:St} {f:Nat -> AObj} {pn:List (Nat × Nat)} (h:Pn P ops listed B s β φ a w f pn):Pn P ops listed B (setB s f pn) β φ a w f pn:=by
 have hk:∀ x ∈ pn,s.obj x.2=f x.2:=fun x hx=>(h.all x hx).2.2.1
 refine ⟨h.nf,h.nd1,h.nd2,fun x hx=>?_⟩
 rw [setB_ctx hk,setB_next,setB_obj,if_pos (List.mem_map_of_mem hx)]
 obtain ⟨g1,g2,g3,g4⟩:=h.all x hx
 exact ⟨g1,g2,rfl,g4⟩
def DD (ops:Array Oper) (listed:Array Bool) (pre:List (Nat × List Nat)) (pn:List (Nat × Nat)) (t:Nat):Prop :=
 (∃ x ∈ pre,listed.getD x.1 true=false /\ ∃ o,ops[x.1]?=some o /\ o.dst=some t) \/ ∃ x ∈ pn,listed.getD x.1 true=true /\ ∃ o,ops[x.1]?=some o /\ o.dst=some t
theorem alloc_no_read {o:Oper} (eo:earlyV o.op=true):readV o=false:=by
 unfold earlyV at eo
 split at eo
 ·rename_i e;unfold readV;rw [e];simp [lit0]
 ·rename_i e;unfold readV;rw [e];simp [lit0]
 ·rename_i e;unfold readV;rw [e];simp [lit0]
 ·cases eo
theorem alloc_no_operand {o:Oper} (eo:earlyV o.op=true):∀ y,Operand.tmp y ∉ o.op.operands:=by
 intro y
 unfold earlyV at eo
 split at eo
 ·rename_i e;rw [e];simp [Op.operands]
 ·rename_i e;rw [e];simp [Op.operands]
 ·rename_i e
  rw [e]
  simp only [Op.operands]
  intro hm
  obtain ⟨p,hp,he⟩:=List.mem_map.1 (List.mem_toArray.1 hm)
  have key:∀ {ps:List (Nat × Operand)},constP ps=true -> ∀ p ∈ ps,∀ y,p.2 ≠ .tmp y:=fun {ps}=>by
   induction ps with
   | nil=>intro _ p hp;cases hp
   | cons z ps ih =>
    obtain ⟨i,x⟩:=z
    intro hc p hp y
    cases x with
    | const v =>
     rcases List.mem_cons.1 hp with rfl | hp
     ·intro e;cases e
     ·exact ih hc p hp y
    | _=>cases hc
  exact key eo p hp y he
 ·cases eo
theorem eq_of_nodup_fst {i m n:Nat}:∀ {pn:List (Nat × Nat)},(pn.map (·.1)).Nodup -> (i,n) ∈ pn -> (i,m) ∈ pn -> n=m
 | x :: r,hn,h1,h2=>by
  simp only [List.map_cons,List.nodup_cons] at hn
  rcases List.mem_cons.1 h1 with e1 | h1 <;> rcases List.mem_cons.1 h2 with e2 | h2
  ·rw [<- e1] at e2;cases e2;rfl
  ·exact absurd (List.mem_map.2 ⟨_,h2,by rw [<- e1]⟩) hn.1
  ·exact absurd (List.mem_map.2 ⟨_,h1,by rw [<- e2]⟩) hn.1
  ·exact eq_of_nodup_fst hn.2 h1 h2
theorem eq_of_nodup_snd:∀ {pn:List (Nat × Nat)} {x y:Nat × Nat},(pn.map (·.2)).Nodup -> x ∈ pn -> y ∈ pn -> x.2=y.2 -> x=y
 | z :: r,x,y,hn,h1,h2,e=>by
  simp only [List.map_cons,List.nodup_cons] at hn
  rcases List.mem_cons.1 h1 with e1 | h1 <;> rcases List.mem_cons.1 h2 with e2 | h2
  ·rw [e1,e2]
  ·exact absurd (List.mem_map.2 ⟨_,h2,by rw [<- e1,e]⟩) hn.1
  ·exact absurd (List.mem_map.2 ⟨_,h1,by rw [<- e2,<- e]⟩) hn.1
  ·exact eq_of_nodup_snd hn.2 h1 h2 e
theorem Pn.draw {ops:Array Oper} {listed:Array Bool} {s:St} {f:Nat -> AObj} {pn:List (Nat × Nat)} (hok:drawOk ops N=true) (hsz:listed.size=ops.size) (h:SR B N (setB s f pn) β φ a' w) (hp:Pn P ops listed B (setB s f pn) β φ a w f pn) {i m:Nat} (hm:(i,m) ∈ pn) (hun:listed.getD i true=false) {o:Oper} (ho:ops[i]?=some o) (hat:a.tmps.size=N) :
  ∃ β' φ' w' z d f',o.dst=some d /\ SR B N (setB s f' pn) β' φ' a' w' /\ (execOp a.eval o).run P w=.ok (.value z) w' /\
   Pn P ops (listed.setIfInBounds i true) B (setB s f' pn) β' φ' (a.put (some d) z) w' f' pn:=by
 obtain ⟨hs1,hs2⟩:=drawOk_spec hok
 obtain ⟨hlt,hB,hob,o',t,ds,d,ho',eo,hz,hd,hcase⟩:=hp.all _ hm
 rw [ho] at ho'
 cases ho'
 have hhole:f m=.hole:=by
  rcases hcase with h1 | h1
  ·exact h1.2
  ·rw [hun] at h1;cases h1.1
 have hdN:d < N:=(hs1 i o ho).1.1 d hd
 obtain ⟨β',φ',w',z,le,sr,hrun,hv⟩:=earlyAt (P:=P) h hz hlt hB (hob.trans hhole)
 have hmm:m ∈ pn.map (·.2):=List.mem_map_of_mem hm
 have hobj:∀ k,(setB s (upd f m t) pn).obj k=((setB s f pn).setObj m t).obj k:=fun k=>by
  rw [setB_obj]
  by_cases e:k=m
  ·subst e
   rw [St.obj_setObj_same,if_pos hmm,upd_same]
  ·rw [St.obj_setObj_ne _ _ e,setB_obj,upd_ne _ _ e]
 have hnext:(setB s (upd f m t) pn).next=((setB s f pn).setObj m t).next:=by
  rw [setB_next]
  show _=(setB s f pn).next
  rw [setB_next]
 have henv:(setB s (upd f m t) pn).env=((setB s f pn).setObj m t).env:=by
  rw [setB_env]
  show _=(setB s f pn).env
  rw [setB_env]
 have hin:i < ops.size:=(Array.getElem?_eq_some_iff.1 ho).1
 refine ⟨β',φ',w',z,d,upd f m t,hd,sr.alike henv hnext hobj,hrun _,?_,hp.nd1,hp.nd2,fun x hx=>?_⟩
 ·funext k
  show nop (upd f m t k)=upd f m t k
  by_cases e:k=m
  ·subst e;rw [upd_same];exact earlyOf_nop hz
  ·rw [upd_ne _ _ e];exact congrFun hp.nf k
 rw [alike_ctx (β:=β') (φ:=φ') (w:=w') hnext hobj,hnext]
 obtain ⟨hlt1,hB1,hob1,ox,tx,dsx,dx,hox,eox,hzx,hdx,hcx⟩:=hp.all x hx
 refine ⟨hlt1,hB1,?_,ox,tx,dsx,dx,hox,eox,hzx,hdx,?_⟩
 ·rw [hobj]
  by_cases e:x.2=m
  ·rw [e,St.obj_setObj_same,upd_same]
  ·rw [St.obj_setObj_ne _ _ e,upd_ne _ _ e];exact hob1
 by_cases e:x.1=i
 ·have hxm:x=(i,m):=by
   obtain ⟨x1,x2⟩:=x
   have e:x1=i:=e
   subst e
   have:=eq_of_nodup_fst hp.nd1 hx hm
   rw [this]
  subst hxm
  rw [ho] at hox
  cases hox
  rw [eo] at eox
  cases eox
  rw [hz] at hzx
  cases hzx
  rw [hd] at hdx
  cases hdx
  refine .inr ⟨?_,upd_same ..,z,?_,hv⟩
  ·rw [Array.getD_eq_getD_getElem?,Array.getElem?_setIfInBounds_self]
   simp [hsz,hin]
  ·show (a.tmps.setIfInBounds d z)[d]?=some z
   rw [Array.getElem?_setIfInBounds_self]
   simp [hat,hdN]
 ·have hx2:x.2 ≠ m:=fun e2=>e (by
   have:=eq_of_nodup_snd hp.nd2 hx hm e2
   rw [this])
  rw [getD_set_ne true (Ne.symm e),upd_ne _ _ hx2]
  rcases hcx with h1 | ⟨h1,h2,zx,h3,h4⟩
  ·exact .inl h1
  ·refine .inr ⟨h1,h2,zx,?_,h4.mono le⟩
   have hdd:dx ≠ d:=fun e2=>e (uniq_of hok hox ho hdx (by rw [hdx,hd,e2]))
   show (a.tmps.setIfInBounds d z)[dx]?=some zx
   rw [Array.getElem?_setIfInBounds_ne (Ne.symm hdd)]
   exact h3
theorem dropB_sub (i:Nat):∀ pn:List (Nat × Nat),(dropB i pn).Sublist pn
 | []=>.slnil
 | (j,n) :: r=>by
  unfold dropB
  split
  ·exact List.sublist_cons_self ..
  ·exact (dropB_sub i r).cons_cons _
theorem early_adv {ops:Array Oper} {K:St -> Prop} (hok:drawOk ops N=true) {pi:List (Nat × List Nat)} (hnd:(pi.map (·.1)).Nodup) (hlin:linOk ops [] pi=true) (hsix:sixOk ops [] pi=true) (hssa:ssaOk ops=true) {listed:Array Bool}
  (hcl:∀ (j:Nat) (o:Oper),ops[j]?=some o -> listed.getD j true=true -> ∀ e ∈ o.after,Region.binds .any e=true -> listed.getD e.on true=true) {c:Act} {f:Nat -> AObj} :
  ∀ (r pre:List (Nat × List Nat)) (pn:List (Nat × Nat)) (ks:List Nat),pi=pre ++ r -> (∀ x ∈ r,listed.getD x.1 true=false \/ x.1 ∈ pn.map (·.1)) -> (∀ x ∈ pre,∀ o,ops[x.1]?=some o -> readV o=false -> listed.getD x.1 true=true) ->
   ∀ {s:St} {β:Nat -> Info} {φ:Nat -> List Nat} {b:Act} {w:World},SR B N s β φ b w -> Near (DD ops listed pre pn) c b ->
   (∀ x ∈ pre,listed.getD x.1 true=false -> keptV P s (ops[x.1]?)) -> Pn P ops listed B s β φ c w f pn -> (pn ≠ [] -> ∀ x ∈ pre,∀ o,ops[x.1]?=some o -> readV o=true -> x.1 ∈ ks) -> (∀ x ∈ pn,x.1 ∈ r.map (·.1)) -> regE P ops r pn ks s K ->
   ∃ (r2 pre2:List (Nat × List Nat)) (pn2:List (Nat × Nat)) (ks2:List Nat),pi=pre2 ++ r2 /\ (∀ x ∈ r2,listed.getD x.1 true=false \/ x.1 ∈ pn2.map (·.1)) /\ (∀ x ∈ pre2,∀ o,ops[x.1]?=some o -> readV o=false -> listed.getD x.1 true=true) /\
    (∀ x r3,r2=x :: r3 -> (∀ o,ops[x.1]?=some o -> readV o=false) /\ listed.getD x.1 true=false) /\ ((∀ i ∈ pn.map (·.1),i ∈ pn2.map (·.1) \/ listed.getD i true=true) /\ ∀ x ∈ pn2,x ∈ pn) /\
    ∃ s2 b2,SR B N s2 β φ b2 w /\ Near (DD ops listed pre2 pn2) c b2 /\ (∀ x ∈ pre2,listed.getD x.1 true=false -> keptV P s2 (ops[x.1]?)) /\ Pn P ops listed B s2 β φ c w f pn2 /\ (pn2 ≠ [] -> ∀ x ∈ pre2,∀ o,ops[x.1]?=some o -> readV o=true -> x.1 ∈ ks2) /\
     (∀ x ∈ pn2,x.1 ∈ r2.map (·.1)) /\ regE P ops r2 pn2 ks2 s2 K
 | r,pre,[],ks,hp,hr,hpre,s,β,φ,b,w,sr,hn,hk,hpn,hks,hc,hq=>by
  have hr':∀ x ∈ r,listed.getD x.1 true=false:=fun x hx=>(hr x hx).elim id fun h=>by simp at h
  obtain ⟨r2,pre2,h1,h2,h3,h4,s2,b2,h5,h6,h7,h8⟩:=float_adv (P:=P) (listed:=listed) (c:=c) hok hnd hlin hssa r pre hp hr' hpre sr (hn.mono fun t h=>h.elim id fun ⟨x,hx,_⟩=>by cases hx) hk (by cases r <;> simpa only [regE] using hq)
  refine ⟨r2,pre2,[],[],h1,fun x hx=>.inl (h2 x hx),h3,fun x r3 e=>⟨h4 x r3 e,h2 x (by rw [e];exact List.mem_cons_self ..)⟩,⟨fun i hi=>by simp at hi,fun x hx=>by cases hx⟩,s2,b2,h5,h6.mono fun t h=>.inl h,h7,⟨hpn.nf,by simp,by simp,fun x hx=>by cases hx⟩,fun h=>absurd rfl h,fun x hx=>(by cases hx),?_⟩
  cases r2 <;> simpa only [regE] using h8
 | [],pre,p :: pn,ks,hp,hr,hpre,s,β,φ,b,w,sr,hn,hk,hpn,hks,hc,hq=>by simp only [regE] at hq
 | (i,cs) :: r,pre,p :: pn,ks,hp,hr,hpre,s,β,φ,b,w,sr,hn,hk,hpn,hks,hc,hq=>by
  obtain ⟨hs1,hs2⟩:=drawOk_spec hok
  obtain ⟨n1,n2,n3⟩:=float_nodup hnd hp
  cases ho:ops[i]? with
  | none=>simp only [regE,ho] at hq
  | some o =>
   cases hrv:readV o with
   | true =>
    have hiu:listed.getD i true=false:=(hr (i,cs) (List.mem_cons_self ..)).elim id fun h=>by
     obtain ⟨x,hx,hxi⟩:=List.mem_map.1 h
     obtain ⟨_,_,_,ox,tx,_,_,hox,eox,_⟩:=hpn.all x hx
     rw [hxi,ho] at hox
     cases hox
     rw [alloc_no_read eox] at hrv
     cases hrv
    obtain ⟨d,hd⟩:=readV_dst hrv
    have hq':match opR P s o with
     | some (q,some v,_)=>q /\ regE P ops r (p :: pn) (i :: ks) (s.putO o.dst (some v)) K
     | _=>False:=by simpa only [regE,ho,hrv] using hq
    split at hq'
    ·rename_i q v s' e
     obtain ⟨hqq,hq'⟩:=hq'
     obtain ⟨z,_,_,_,hz⟩:=read_sound sr hrv e hqq
     obtain ⟨o',ho',hlo⟩:=linOk_spec (hp ▸ hlin)
     rw [ho] at ho'
     cases ho'
     have hdN:d < N:=(hs1 i o ho).1.1 d hd
     have hself:Operand.tmp d ∉ o.op.operands:=fun hm=>by
      obtain ⟨e',he1,he2,he3⟩:=(ssaOk_spec hssa (j:=i) (p:=o) ho).2 ho d hd hm
      rcases hlo e' he1 he2 with h | h
      ·cases h
      ·obtain ⟨y,hy,hy2⟩:=List.mem_map.1 h
       exact n1 y hy (hy2.trans he3)
     have hkd:keptV P (s.put d v) (some o):=by
      obtain ⟨s2,e5⟩:=opR_env (env:=(d,v) :: s.env) hrv (fun t ht=>find_cons_ne _ _ fun e=>hself (e ▸ ht)) e
      exact keptV_intro hd (by show find ((d,v) :: s.env) d=_;exact find_cons_self ..) e5 hqq
     rw [hd] at hq'
     have hcx:(s.put d v).ctx w β φ=s.ctx w β φ:=rfl
     refine early_adv hok hnd hlin hsix hssa hcl r (pre ++ [(i,cs)]) (p :: pn) (i :: ks) (by rw [hp];simp) (fun x hx=>hr x (List.mem_cons_of_mem _ hx)) (fun x hx o2 ho2 hr2=>?_) (sr.put hdN hz) ?_ (fun x hx hxl=>?_)
      ⟨hpn.nf,hpn.nd1,hpn.nd2,fun x hx=>hpn.all x hx⟩ (fun _ x hx o2 ho2 hr2=>?_) (fun x hx=>?_) hq'
     ·rcases List.mem_append.1 hx with hx | hx
      ·exact hpre x hx o2 ho2 hr2
      ·have:=List.mem_singleton.1 hx
       subst this
       rw [ho] at ho2
       cases ho2
       rw [hrv] at hr2
       cases hr2
     ·exact (hn.mono fun t h=>h.imp (fun ⟨x,hx,h1,h2⟩=>⟨x,List.mem_append_left _ hx,h1,h2⟩) id).putR d z (.inl ⟨(i,cs),by simp,hiu,o,ho,hd⟩)
     ·rcases List.mem_append.1 hx with hx | hx
      ·have hkx:=hk x hx hxl
       cases hox:ops[x.1]? with
       | none=>rw [hox] at hkx;exact hkx.elim
       | some ox =>
        rw [hox] at hkx
        have hrx:readV ox=true:=by
         cases h:readV ox with
         | true=>rfl
         | false=>have:=hpre x hx ox hox h;rw [hxl] at this;cases this
        refine keptV_put hrx hkx (fun e=>?_) (fun hm=>?_)
        ·have:=uniq_of hok hox ho e (e.trans hd.symm)
         exact n1 x hx this
        ·obtain ⟨e',he1,he2,he3⟩:=(ssaOk_spec hssa (j:=i) (p:=o) hox).2 ho d hd hm
         obtain ⟨A1,A2,hA⟩:=List.append_of_mem hx
         obtain ⟨o2,ho2,hl2⟩:=linOk_spec (A:=A1) (x:=x) (C:=A2 ++ (i,cs) :: r) (by rw [hp,hA] at hlin;simpa using hlin)
         rw [hox] at ho2
         cases ho2
         rcases hl2 e' he1 he2 with h | h
         ·cases h
         ·obtain ⟨y,hy,hy2⟩:=List.mem_map.1 h
          exact n1 y (by rw [hA];exact List.mem_append_left _ hy) (hy2.trans he3)
      ·have:=List.mem_singleton.1 hx
       subst this
       rw [ho]
       exact hkd
     ·rcases List.mem_append.1 hx with hx | hx
      ·exact List.mem_cons_of_mem _ (hks (by simp) x hx o2 ho2 hr2)
      ·rw [List.mem_singleton.1 hx];exact List.mem_cons_self ..
     ·have:=hc x hx
      rw [List.map_cons] at this
      rcases List.mem_cons.1 this with e1 | h1
      ·exfalso
       obtain ⟨_,_,_,ox,tx,_,_,hox,eox,_⟩:=hpn.all x hx
       rw [e1,ho] at hox
       cases hox
       rw [alloc_no_read eox] at hrv
       cases hrv
      ·exact h1
    ·exact hq'.elim
   | false =>
    cases hli:listed.getD i true with
    | false =>
     refine ⟨(i,cs) :: r,pre,p :: pn,ks,hp,hr,hpre,fun x r3 e=>?_,⟨fun j hj=>.inl hj,fun x hx=>hx⟩,s,b,sr,hn,hk,hpn,hks,hc,hq⟩
     cases e
     exact ⟨fun o' ho'=>by rw [ho] at ho';cases ho';exact hrv,hli⟩
    | true =>
     obtain ⟨x0,hx0,hxi0⟩:=List.mem_map.1 ((hr (i,cs) (List.mem_cons_self ..)).elim (fun h=>by rw [show listed.getD i true=true from hli] at h;cases h) id)
     cases hnb:numB i (p :: pn) with
     | none=>exact absurd hxi0 (numB_none hnb x0 hx0)
     | some m =>
      have hm:=numB_mem hnb
      obtain ⟨hlt,hB,hob,o',t,ds,d,ho',eo,hz,hd,hcase⟩:=hpn.all _ hm
      rw [ho] at ho'
      cases ho'
      obtain ⟨_,hfm,z,hcz,hv⟩:=hcase.elim (fun h=>by rw [show listed.getD (i,m).1 true=true from hli] at h;cases h.1) id
      have hdN:d < N:=(hs1 i o ho).1.1 d hd
      simp only [regE,ho,hrv,hnb,eo,hz] at hq
      obtain ⟨_,hc2,hq2⟩:=hpn.nf ▸ hq f
      rw [hd] at hc2 hq2
      have hkeep:∀ x ∈ p :: pn,s.obj x.2=f x.2:=fun x hx=>(hpn.all x hx).2.2.1
      have hmm:m ∈ (p :: pn).map (·.2):=List.mem_map_of_mem hm
      have hobj:∀ k,((setB s f (p :: pn)).setObj m t).obj k=s.obj k:=fun k=>by
       by_cases e:k=m
       ·subst e
        rw [St.obj_setObj_same,hob,hfm]
       ·rw [St.obj_setObj_ne _ _ e,setB_obj]
        split
        ·rename_i h
         obtain ⟨x,hx,rfl⟩:=List.mem_map.1 h
         exact (hkeep x hx).symm
        ·rfl
      have hnext:((setB s f (p :: pn)).setObj m t).next=s.next:=setB_next f (p :: pn)
      have henv:((setB s f (p :: pn)).setObj m t).env=s.env:=setB_env f (p :: pn)
      have hctx:((setB s f (p :: pn)).setObj m t).ctx w β φ=s.ctx w β φ:=alike_ctx hnext hobj
      have sr1:=sr.alike henv hnext hobj
      have sr2:=sr1.put (d:=d) (x:=z) hdN (by rw [hctx];exact hv)
      have hdm:=dropB_mem (i:=i) hpn.nd1
      refine (early_adv hok hnd hlin hsix hssa hcl r (pre ++ [(i,cs)]) (dropB i (p :: pn)) ks (by rw [hp];simp) (fun x hx=>?_) (fun x hx o2 ho2 hr2=>?_) sr2 ?_ (fun x hx hxl=>?_)
       ⟨hpn.nf,hpn.nd1.sublist ((dropB_sub i _).map _),hpn.nd2.sublist ((dropB_sub i _).map _),fun x hx=>?_⟩ (fun _ x hx o2 ho2 hr2=>?_) (fun x hx=>?_) hq2).imp fun r2 h=>h.imp fun pre2 h=>h.imp fun pn2 h=>h.imp fun ks2 h=>⟨h.1,h.2.1,h.2.2.1,h.2.2.2.1,⟨fun j hj=>?_,fun x hx=>(dropB_sub i _).subset (h.2.2.2.2.1.2 x hx)⟩,h.2.2.2.2.2⟩
      ·rcases hr x (List.mem_cons_of_mem _ hx) with h | h
       ·exact .inl h
       ·obtain ⟨y,hy,hyx⟩:=List.mem_map.1 h
        exact .inr (List.mem_map.2 ⟨y,(hdm y).2 ⟨hy,fun e=>n2 x hx (hyx.symm.trans e)⟩,hyx⟩)
      ·rcases List.mem_append.1 hx with hx | hx
       ·exact hpre x hx o2 ho2 hr2
       ·rw [List.mem_singleton.1 hx];exact hli
      ·refine hn.catch d z hcz fun t' h=>?_
       rcases h with ⟨x,hx,h1,h2⟩ | ⟨x,hx,h1,ox,hox,hdx⟩
       ·exact .inr (.inl ⟨x,List.mem_append_left _ hx,h1,h2⟩)
       ·by_cases e:x.1=i
        ·rw [e,ho] at hox
         cases hox
         rw [hd] at hdx
         cases hdx
         exact .inl rfl
        ·exact .inr (.inr ⟨x,(hdm x).2 ⟨hx,e⟩,h1,ox,hox,hdx⟩)
      ·rcases List.mem_append.1 hx with hx | hx
       ·cases hox:ops[x.1]? with
        | none=>have:=hk x hx hxl;rw [hox] at this;exact this.elim
        | some ox =>
         have hrx:readV ox=true:=by
          cases h:readV ox with
          | true=>rfl
          | false=>have:=hpre x hx ox hox h;rw [hxl] at this;cases this
         rcases sixOk_spec (hp ▸ hsix) o ho hrv x.1 (.inr (List.mem_map_of_mem hx)) ox hox hrx with h | h
         ·rw [<- hox];exact chk_mem hc2 h
         ·have:=ancB_listed hcl _ _ _ h (fun o' ho'=>hcl i o' ho' hli)
          rw [hxl] at this
          cases this
       ·rw [List.mem_singleton.1 hx,show listed.getD (i,cs).1 true=true from hli] at hxl
        cases hxl
      ·obtain ⟨hx1,hx2⟩:=(hdm x).1 hx
       obtain ⟨g1,g2,g3,ox,tx,dsx,dx,g4,g5,g6,g7,g8⟩:=hpn.all x hx1
       refine ⟨hnext ▸ g1,g2,(hobj x.2).trans g3,ox,tx,dsx,dx,g4,g5,g6,g7,g8.imp id fun ⟨q1,q2,zx,q3,q4⟩=>⟨q1,q2,zx,q3,?_⟩⟩
       show AVRel (((setB s f (p :: pn)).setObj m t).ctx w β φ) _ _
       rw [hctx]
       exact q4
      ·rcases List.mem_append.1 hx with hx | hx
       ·exact hks (by simp) x hx o2 ho2 hr2
       ·rw [List.mem_singleton.1 hx,ho] at ho2
        cases ho2
        rw [hrv] at hr2
        cases hr2
      ·obtain ⟨hx1,hx2⟩:=(hdm x).1 hx
       have:=hc x hx1
       rw [List.map_cons] at this
       exact (List.mem_cons.1 this).resolve_left hx2
      ·by_cases e:j=i
       ·exact .inr (e ▸ hli)
       ·obtain ⟨y,hy,rfl⟩:=List.mem_map.1 hj
        exact h.2.2.2.2.1.1 y.1 (List.mem_map_of_mem ((hdm y).2 ⟨hy,e⟩))
theorem regE_chk {ops:Array Oper} {i:Nat} {cs:List Nat} {r:List (Nat × List Nat)} {p:Nat × Nat} {pn:List (Nat × Nat)} {ks:List Nat} {s:St} {K:St -> Prop} (hq:regE P ops ((i,cs) :: r) (p :: pn) ks s K) (hr:∀ o,ops[i]?=some o -> readV o=false) (f:Nat -> AObj) (hf:nopF f=f):chk P ops ks (setB s f (p :: pn)):=by
 cases ho:ops[i]? with
 | none=>simp only [regE,ho] at hq
 | some o =>
  simp only [regE,ho,hr o ho] at hq
  split at hq
  ·split at hq
   ·exact (hf ▸ hq f).1
   ·exact hq.elim
  ·exact (hf ▸ hq f).1
theorem early_step {ops:Array Oper} {K:St -> Prop} (hok:drawOk ops N=true) {pi:List (Nat × List Nat)} (hnd:(pi.map (·.1)).Nodup) (hsix:sixOk ops [] pi=true) {listed:Array Bool}
  (hcl:∀ (j:Nat) (o:Oper),ops[j]?=some o -> listed.getD j true=true -> ∀ e ∈ o.after,Region.binds .any e=true -> listed.getD e.on true=true) {c:Act} {f:Nat -> AObj}
  {r pre:List (Nat × List Nat)} {i:Nat} {cs:List Nat} {p:Nat × Nat} {pn:List (Nat × Nat)} {ks:List Nat} (hp:pi=pre ++ (i,cs) :: r) (hr:∀ x ∈ r,listed.getD x.1 true=false \/ x.1 ∈ (p :: pn).map (·.1)) (hpre:∀ x ∈ pre,∀ o,ops[x.1]?=some o -> readV o=false -> listed.getD x.1 true=true) (hsome:∀ x ∈ pre,ops[x.1]? ≠ none)
  {s:St} {b:Act} (sr:SR B N (setB s f (p :: pn)) β φ b w) (hn:Near (DD ops listed pre (p :: pn)) c b) (hpn:Pn P ops listed B (setB s f (p :: pn)) β φ c w f (p :: pn))
  (hks:∀ x ∈ pre,∀ o,ops[x.1]?=some o -> readV o=true -> x.1 ∈ ks) (hc:∀ x ∈ p :: pn,x.1 ∈ ((i,cs) :: r).map (·.1)) (hq:regE P ops ((i,cs) :: r) (p :: pn) ks s K) {o:Oper} (ho:ops[i]?=some o) (hrv:readV o=false) (hli:listed.getD i true=true) (hin:i ∈ (p :: pn).map (·.1)) :
  ∃ s2 b2,SR B N s2 β φ b2 w /\ Near (DD ops listed (pre ++ [(i,cs)]) (dropB i (p :: pn))) c b2 /\ (∀ x ∈ pre ++ [(i,cs)],listed.getD x.1 true=false -> keptV P s2 (ops[x.1]?)) /\ Pn P ops listed B s2 β φ c w f (dropB i (p :: pn)) /\
   (∀ x ∈ pre ++ [(i,cs)],∀ o,ops[x.1]?=some o -> readV o=true -> x.1 ∈ ks) /\ (∀ x ∈ dropB i (p :: pn),x.1 ∈ r.map (·.1)) /\ (∀ x ∈ r,listed.getD x.1 true=false \/ x.1 ∈ (dropB i (p :: pn)).map (·.1)) /\
   (∀ x ∈ pre ++ [(i,cs)],∀ o,ops[x.1]?=some o -> readV o=false -> listed.getD x.1 true=true) /\ (∀ j ∈ (p :: pn).map (·.1),j ∈ (dropB i (p :: pn)).map (·.1) \/ listed.getD j true=true) /\ regE P ops r (dropB i (p :: pn)) ks s2 K:=by
 obtain ⟨hs1,hs2⟩:=drawOk_spec hok
 obtain ⟨n1,n2,n3⟩:=float_nodup hnd hp
 obtain ⟨x0,hx0,hxi0⟩:=List.mem_map.1 hin
 cases hnb:numB i (p :: pn) with
 | none=>exact absurd hxi0 (numB_none hnb x0 hx0)
 | some m =>
  have hm:=numB_mem hnb
  obtain ⟨hlt,hB,hob,o',t,ds,d,ho',eo,hz,hd,hcase⟩:=hpn.all _ hm
  rw [ho] at ho'
  cases ho'
  obtain ⟨_,hfm,z,hcz,hv⟩:=hcase.elim (fun h=>by rw [show listed.getD (i,m).1 true=true from hli] at h;cases h.1) id
  have hdN:d < N:=(hs1 i o ho).1.1 d hd
  simp only [regE,ho,hrv,hnb,eo,hz] at hq
  obtain ⟨_,hc2,hq2⟩:=hpn.nf ▸ hq f
  rw [hd] at hc2 hq2
  have hobj:∀ k,((setB s f (p :: pn)).setObj m t).obj k=(setB s f (p :: pn)).obj k:=fun k=>by
   by_cases e:k=m
   ·subst e
    rw [St.obj_setObj_same,hob,hfm]
   ·rw [St.obj_setObj_ne _ _ e]
  have hctx:((setB s f (p :: pn)).setObj m t).ctx w β φ=(setB s f (p :: pn)).ctx w β φ:=alike_ctx rfl hobj
  have sr1:SR B N ((setB s f (p :: pn)).setObj m t) β φ b w:=sr.alike rfl rfl hobj
  have sr2:=sr1.put (d:=d) (x:=z) hdN (by rw [hctx];exact hv)
  have hdm:=dropB_mem (i:=i) hpn.nd1
  refine ⟨_,_,sr2,?_,fun x hx hxl=>?_,⟨hpn.nf,hpn.nd1.sublist ((dropB_sub i _).map _),hpn.nd2.sublist ((dropB_sub i _).map _),fun x hx=>?_⟩,fun x hx o2 ho2 hr2=>?_,fun x hx=>?_,fun x hx=>?_,fun x hx o2 ho2 hr2=>?_,fun j hj=>?_,hq2⟩
  ·refine hn.catch d z hcz fun t' h=>?_
   rcases h with ⟨x,hx,h1,h2⟩ | ⟨x,hx,h1,ox,hox,hdx⟩
   ·exact .inr (.inl ⟨x,List.mem_append_left _ hx,h1,h2⟩)
   ·by_cases e:x.1=i
    ·rw [e,ho] at hox
     cases hox
     rw [hd] at hdx
     cases hdx
     exact .inl rfl
    ·exact .inr (.inr ⟨x,(hdm x).2 ⟨hx,e⟩,h1,ox,hox,hdx⟩)
  ·rcases List.mem_append.1 hx with hx | hx
   ·cases hox:ops[x.1]? with
    | none=>exact absurd hox (hsome x hx)
    | some ox =>
     have hrx:readV ox=true:=by
      cases h:readV ox with
      | true=>rfl
      | false=>have:=hpre x hx ox hox h;rw [hxl] at this;cases this
     rcases sixOk_spec (hp ▸ hsix) o ho hrv x.1 (.inr (List.mem_map_of_mem hx)) ox hox hrx with h | h
     ·rw [<- hox];exact chk_mem hc2 h
     ·have:=ancB_listed hcl _ _ _ h (fun o' ho'=>hcl i o' ho' hli)
      rw [hxl] at this
      cases this
   ·rw [List.mem_singleton.1 hx,show listed.getD (i,cs).1 true=true from hli] at hxl
    cases hxl
  ·obtain ⟨hx1,hx2⟩:=(hdm x).1 hx
   obtain ⟨g1,g2,g3,ox,tx,dsx,dx,g4,g5,g6,g7,g8⟩:=hpn.all x hx1
   refine ⟨g1,g2,(hobj x.2).trans g3,ox,tx,dsx,dx,g4,g5,g6,g7,g8.imp id fun ⟨q1,q2,zx,q3,q4⟩=>⟨q1,q2,zx,q3,?_⟩⟩
   show AVRel (((setB s f (p :: pn)).setObj m t).ctx w β φ) _ _
   rw [hctx]
   exact q4
  ·rcases List.mem_append.1 hx with hx | hx
   ·exact hks x hx o2 ho2 hr2
   ·rw [List.mem_singleton.1 hx,ho] at ho2
    cases ho2
    rw [hrv] at hr2
    cases hr2
  ·obtain ⟨hx1,hx2⟩:=(hdm x).1 hx
   have:=hc x hx1
   rw [List.map_cons] at this
   exact (List.mem_cons.1 this).resolve_left hx2
  ·rcases hr x hx with h | h
   ·exact .inl h
   ·obtain ⟨y,hy,hyx⟩:=List.mem_map.1 h
    exact .inr (List.mem_map.2 ⟨y,(hdm y).2 ⟨hy,fun e=>n2 x hx (hyx.symm.trans e)⟩,hyx⟩)
  ·rcases List.mem_append.1 hx with hx | hx
   ·exact hpre x hx o2 ho2 hr2
   ·rw [List.mem_singleton.1 hx];exact hli
  ·by_cases e:j=i
   ·exact .inr (e ▸ hli)
   ·obtain ⟨y,hy,rfl⟩:=List.mem_map.1 hj
    exact .inl (List.mem_map_of_mem ((hdm y).2 ⟨hy,e⟩))
theorem put_other (a:Act) (d:Option Tmp) (x:Value) {t:Nat} (h:d ≠ some t):(a.put d x).tmps[t]?=a.tmps[t]?:=by
 cases d with
 | none=>rfl
 | some d =>
  show (a.tmps.setIfInBounds d x)[t]?=_
  rw [Array.getElem?_setIfInBounds_ne (fun e=>h (by rw [e]))]
theorem wp_near2 {D:Nat -> Prop} (hn:Near D a a') {o:Oper} (hop:∀ x ∈ o.op.operands,a.eval x=a'.eval x) (hsel:∀ cs b,o.op ≠ .select cs b) {next:Act -> World -> Prop} {Q:Exit -> Act -> World -> Prop}
  (h:o.wp P a' w (fun b w=>∀ c,Near D c b -> (∀ t,o.dst ≠ some t -> c.tmps[t]?=a.tmps[t]?) -> next c w) (fun e b w=>∀ c,Near D c b -> Q e c w)):o.wp P a w next Q:=by
 have hlo:LetsOut (fun e b w=>∀ c,Near D c b -> Q e c w) -> LetsOut Q:=fun ⟨b,w,hb⟩=>⟨b,w,hb b (Near.refl D b)⟩
 unfold Oper.wp at h ⊢
 rw [execOp_congr o hsel hop]
 generalize (execOp a'.eval o).run P w=r at h ⊢
 unfold Oper.upon at h ⊢
 split at h
 ·exact h _ (hn.put _ _) fun t ht=>put_other _ _ _ ht
 ·exact h _ (hn.put _ _) fun t ht=>put_other _ _ _ ht
 ·rename_i d w'
  have h0:Near D { a with defers:=d :: a.defers } { a' with defers:=d :: a'.defers }:=⟨hn.1,by show d :: a.defers=d :: a'.defers;rw [hn.2.1],hn.2.2⟩
  exact h _ (h0.put _ _) fun t ht=>put_other _ _ _ ht
 ·refine h.mono fun e w'' he=>?_
  cases e with
  | returned v=>exact he _ (hn.put _ _) fun t ht=>put_other _ _ _ ht
  | panicked c=>exact he _ hn
  | outgrown=>exact hlo he
 ·exact h.mono fun v w'' he=>he _ (hn.put _ _) fun t ht=>put_other _ _ _ ht
 ·first | exact h _ hn fun t ht=>rfl | exact h _ hn
 ·exact h.elim
theorem early_any {ops:Array Oper} {Q:Exit -> Act -> World -> Prop} {K:St -> Prop} (hok:drawOk ops N=true) {pi:List (Nat × List Nat)} (hall:∀ i,i < ops.size -> i ∈ pi.map (·.1)) (hnd:(pi.map (·.1)).Nodup) (hlin:linOk ops [] pi=true) {al:List Nat} (hch:chainOk ops al pi=true) (hsix:sixOk ops [] pi=true) (hssa:ssaOk ops=true)
  (hQ:∀ st' β φ a w,SR B N st' β φ a w -> K st' -> Q .normal a w):∀ (fuel:Nat) (listed:Array Bool),listed.size=ops.size -> cnt listed ops.size=fuel ->
    (∀ (j:Nat) (o:Oper),ops[j]?=some o -> listed.getD j true=true -> ∀ e ∈ o.after,Region.binds .any e=true -> listed.getD e.on true=true) ->
    ∀ (r pre:List (Nat × List Nat)) (pn:List (Nat × Nat)) (ks:List Nat),pi=pre ++ r -> (∀ x ∈ r,listed.getD x.1 true=false \/ x.1 ∈ pn.map (·.1)) -> (∀ x ∈ pre,∀ o,ops[x.1]?=some o -> readV o=false -> listed.getD x.1 true=true) ->
    (∀ x r3,r=x :: r3 -> (∀ o,ops[x.1]?=some o -> readV o=false) /\ listed.getD x.1 true=false) -> (∀ i ∈ al,i ∈ pn.map (·.1) \/ listed.getD i true=true) -> (∀ x ∈ pn,x.1 ∈ al) ->
    ∀ {f:Nat -> AObj} {s:St} {β:Nat -> Info} {φ:Nat -> List Nat} {a b:Act} {w:World},SR B N (setB s f pn) β φ b w -> Near (DD ops listed pre pn) a b ->
    (∀ x ∈ pre,listed.getD x.1 true=false -> keptV P (setB s f pn) (ops[x.1]?)) -> Pn P ops listed B (setB s f pn) β φ a w f pn -> (pn ≠ [] -> ∀ x ∈ pre,∀ o,ops[x.1]?=some o -> readV o=true -> x.1 ∈ ks) -> (∀ x ∈ pn,x.1 ∈ r.map (·.1)) ->
    regE P ops r pn ks s K -> wpAny P .any ops Q fuel listed a w:=by
 obtain ⟨hs1,hs2⟩:=drawOk_spec hok
 have hback:∀ (j:Nat) (o:Oper),ops[j]?=some o -> ∀ e ∈ o.after,Region.binds .any e=true -> e.on < j:=fun j o ho=>(hs1 j o ho).2
 have hpos:∀ x ∈ pi,∃ o,ops[x.1]?=some o:=fun x hx=>by
  obtain ⟨A,C,hA⟩:=List.append_of_mem hx
  obtain ⟨o,ho,_⟩:=linOk_spec (hA ▸ hlin)
  exact ⟨o,ho⟩
 have hready:∀ listed:Array Bool,listed.size=ops.size -> Region.ready .any ops listed=[] -> ∀ k,k < ops.size -> listed.getD k true=true:=fun listed hsz hr k=>by
  induction k using Nat.strongRecOn with
  | _ k ih =>
   intro hk
   apply Classical.byContradiction
   intro hn
   have hn':listed.getD k true=false:=by simpa using hn
   have hmem:k ∈ Region.ready .any ops listed:=mem_ready.2 ⟨hn',ops[k],Array.getElem?_eq_getElem hk,fun e he hb=>by
    have hlt:=hback k ops[k] (Array.getElem?_eq_getElem hk) e he hb
    have:=ih e.on hlt (by omega)
    rw [Array.getD_eq_getD_getElem?,Array.getElem?_eq_getElem (by omega)] at this ⊢
    exact this⟩
   rw [hr] at hmem
   cases hmem
 have hnil:∀ (fuel:Nat) (listed:Array Bool),listed.size=ops.size -> cnt listed ops.size=fuel ->
   (∀ (j:Nat) (o:Oper),ops[j]?=some o -> listed.getD j true=true -> ∀ e ∈ o.after,Region.binds .any e=true -> listed.getD e.on true=true) ->
   ∀ (r pre:List (Nat × List Nat)) (ks:List Nat),pi=pre ++ r -> (∀ x ∈ r,listed.getD x.1 true=false \/ x.1 ∈ ([]:List (Nat × Nat)).map (·.1)) -> (∀ x ∈ pre,∀ o,ops[x.1]?=some o -> readV o=false -> listed.getD x.1 true=true) ->
   (∀ x r3,r=x :: r3 -> (∀ o,ops[x.1]?=some o -> readV o=false) /\ listed.getD x.1 true=false) -> (∀ i ∈ al,i ∈ ([]:List (Nat × Nat)).map (·.1) \/ listed.getD i true=true) ->
   ∀ {s:St} {β:Nat -> Info} {φ:Nat -> List Nat} {a b:Act} {w:World},SR B N s β φ b w -> Near (DD ops listed pre []) a b ->
   (∀ x ∈ pre,listed.getD x.1 true=false -> keptV P s (ops[x.1]?)) -> regE P ops r [] ks s K -> wpAny P .any ops Q fuel listed a w:=fun fuel listed hsz hc hcl r pre ks hp hr hpre hhd hal s β φ a b w sr hn hk hq =>
  float_any hok hall hnd hlin hch hsix hssa hQ fuel listed hsz hc hcl (fun i hi=>(hal i hi).elim (fun h=>by simp at h) id) r pre hp (fun x hx=>(hr x hx).elim id fun h=>by simp at h) hpre (fun x r3 e=>(hhd x r3 e).1) sr
   (hn.mono fun t h=>h.elim id fun ⟨x,hx,_⟩=>by cases hx) hk (by cases r <;> simpa only [regE] using hq)
 have hnot:∀ (listed:Array Bool),(∀ k,k < ops.size -> listed.getD k true=true) -> ∀ (r pre:List (Nat × List Nat)) (p:Nat × Nat) (pn:List (Nat × Nat)),pi=pre ++ r -> (∀ x r3,r=x :: r3 -> (∀ o,ops[x.1]?=some o -> readV o=false) /\ listed.getD x.1 true=false) -> (∀ x ∈ p :: pn,x.1 ∈ r.map (·.1)) -> False:=fun listed hl r pre p pn hp hhd hc=>by
  cases r with
  | nil=>have:=hc p (List.mem_cons_self ..);simp at this
  | cons x r =>
   obtain ⟨o,ho⟩:=hpos x (by rw [hp];simp)
   have:=(hhd x r rfl).2
   rw [hl _ (Array.getElem?_eq_some_iff.1 ho).1] at this
   cases this
 intro fuel
 induction fuel with
 | zero =>
  intro listed hsz hc hcl r pre pn ks hp hr hpre hhd hal hpa f s β φ a b w sr hn hk hpn hks hcv hq
  cases pn with
  | nil=>exact hnil 0 listed hsz hc hcl r pre ks hp hr hpre hhd hal sr hn hk hq
  | cons p pn=>exact (hnot listed (fun k hk=>cnt_zero hc k hk) r pre p pn hp hhd hcv).elim
 | succ fuel ih =>
  intro listed hsz hc hcl r pre pn ks hp hr hpre hhd hal hpa f s β φ a b w sr hn hk hpn hks hcv hq
  cases pn with
  | nil=>exact hnil _ listed hsz hc hcl r pre ks hp hr hpre hhd hal sr hn hk hq
  | cons p pn =>
  refine ⟨fun hre=>(hnot listed (hready listed hsz hre) r pre p pn hp hhd hcv).elim,fun i hi=>?_⟩
  obtain ⟨hun,o,ho,hedge⟩:=mem_ready.1 hi
  have hin:i < ops.size:=(Array.getElem?_eq_some_iff.1 ho).1
  have hedge':∀ e ∈ o.after,Region.binds .any e=true -> listed.getD e.on true=true:=fun e he hb=>by
   have h1:=hedge e he hb
   have:=hback i o ho e he hb
   rw [getD_tf hsz (by omega) true false];first | exact h1 | (rw [getD_tf hsz (by omega) false true];exact h1)
  have hpl:=(ssaOk_spec hssa (j:=i) (p:=o) ho).1
  unfold plainV at hpl
  simp only [Bool.and_eq_true] at hpl
  have hsel:∀ cs b,o.op ≠ .select cs b:=fun cs b e=>by
   have:=hpl.2
   rw [e] at this
   cases this
  have hwant:Region.wanted o (yielded ops a.tmps)=true:=by
   unfold Region.wanted
   rw [Option.isNone_iff_eq_none.1 hpl.1]
  have hsz':(listed.setIfInBounds i true).size=ops.size:=by simpa using hsz
  have hcl':=closed_set hsz ho hin hedge' hcl
  have hc':cnt (listed.setIfInBounds i true) ops.size=fuel:=by have:=cnt_set listed i hun ops.size hin;omega
  have hset:(listed.setIfInBounds i true).getD i true=true:=by
   rw [Array.getD_eq_getD_getElem?,Array.getElem?_setIfInBounds_self]
   simp [hsz,hin]
  have hne:∀ k,k ≠ i -> (listed.setIfInBounds i true).getD k true=listed.getD k true:=fun k hk=>getD_set_ne true (Ne.symm hk)
  have hal':∀ j ∈ al,j ∈ (p :: pn).map (·.1) \/ (listed.setIfInBounds i true).getD j true=true:=fun j hj=>by
   by_cases e:j=i
   ·exact .inr (e ▸ hset)
   ·rw [hne _ e];exact hal j hj
  have hfin:∀ (r2 pre2:List (Nat × List Nat)) (pn2:List (Nat × Nat)) (ks2:List Nat),pi=pre2 ++ r2 -> (∀ x ∈ r2,(listed.setIfInBounds i true).getD x.1 true=false \/ x.1 ∈ pn2.map (·.1)) -> (∀ x ∈ pre2,∀ o,ops[x.1]?=some o -> readV o=false -> (listed.setIfInBounds i true).getD x.1 true=true) ->
    (∀ x r3,r2=x :: r3 -> (∀ o,ops[x.1]?=some o -> readV o=false) /\ (listed.setIfInBounds i true).getD x.1 true=false) -> (∀ j ∈ al,j ∈ pn2.map (·.1) \/ (listed.setIfInBounds i true).getD j true=true) -> (∀ x ∈ pn2,x.1 ∈ al) ->
    ∀ {f:Nat -> AObj} {s:St} {β:Nat -> Info} {φ:Nat -> List Nat} {a b:Act} {w:World},SR B N s β φ b w -> Near (DD ops (listed.setIfInBounds i true) pre2 pn2) a b ->
    (∀ x ∈ pre2,(listed.setIfInBounds i true).getD x.1 true=false -> keptV P s (ops[x.1]?)) -> Pn P ops (listed.setIfInBounds i true) B s β φ a w f pn2 -> (pn2 ≠ [] -> ∀ x ∈ pre2,∀ o,ops[x.1]?=some o -> readV o=true -> x.1 ∈ ks2) -> (∀ x ∈ pn2,x.1 ∈ r2.map (·.1)) ->
    regE P ops r2 pn2 ks2 s K -> wpAny P .any ops Q fuel (listed.setIfInBounds i true) a w:=fun r2 pre2 pn2 ks2 g1 g2 g3 g4 g5 g6 f s β φ a b w g7 g8 g9 g10 g11 g12 g13=>by
   refine ih _ hsz' hc' hcl' r2 pre2 pn2 ks2 g1 g2 g3 g4 g5 g6 (g7.setB fun x hx=>(g10.all x hx).2.2.1) g8 (fun x hx hxl=>?_) g10.toB g11 g12 g13
   cases pn2 with
   | nil=>exact g9 x hx hxl
   | cons q pn2 =>
    cases r2 with
    | nil=>have:=g12 q (List.mem_cons_self ..);simp at this
    | cons y r2 =>
     obtain ⟨ox,hox⟩:=hpos x (by rw [g1];exact List.mem_append_left _ hx)
     have hrx:readV ox=true:=by
      cases h:readV ox with
      | true=>rfl
      | false=>have:=g3 x hx ox hox h;rw [hxl] at this;cases this
     exact chk_mem (regE_chk (i:=y.1) (cs:=y.2) g13 (g4 y r2 rfl).1 f g10.nf) (g11 (by simp) x hx ox hox hrx)
  unfold wpOp
  rw [ho]
  simp only [hwant,if_true]
  left
  obtain ⟨x,hx,hxi⟩:=List.mem_map.1 (hall i hin)
  rw [hp] at hx
  by_cases hia:i ∈ (p :: pn).map (·.1)
  ·-- a variable comes
   obtain ⟨x0,hx0,hxi0⟩:=List.mem_map.1 hia
   obtain ⟨i0,m⟩:=x0
   have hxi0:i0=i:=hxi0
   subst hxi0
   obtain ⟨β',φ',w',z,d,f',hd,sr1,hrun,hpn1⟩:=hpn.draw hok hsz sr hx0 hun ho (hn.1.trans sr.size)
   unfold Oper.wp
   rw [hrun,Oper.upon_value,hd]
   have hir:=hcv _ hx0
   cases r with
   | nil=>simp at hir
   | cons y r =>
   have hnp:∀ y ∈ pre,y.1 ≠ i0:=fun y' hy' e=>by
    obtain ⟨z',hz',hze⟩:=List.mem_map.1 hir
    obtain ⟨A,C,hA⟩:=List.append_of_mem hz'
    have:=(float_nodup hnd (A:=pre ++ A) (x:=z') (C:=C) (by rw [hp,hA];simp)).1 y' (List.mem_append_left _ hy')
    exact this (e.trans hze.symm)
   have hn1:Near (DD ops (listed.setIfInBounds i0 true) pre (p :: pn)) (a.put (some d) z) b:=(hn.mono fun t h=>by
    rcases h with ⟨x,hx,h1,h2⟩ | ⟨x,hx,h1,h2⟩
    ·exact .inl ⟨x,hx,by rw [hne _ (hnp x hx)];exact h1,h2⟩
    ·refine .inr ⟨x,hx,?_,h2⟩
     by_cases e:x.1=i0
     ·rw [e];exact hset
     ·rw [hne _ e];exact h1).putL d z (.inr ⟨_,hx0,hset,o,ho,hd⟩)
   obtain ⟨y1,cs1⟩:=y
   have hy:=hhd _ r rfl
   have hk1:∀ x ∈ pre,(listed.setIfInBounds i0 true).getD x.1 true=false -> keptV P (setB s f' (p :: pn)) (ops[x.1]?):=fun x hx hxl=>by
    rw [hne _ (hnp x hx)] at hxl
    obtain ⟨ox,hox⟩:=hpos x (by rw [hp];exact List.mem_append_left _ hx)
    have hrx:readV ox=true:=by
     cases h:readV ox with
     | true=>rfl
     | false=>have:=hpre x hx ox hox h;rw [hxl] at this;cases this
    exact chk_mem (regE_chk hq hy.1 f' hpn1.nf) (hks (by simp) x hx ox hox hrx)
   have hpre1:∀ x ∈ pre,∀ o,ops[x.1]?=some o -> readV o=false -> (listed.setIfInBounds i0 true).getD x.1 true=true:=fun x hx o2 ho2 hr2=>by
    rw [hne _ (hnp x hx)];exact hpre x hx o2 ho2 hr2
   have hr1:∀ x ∈ (y1,cs1) :: r,(listed.setIfInBounds i0 true).getD x.1 true=false \/ x.1 ∈ (p :: pn).map (·.1):=fun x hx=>by
    by_cases e:x.1=i0
    ·exact .inr (e ▸ hia)
    ·rw [hne _ e];exact hr x hx
   by_cases hyi:y1=i0
   ·subst hyi
    obtain ⟨s2,b2,q1,q2,q3,q4,q5,q6,q7,q8,q9,q10⟩:=early_step (P:=P) hok hnd hsix hcl' hp (fun x hx=>hr1 x (List.mem_cons_of_mem _ hx)) hpre1 (fun x hx h=>by
     obtain ⟨ox,hox⟩:=hpos x (by rw [hp];exact List.mem_append_left _ hx)
     rw [hox] at h;cases h) sr1 hn1 hpn1 (hks (by simp)) hcv hq ho (hy.1 o ho) hset hia
    obtain ⟨r2,pre2,pn2,ks2,u1,u2,u3,u4,u5,s3,b3,u6,u7,u8,u9,u10,u11,u12⟩:=early_adv (P:=P) hok hnd hlin hsix hssa hcl' r (pre ++ [(y1,cs1)]) (dropB y1 (p :: pn)) ks (by rw [hp];simp) q7 q8 q1 q2 q3 q4 (fun _=>q5) q6 q10
    refine hfin r2 pre2 pn2 ks2 u1 u2 u3 u4 (fun j hj=>?_) (fun x hx=>?_) u6 u7 u8 u9 u10 u11 u12
    ·rcases hal' j hj with h | h
     ·rcases q9 j h with h | h
      ·exact u5.1 j h
      ·exact .inr h
     ·exact .inr h
    ·exact hpa x ((dropB_sub y1 _).subset (u5.2 x hx))
   ·exact ih _ hsz' hc' hcl' _ pre (p :: pn) ks hp hr1 hpre1 (fun x r3 e=>by cases e;exact ⟨hy.1,by rw [hne _ hyi];exact hy.2⟩) hal' hpa sr1 hn1 hk1 hpn1 hks hcv hq
  ·rcases List.mem_append.1 hx with hx | hx
   ·-- a read that was put off
    have hkx:=hk x hx (by rw [hxi];exact hun)
    rw [hxi,ho] at hkx
    obtain ⟨d,v,q,s',hd,hv,he,hqq⟩:=keptV_inv hkx
    have hrv:readV o=true:=by
     cases h:readV o with
     | true=>rfl
     | false =>
      have:=hpre x hx o (by rw [hxi];exact ho) h
      rw [hxi,hun] at this
      cases this
    obtain ⟨A,C,hA⟩:=List.append_of_mem hx
    have hpA:pi=A ++ x :: (C ++ r):=by rw [hp,hA];simp
    obtain ⟨m1,m2,m3⟩:=float_nodup hnd hpA
    obtain ⟨o',ho',hlo⟩:=linOk_spec (hpA ▸ hlin)
    rw [hxi,ho] at ho'
    cases ho'
    have hxne:∀ y ∈ p :: pn,y.1 ≠ i:=fun y hy e=>hia (e ▸ List.mem_map_of_mem hy)
    have hev:∀ y ∈ o.op.operands,a.eval y=b.eval y:=fun y hy=>hn.eval fun t ht hD=>by
     subst ht
     rcases hD with ⟨x,hx,h1,o2,ho2,hd2⟩ | ⟨x,hx,h1,o2,ho2,hd2⟩
     ·obtain ⟨e,he1,he2,he3⟩:=(ssaOk_spec hssa (j:=x.1) (p:=o2) ho).2 ho2 t hd2 hy
      have:=hedge' e he1 he2
      rw [he3,h1] at this
      cases this
     ·obtain ⟨e,he1,he2,he3⟩:=(ssaOk_spec hssa (j:=x.1) (p:=o2) ho).2 ho2 t hd2 hy
      rcases hlo e he1 he2 with h | h
      ·cases h
      ·obtain ⟨z,hz,hz2⟩:=List.mem_map.1 h
       obtain ⟨u,hu,hu2⟩:=List.mem_map.1 (hcv x hx)
       exact m3 z hz u (List.mem_append_right _ hu) (hz2.trans (he3.trans hu2.symm))
    obtain ⟨z,w1,hrun,hfr,hz⟩:=read_sound sr hrv he hqq
    obtain ⟨le1,sr1⟩:=sr.calm hfr
    have hz:=AVRel.mono le1 hz
    have hdN:d < N:=(hs1 i o ho).1.1 d hd
    unfold Oper.wp
    rw [execOp_congr o hsel hev,hrun,Oper.upon_value,hd]
    have sr2:SR B N (setB s f (p :: pn)) β φ (b.put (some d) z) w1:=by
     have h1:=(sr1.put hdN hz).forget (setB s f (p :: pn)).env (fun t u hu=>by
      show find ((d,v) :: (setB s f (p :: pn)).env) t=some u
      by_cases e:t=d
      ·subst e
       rw [find_cons_self,<- hu,hv]
      ·rw [find_cons_ne _ _ e];exact hu)
     exact h1
    refine ih (listed.setIfInBounds i true) hsz' hc' hcl' r pre (p :: pn) ks hp (fun y hy=>?_) (fun y hy o2 ho2 hr2=>?_) (fun y r3 e=>?_) hal' hpa sr2 (hn.put1 d z fun t h=>?_) (fun y hy hyl=>?_) ⟨hpn.nf,hpn.nd1,hpn.nd2,fun y hy=>?_⟩ hks hcv hq
    ·by_cases e:y.1=i
     ·exact absurd (e.trans hxi.symm) (m2 y (List.mem_append_right _ hy))
     ·rw [hne _ e];exact hr y hy
    ·by_cases e:y.1=i
     ·rw [e];exact hset
     ·rw [hne _ e];exact hpre y hy o2 ho2 hr2
    ·have h1:=hhd y r3 e
     refine ⟨h1.1,?_⟩
     rw [hne _ fun e2=>absurd (e2.trans hxi.symm) (m2 y (List.mem_append_right _ (by rw [e];exact List.mem_cons_self ..)))]
     exact h1.2
    ·rcases h with ⟨y,hy,h1,o2,ho2,hd2⟩ | ⟨y,hy,h1,h2⟩
     ·by_cases e:y.1=i
      ·rw [e,ho] at ho2
       cases ho2
       rw [hd] at hd2
       cases hd2
       exact .inl rfl
      ·exact .inr (.inl ⟨y,hy,by rw [hne _ e];exact h1,o2,ho2,hd2⟩)
     ·exact .inr (.inr ⟨y,hy,by rw [hne _ (hxne y hy)];exact h1,h2⟩)
    ·by_cases e:y.1=i
     ·rw [e,hset] at hyl
      cases hyl
     ·rw [hne _ e] at hyl
      exact hk y hy hyl
    ·obtain ⟨g1,g2,g3,ox,tx,dsx,dx,g4,g5,g6,g7,g8⟩:=hpn.all y hy
     rw [hne _ (hxne y hy)]
     refine ⟨g1,g2,g3,ox,tx,dsx,dx,g4,g5,g6,g7,g8.imp id fun ⟨q1,q2,zx,q3,q4⟩=>⟨q1,q2,zx,?_,AVRel.mono le1 q4⟩⟩
     rw [put_other _ _ _ fun e=>hxne y hy (uniq_of hok g4 ho g7 (by rw [g7,hd];exact e.symm))]
     exact q3
   ·-- what changes memory: it is the next
    cases r with
    | nil=>cases hx
    | cons y r =>
    obtain ⟨oy,hoy⟩:=hpos y (by rw [hp];simp)
    have hry:=(hhd y r rfl).1 oy hoy
    have hyi:y.1=i:=by
     rcases List.mem_cons.1 hx with h | h
     ·rw [<- h];exact hxi
     ·exfalso
      have hxa:x.1 ∉ al:=fun h=>(hal _ h).elim (fun h=>hia (hxi ▸ h)) (fun h=>by rw [hxi,hun] at h;cases h)
      obtain ⟨e,he1,he2,he3⟩:=chainOk_spec (hp ▸ hch) oy hoy hry x h hxa o (by rw [hxi];exact ho)
      have hl:=hedge' e he1 he2
      rcases he3 with he3 | he3
      ·rw [he3,(hhd y r rfl).2] at hl
       cases hl
      ·obtain ⟨z,hz,hz2⟩:=List.mem_map.1 he3.1
       rcases hr z (List.mem_cons_of_mem _ hz) with h | h
       ·rw [<- hz2,h] at hl
        cases hl
       ·obtain ⟨u,hu,hu2⟩:=List.mem_map.1 h
        exact he3.2 (by rw [<- hz2,<- hu2];exact hpa u hu)
    obtain ⟨i',cs⟩:=y
    have hyi:i'=i:=hyi
    subst hyi
    rw [ho] at hoy
    cases hoy
    have hnb:numB i' (p :: pn)=none:=by
     cases h:numB i' (p :: pn) with
     | none=>rfl
     | some m=>exact absurd (List.mem_map_of_mem (f:=(·.1)) (numB_mem h)) hia
    simp only [regE,ho,hry,hnb] at hq
    obtain ⟨_,hq2⟩:=hpn.nf ▸ hq f
    obtain ⟨n1,n2,n3⟩:=float_nodup hnd hp
    obtain ⟨o',ho',hlo⟩:=linOk_spec (hp ▸ hlin)
    rw [ho] at ho'
    cases ho'
    have hev:∀ y ∈ o.op.operands,a.eval y=b.eval y:=fun y hy=>hn.eval fun t ht hD=>by
     subst ht
     rcases hD with ⟨x,hx,h1,o2,ho2,hd2⟩ | ⟨x,hx,h1,o2,ho2,hd2⟩
     ·obtain ⟨e,he1,he2,he3⟩:=(ssaOk_spec hssa (j:=x.1) (p:=o2) ho).2 ho2 t hd2 hy
      have:=hedge' e he1 he2
      rw [he3,h1] at this
      cases this
     ·obtain ⟨e,he1,he2,he3⟩:=(ssaOk_spec hssa (j:=x.1) (p:=o2) ho).2 ho2 t hd2 hy
      rcases hlo e he1 he2 with h | h
      ·cases h
      ·obtain ⟨z,hz,hz2⟩:=List.mem_map.1 h
       have h3:=hcv x hx
       rw [List.map_cons] at h3
       rcases List.mem_cons.1 h3 with e1 | h1
       ·exact n1 z hz (hz2.trans (he3.trans e1))
       ·obtain ⟨u,hu,hu2⟩:=List.mem_map.1 h1
        exact n3 z hz u hu (hz2.trans (he3.trans hu2.symm))
    refine wp_near2 hn hev hsel (opQ_wp sr hq2 fun β' φ' w' st' v z le sr' henv hv hvn hK c hnc hct=>?_)
    have sr2:=sr'.putO (d:=o.dst) (r:=v) (x:=z) (fun t ht=>(hs1 i' o ho).1.1 t ht) (fun u hu=>hv u hu)
    have hpo:(st'.putO o.dst v).next=st'.next /\ ∀ k,(st'.putO o.dst v).obj k=st'.obj k:=by
     unfold St.putO
     cases o.dst <;> cases v <;> exact ⟨rfl,fun _=>rfl⟩
    have hxne:∀ x ∈ p :: pn,x.1 ≠ i':=fun x hx e=>hia (e ▸ List.mem_map_of_mem hx)
    have hpn2:Pn P ops (listed.setIfInBounds i' true) B (st'.putO o.dst v) β' φ' c w' f (p :: pn):=⟨hpn.nf,hpn.nd1,hpn.nd2,fun x hx=>by
     obtain ⟨g1,g2,g3,ox,tx,dsx,dx,g4,g5,g6,g7,g8⟩:=hpn.all x hx
     rw [hpo.1,hpo.2,alike_ctx hpo.1 hpo.2,hne _ (hxne x hx)]
     refine ⟨Nat.lt_of_lt_of_le g1 le.next,g2,keepB_mem hK.1 x hx,ox,tx,dsx,dx,g4,g5,g6,g7,g8.imp id fun ⟨q1,q2,zx,q3,q4⟩=>⟨q1,q2,zx,(hct dx fun e=>hxne x hx (uniq_of hok g4 ho g7 (by rw [g7,e]))).trans q3,q4.mono le⟩⟩⟩
    have hp':pi=(pre ++ [(i',cs)]) ++ r:=by rw [hp];simp
    obtain ⟨r2,pre2,pn2,ks2,u1,u2,u3,u4,u5,s3,b3,u6,u7,u8,u9,u10,u11,u12⟩:=early_adv (P:=P) (listed:=listed.setIfInBounds i' true) (c:=c) hok hnd hlin hsix hssa hcl' r (pre ++ [(i',cs)]) (p :: pn) ks hp' (fun x hx=>by
      rw [hne _ (n2 x hx)]
      exact hr x (List.mem_cons_of_mem _ hx)) (fun x hx o2 ho2 hr2=>by
      rcases List.mem_append.1 hx with hx | hx
      ·rw [hne _ (n1 x hx)];exact hpre x hx o2 ho2 hr2
      ·rw [List.mem_singleton.1 hx];exact hset) sr2 (hnc.mono fun t h=>h.imp (fun ⟨x,hx,e1,e2⟩=>⟨x,List.mem_append_left _ hx,by rw [hne _ (n1 x hx)];exact e1,e2⟩) fun ⟨x,hx,e1,e2⟩=>⟨x,hx,by rw [hne _ (hxne x hx)];exact e1,e2⟩) (fun x hx hxl=>by
      rcases List.mem_append.1 hx with hx | hx
      ·rw [hne _ (n1 x hx)] at hxl
       obtain ⟨ox,hox⟩:=hpos x (by rw [hp];exact List.mem_append_left _ hx)
       have hrx:readV ox=true:=by
        cases h:readV ox with
        | true=>rfl
        | false=>have:=hpre x hx ox hox h;rw [hxl] at this;cases this
       rcases sixOk_spec (hp ▸ hsix) o ho hry x.1 (.inr (List.mem_map_of_mem hx)) ox hox hrx with h | h
       ·exact chk_mem hK.2.1 h
       ·have:=ancB_listed hcl _ _ _ h (fun o' ho'=>by
         rw [ho] at ho'
         cases ho'
         exact hedge')
        rw [hxl] at this
        cases this
      ·rw [List.mem_singleton.1 hx,hset] at hxl
       cases hxl) hpn2 (fun _ x hx o2 ho2 hr2=>by
      rcases List.mem_append.1 hx with hx | hx
      ·exact hks (by simp) x hx o2 ho2 hr2
      ·rw [List.mem_singleton.1 hx,ho] at ho2
       cases ho2
       rw [hry] at hr2
       cases hr2) (fun x hx=>by
      have h3:=hcv x hx
      rw [List.map_cons] at h3
      exact (List.mem_cons.1 h3).resolve_left (hxne x hx)) hK.2.2
    exact hfin r2 pre2 pn2 ks2 u1 u2 u3 u4 (fun j hj=>by
     rcases hal' j hj with h | h
     ·exact u5.1 j h
     ·exact .inr h) (fun x hx=>hpa x (u5.2 x hx)) u6 u7 u8 u9 u10 u11 u12

def roomN:Nat -> St -> St
 | 0,st=>st
 | k + 1,st=>roomN k (st.addObj .hole)
def numsB:List Nat -> Nat -> List (Nat × Nat)
 | [],_=>[]
 | i :: al,n=>(i,n) :: numsB al (n + 1)
def varsOk (P:Program) (ops:Array Oper) (al:List Nat):Bool:=decide al.Nodup && al.all fun i=>match ops[i]? with
 | some o=>o.dst.isSome && (earlyOf P o.op).isSome
 | none=>false
def floatOkE (P:Program) (ops:Array Oper) (pi:List (Nat × List Nat)) (al:List Nat):Bool :=
 (List.range ops.size).all (fun i=>(pi.map (·.1)).contains i) && decide (pi.map (·.1)).Nodup && linOk ops [] pi && chainOk ops al pi && sixOk ops [] pi && ssaOk ops && varsOk P ops al
theorem SR.hole (h:SR B N st β φ a w):∃ β' φ',SR B N (st.addObj .hole) β' φ' a w :=
 ⟨_,_,(h.add .hole (β st.next) [] (Frm.refl w _) (by simp) (by simp) (fun le=>by
  unfold ObjRel
  rw [show ((st.addObj .hole).ctx w (upd β st.next (β st.next)) (upd φ st.next [])).ob st.next=.hole from St.obj_addObj_same st _]
  exact upd_same ..)).2⟩
theorem roomN_spec:∀ (k:Nat) {st:St} {β:Nat -> Info} {φ:Nat -> List Nat},SR B N st β φ a w -> ∃ β' φ',SR B N (roomN k st) β' φ' a w /\ (roomN k st).next=st.next + k /\ (∀ m,st.next <= m -> m < st.next + k -> (roomN k st).obj m=.hole) /\ ∀ m,m < st.next -> (roomN k st).obj m=st.obj m
 | 0,st,β,φ,h=>⟨β,φ,h,rfl,fun m h1 h2=>by omega,fun _ _=>rfl⟩
 | k + 1,st,β,φ,h=>by
  obtain ⟨β1,φ1,h1⟩:=h.hole
  obtain ⟨β2,φ2,h2,h3,h4,h5⟩:=roomN_spec k h1
  have hn:(st.addObj .hole).next=st.next + 1:=rfl
  rw [hn] at h3 h4 h5
  refine ⟨β2,φ2,h2,by show (roomN k (st.addObj .hole)).next=_;rw [h3];omega,fun m g1 g2=>?_,fun m g=>?_⟩
  ·by_cases e:m=st.next
   ·subst e
    show (roomN k (st.addObj .hole)).obj _=_
    rw [h5 _ (by omega)]
    exact St.obj_addObj_same st _
   ·exact h4 m (by omega) (by omega)
  ·show (roomN k (st.addObj .hole)).obj m=_
   rw [h5 m (by omega)]
   exact St.obj_addObj_ne st _ (by omega)
theorem numsB_fst:∀ (al:List Nat) (n:Nat),(numsB al n).map (·.1)=al
 | [],_=>rfl
 | i :: al,n=>by
  show i :: (numsB al (n + 1)).map (·.1)=_
  rw [numsB_fst al (n + 1)]
theorem numsB_snd:∀ (al:List Nat) (n:Nat),(∀ x ∈ numsB al n,n <= x.2 /\ x.2 < n + al.length) /\ ((numsB al n).map (·.2)).Nodup
 | [],_=>⟨fun x hx=>(by cases hx),List.nodup_nil⟩
 | i :: al,n=>by
  obtain ⟨h1,h2⟩:=numsB_snd al (n + 1)
  refine ⟨fun x hx=>?_,?_⟩
  ·rcases List.mem_cons.1 hx with e | hx
   ·subst e;exact ⟨Nat.le_refl _,by simp⟩
   ·have:=h1 x hx
    rw [List.length_cons]
    omega
  ·show (n :: (numsB al (n + 1)).map (·.2)).Nodup
   rw [List.nodup_cons]
   refine ⟨fun h=>?_,h2⟩
   obtain ⟨x,hx,e⟩:=List.mem_map.1 h
   have:=(h1 x hx).1
   omega
def FloatE0 (P:Program) (ops:Array Oper) (st:St) (K:St -> Prop):Prop:=∃ pi al,floatOkE P ops pi al=true /\ regE P ops pi (numsB al st.next) [] (roomN al.length st) K
theorem floatE0_wp {ops:Array Oper} {id:Nat} {Q:Exit -> Act -> World -> Prop} {K:St -> Prop} (hm:P.follows .mixedOrders=true) (hok:drawOk ops N=true)
  (hQ:∀ st' β φ a w,SR B N st' β φ a w -> K st' -> Q .normal a w) (h:SR B N st β φ a w) (hq:FloatE0 P ops st K):RegW P id ops true Q a w:=by
 obtain ⟨pi,al,hf,hq⟩:=hq
 unfold floatOkE at hf
 simp only [Bool.and_eq_true,decide_eq_true_eq] at hf
 obtain ⟨⟨⟨⟨⟨⟨f1,f2⟩,f3⟩,f4⟩,f5⟩,f6⟩,f7⟩:=hf
 have hall:∀ i,i < ops.size -> i ∈ pi.map (·.1):=fun i hi=>by
  have:=List.all_eq_true.1 f1 i (List.mem_range.2 hi)
  simpa using this
 have hf:∀ k,k < ops.size -> (Array.replicate ops.size false).getD k true=false:=fun k hk=>by
  rw [Array.getD_eq_getD_getElem?,Array.getElem?_eq_getElem (by simpa using hk)]
  simp
 have hpos:∀ x ∈ pi,x.1 < ops.size:=fun x hx=>by
  obtain ⟨A,C,hA⟩:=List.append_of_mem hx
  obtain ⟨o,ho,_⟩:=linOk_spec (hA ▸ f3)
  exact (Array.getElem?_eq_some_iff.1 ho).1
 unfold varsOk at f7
 simp only [Bool.and_eq_true,decide_eq_true_eq] at f7
 have hvar:∀ i ∈ al,∃ o t ds d,ops[i]?=some o /\ earlyV o.op=true /\ earlyOf P o.op=some (t,ds) /\ o.dst=some d:=fun i hi=>by
  have h1:=List.all_eq_true.1 f7.2 i hi
  split at h1
  ·rename_i o ho
   simp only [Bool.and_eq_true] at h1
   obtain ⟨d,hd⟩:=Option.isSome_iff_exists.1 h1.1
   obtain ⟨⟨t,ds⟩,hz⟩:=Option.isSome_iff_exists.1 h1.2
   exact ⟨o,t,ds,d,ho,earlyOf_V hz,hz,hd⟩
  ·cases h1
 have hsz:(Array.replicate ops.size false).size=ops.size:=by simp
 have hcl:∀ (j:Nat) (o:Oper),ops[j]?=some o -> (Array.replicate ops.size false).getD j true=true -> ∀ e ∈ o.after,Region.binds .any e=true -> (Array.replicate ops.size false).getD e.on true=true :=
  fun j o ho hj=>absurd hj (by rw [hf j (Array.getElem?_eq_some_iff.1 ho).1];simp)
 obtain ⟨β1,φ1,sr1,hn1,ho1,_⟩:=roomN_spec al.length h.drew.2
 obtain ⟨hs1,hs2⟩:=numsB_snd al st.next
 have hpn:Pn P ops (Array.replicate ops.size false) B (roomN al.length st) β1 φ1 a w.drew (fun _=>.hole) (numsB al st.next):=⟨rfl,by rw [numsB_fst];exact f7.1,hs2,fun x hx=>by
  obtain ⟨g1,g2⟩:=hs1 x hx
  have hxa:x.1 ∈ al:=by rw [<- numsB_fst al st.next];exact List.mem_map_of_mem hx
  obtain ⟨o,t,ds,d,q1,q2,q3,q4⟩:=hvar _ hxa
  exact ⟨by rw [hn1];exact g2,Nat.le_trans h.init.1 g1,ho1 _ g1 g2,o,t,ds,d,q1,q2,q3,q4,.inl ⟨hf _ (Array.getElem?_eq_some_iff.1 q1).1,rfl⟩⟩⟩
 obtain ⟨r2,pre2,pn2,ks2,u1,u2,u3,u4,u5,s3,b3,u6,u7,u8,u9,u10,u11,u12⟩:=early_adv (P:=P) (listed:=Array.replicate ops.size false) (c:=a) hok f2 f3 f5 f6 hcl pi [] (numsB al st.next) [] rfl (fun x hx=>.inl (hf _ (hpos x hx))) (fun x hx=>by cases hx) sr1 (Near.refl _ a) (fun x hx=>by cases hx) hpn (fun _ x hx=>by cases hx) (fun x hx=>by
  have hxa:x.1 ∈ al:=by rw [<- numsB_fst al st.next];exact List.mem_map_of_mem hx
  obtain ⟨o,t,ds,d,q1,q2,q3,q4⟩:=hvar _ hxa
  exact hall _ (Array.getElem?_eq_some_iff.1 q1).1) hq
 refine regW_any hm (early_any hok hall f2 f3 f4 f5 f6 hQ ops.size _ (by simp) (cnt_replicate _ _ (Nat.le_refl _)) hcl r2 pre2 pn2 ks2 u1 u2 u3 u4 (fun i hi=>u5.1 i (by rw [numsB_fst];exact hi)) (fun x hx=>by
  have:=List.mem_map_of_mem (f:=(·.1)) (u5.2 x hx)
  rw [numsB_fst] at this
  exact this) (u6.setB fun x hx=>(u9.all x hx).2.2.1) u7 (fun x hx hxl=>?_) u9.toB u10 u11 u12)
 cases pn2 with
 | nil=>exact u8 x hx hxl
 | cons q pn2 =>
  cases r2 with
  | nil=>have:=u11 q (List.mem_cons_self ..);simp at this
  | cons y r2 =>
   have hxp:=hpos x (by rw [u1];exact List.mem_append_left _ hx)
   have hrx:readV ops[x.1]=true:=by
    cases h:readV ops[x.1] with
    | true=>rfl
    | false=>have:=u3 x hx _ (Array.getElem?_eq_getElem hxp) h;rw [hxl] at this;cases this
   exact chk_mem (regE_chk (i:=y.1) (cs:=y.2) u12 (u4 y r2 rfl).1 _ u9.nf) (u10 (by simp) x hx _ (Array.getElem?_eq_getElem hxp) hrx)
def FloatE (P:Program) (ops:Array Oper) (st:St) (K:St -> Prop):Prop:=FloatE0 P ops st K \/ ∃ k i j sz rows s2 rs,st.obj k=.vec sz true rows /\ i < rows.length /\ j < sz /\ (rows.getD i []).getD j default=.sl s2 rs /\ ∀ v:Value,FloatE0 P ops (openSt st k i j sz rows s2 rs v) K
theorem floatE_wp {ops:Array Oper} {id:Nat} {Q:Exit -> Act -> World -> Prop} {K:St -> Prop} (hm:P.follows .mixedOrders=true) (hok:drawOk ops N=true)
  (hQ:∀ st' β φ a w,SR B N st' β φ a w -> K st' -> Q .normal a w) (h:SR B N st β φ a w) (hq:FloatE P ops st K):RegW P id ops true Q a w:=by
 rcases hq with hq | ⟨k,i,j,sz,rows,s2,rs,hk,hi,hj,hd,hq⟩
 ·exact floatE0_wp hm hok hQ h hq
 ·obtain ⟨_,v,_,_,β',φ',_,sr,_⟩:=h.openAny hk hi hj hd
  exact floatE0_wp hm hok hQ sr (hq v)
def isExt:Op -> Bool
 | .extract ..=>true
 | _=>false
def isStore:Op -> Bool
 | .store ..=>true
 | _=>false
def isCopy:Op -> Bool
 | .call { callee:=.builtin .copy,.. }=>true
 | _=>false
def memN (t:Nat):List Nat -> Bool
 | []=>false
 | x :: r=>if t=x then true else memN t r
def putD (d:Option Tmp) (ls:List Nat):List Nat:=match d with
 | some d=>d :: ls
 | none=>ls
def appOf (ls:List Nat):Op -> Bool
 | .call { callee:=.builtin .append,args,.. }=>match args.toList with
  | .tmp t :: _=>memN t ls
  | _=>false
 | _=>false
def isGlob:Op -> Bool
 | .indexAddr _ (.global _) _=>true
 | _=>false
def floatL:List Oper -> List Nat -> List Nat -> Bool -> Bool -> Bool -> Nat -> Bool -> Bool
 | [],_,_,_,_,_,_,_=>false
 | o :: r,ls,es,c,n,s,x,a=>match (appOf ls o.op && c) || (appOf es o.op && (!c || n)) || (callV o.op && c && !ls.isEmpty && decide (o.type=0)) || (isStore o.op && (s || decide (2 <= x)) && !ls.isEmpty) || (isMake o.op && c) || isGlob o.op with
  | true=>true
  | false=>floatL r (match isLoad o.op && !c with
   | true=>putD o.dst ls
   | false=>ls) (match lit0 o.op && !ls.isEmpty with
   | true=>putD o.dst es
   | false=>es) (c || callV o.op) (n || appOf es o.op) (s || isStore o.op) (match isExt o.op with
   | true=>x + 1
   | false=>x) (a || isAlloc o.op)
def planL:List Oper -> Bool
 | []=>false
 | o :: r=>bif isCopy o.op then true else planL r
def idxOf (as:List Nat):Op -> Bool
 | .indexAddr _ _ _=>true
 | .fieldAddr _ (.tmp t) _=>memN t as
 | _=>false
def loadOf (as:List Nat):Op -> Bool
 | .load _ (.tmp t)=>memN t as
 | _=>false
def lentL:List Oper -> List Nat -> List Nat -> Bool
 | [],_,_=>false
 | o :: r,as,ls=>bif appOf ls o.op then true else lentL r (bif idxOf as o.op then putD o.dst as else as) (bif loadOf as o.op then putD o.dst ls else ls)
def bindsG:Ground -> Bool
 | .textOnly _=>false
 | .gcOnly _=>false
 | _=>true
def onL (i:Nat):List Edge -> Bool
 | []=>false
 | e :: r=>bif (decide (e.on=i) && bindsG e.ground) then true else onL i r
def looseL:List Oper -> Nat -> Option Nat -> Bool
 | [],_,_=>false
 | o :: r,k,none=>bif (isStore o.op && decide (0 < k) && !onL (k - 1) o.after.toList) then true else looseL r (k + 1) (bif isStore o.op then some k else none)
 | o :: r,k,some i=>bif (!isStore o.op && !onL i o.after.toList) then true else looseL r (k + 1) (some i)
def giveOf (ls:List Nat):Op -> Bool
 | .call { callee:=.value _,args,.. }=>match args.toList with
  | .tmp t :: _=>memN t ls
  | _=>false
 | _=>false
def storeOf (ws:List Nat):Op -> Bool
 | .store _ _ (.tmp t)=>memN t ws
 | _=>false
def giveL:List Oper -> List Nat -> Bool -> List Nat -> Bool
 | [],_,_,_=>false
 | o :: r,ls,c,ws=>bif storeOf ws o.op then true else giveL r (bif isLoad o.op then putD o.dst ls else ls) (c || callV o.op) (bif (c && giveOf ls o.op) then putD o.dst ws else ws)
def freeL (ops:List Oper):Bool:=bif hardL ops 0 then false else bif looseL ops 0 none then true else giveL ops [] false []
def ptrT (P:Program) (t:TypeId):Bool:=match P.underlying t with
 | some (.pointer _)=>true
 | _=>false
def cellV (P:Program):Op -> Bool
 | .call { callee:=.value _,argTypes,.. }=>match argTypes.toList with
  | t :: _=>ptrT P t
  | []=>false
 | _=>false
def cellL (P:Program):List Oper -> Bool
 | []=>false
 | o :: r=>bif cellV P o.op then true else cellL P r
def drawZ (P:Program) (ops:Array Oper) (st:St) (Q:St -> Prop):Prop :=
 if planL ops.toList=true then PlanP P ops st Q else
 if onceL ops.toList 0=true then OnceP P ops st Q else
 if (bif floatL ops.toList [] [] false false false 0 false then true else lentL ops.toList [] [])=true then FloatE P ops st Q else
 if quietL ops.toList 0=true then (quietOk ops=true /\ regQ P ops ops.toList st Q) else
  if chainL ops.toList 0=true then (seqOk ops 0=true /\ regQ P ops ops.toList st Q) else
   if (bif hasMake ops.toList then twoMake ops.toList 0 else false)=true then (bringOk ops=true /\ drawM P ops ops.toList (resvM P ops.toList st) [] (resvMIds ops.toList st.next) Q) else
   if (bif freeL ops.toList then true else cellL P ops.toList)=true then FloatE P ops st Q else drawY P ops st Q
theorem drawZ_wp {ops:Array Oper} {id:Nat} {Q:Exit -> Act -> World -> Prop} {K:St -> Prop} (hm:P.follows .mixedOrders=true) (hok:drawOk ops N=true)
  (hQ:∀ st' β φ a w,SR B N st' β φ a w -> K st' -> Q .normal a w) (h:SR B N st β φ a w) (hq:drawZ P ops st K):RegW P id ops true Q a w:=by
 unfold drawZ at hq
 split at hq
 ·exact plan_wp hm hok hQ h hq
 split at hq
 ·exact once_wp hm hok hQ h hq
 split at hq
 ·exact floatE_wp hm hok hQ h hq
 split at hq
 ·exact quiet_wp hm hok hq.1 hQ h hq.2
 ·split at hq
  ·exact chain_wp hm hok hq.1 hQ h hq.2
  ·split at hq
   ·exact drawM_wp hm hok hq.1 hQ h hq.2
   ·split at hq
    ·exact floatE_wp hm hok hQ h hq
    ·exact drawY_wp hm hok hQ h hq
end
end Go.Abs
