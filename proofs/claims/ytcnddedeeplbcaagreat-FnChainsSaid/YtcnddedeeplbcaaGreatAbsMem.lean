/- Types as the abstract operations see them; loads and stores on abstract states. -/
import Derived.Test.YtcnddedeeplbcaaGreatAbsState
namespace Go.Abs
set_option linter.unusedVariables false

section types
variable (P:Program)

def aggD:TypeDesc -> Bool
 | .struct _ | .array _ _=>true
 | _=>false

def tl (t:TypeId):Option (Bool × Nat) :=
 match P.underlying t,P.info? t with
 | some d,some i=>some (aggD d,i.size)
 | _,_=>none

def te (t:TypeId):Option (TypeId × Nat × Nat) :=
 match P.underlying t with
 | some (.slice e)=>(P.info? e).map fun i=>(e,i.size,i.bytes)
 | _=>none

def ta (t:TypeId):Option (Nat × TypeId × Nat) :=
 match P.underlying t with
 | some (.array n e)=>(P.info? e).map fun i=>(n,e,i.size)
 | _=>none

def tf (t:TypeId) (f:Nat):Option (Nat × Bool × Nat) :=
 match P.underlying t with
 | some (.struct fs) =>
  match fs[f]? with
  | some fd =>
   match tl P fd.type with
   | some (b,s)=>if s=0 then none else some (fd.offset,b,s)
   | none=>none
  | none=>none
 | _=>none

def zmatch:D -> Value -> Bool
 | .int k n,.int k' n'=>decide (k=k') && decide (n=n')
 | .bool b,.bool b'=>b == b'
 | .str s,.string s'=>decide (s.data=s'.data)
 | .sl _ [],.slice none 0 0=>true
 | _,_=>false

def zmatchL:List D -> List Value -> Bool
 | [],[]=>true
 | d :: ds,v :: vs=>zmatch d v && zmatchL ds vs
 | _,_=>false

def zD:Nat -> TypeId -> Option (List D)
 | 0,_=>none
 | k + 1,t =>
  match P.underlying t with
  | some .bool=>some [.bool false]
  | some (.int i)=>some [.int i 0]
  | some .string=>some [.str .empty]
  | some (.slice e)=>(P.info? e).map fun i=>[.sl i.size []]
  | some (.struct fs)=>fs.toList.foldr (fun f acc=>match zD k f.type,acc with | some a,some b=>some (a ++ b) | _,_=>none) (some [])
  | some (.array n e)=>(zD k e).map fun a=>(List.replicate n a).flatten
  | _=>none

def tz (t:TypeId):Option (List D) :=
 match zD P 8 t,(P.info? t).bind (·.zero),P.info? t with
 | some ds,some v,some i=>if zmatchL ds v.cells.toList && decide (v.cells.size=i.size) then some ds else none
 | _,_,_=>none

end types

section
variable {P:Program} {w:World}

theorem tl_spec {t:TypeId} {b:Bool} {s:Nat} (h:tl P t=some (b,s)):(isAgg t).run P w=.ok b w /\ (sizeOf t).run P w=.ok s w /\ (P.info? t).map (·.size)=some s:=by
 unfold tl at h
 split at h
 ·rename_i d i hd hi
  cases h
  refine ⟨?_,by simp [sizeOf,typeInfo,hi],by simp [hi]⟩
  cases d <;> simp [isAgg,run_underlying hd,aggD]
 ·cases h

theorem te_spec {t e:TypeId} {s y:Nat} (h:te P t=some (e,s,y)):P.underlying t=some (.slice e) /\ ∃ i,P.info? e=some i /\ i.size=s /\ i.bytes=y:=by
 unfold te at h
 split at h
 ·rename_i e' he
  cases hi:P.info? e' with
  | none=>rw [hi] at h;cases h
  | some i=>rw [hi] at h;cases h;exact ⟨he,i,hi,rfl,rfl⟩
 ·cases h

theorem ta_spec {t e:TypeId} {n s:Nat} (h:ta P t=some (n,e,s)):P.underlying t=some (.array n e) /\ ∃ i,P.info? e=some i /\ i.size=s:=by
 unfold ta at h
 split at h
 ·rename_i n' e' he
  cases hi:P.info? e' with
  | none=>rw [hi] at h;cases h
  | some i=>rw [hi] at h;cases h;exact ⟨he,i,hi,rfl⟩
 ·cases h

theorem tf_spec {t:TypeId} {f off s:Nat} {b:Bool} (h:tf P t f=some (off,b,s)) :
  ∃ fs fd,P.underlying t=some (.struct fs) /\ fs[f]?=some fd /\ fd.offset=off /\ tl P fd.type=some (b,s) /\ s ≠ 0:=by
 unfold tf at h
 split at h
 ·rename_i fs hfs
  split at h
  ·rename_i fd hfd
   split at h
   ·rename_i b' s' hb
    split at h
    ·cases h
    ·cases h;exact ⟨fs,fd,hfs,hfd,rfl,hb,by assumption⟩
   ·cases h
  ·cases h
 ·cases h

theorem zmatch_rep {d:D} {v:Value} (h:zmatch d v=true):Rep w d v []:=by
 unfold zmatch at h
 split at h
 ·rename_i k n k' n'
  simp at h
  obtain ⟨rfl,rfl⟩:=h
  exact .int _ _
 ·rename_i b b'
  simp at h
  subst h
  exact .bool _
 ·rename_i s s'
  simp at h
  have:s=s':=by cases s;cases s';simp_all
  subst this
  exact .str _
 ·exact .nil _ _ _
 ·cases h

theorem zmatchL_rep {w:World}:∀ {ds:List D} {vs:List Value},zmatchL ds vs=true -> RepL w ds vs []
 | [],[],_=>.nil
 | d :: ds,v :: vs,h=>by
  simp only [zmatchL,Bool.and_eq_true] at h
  have:=RepL.cons (zmatch_rep (w:=w) h.1) (zmatchL_rep (w:=w) h.2)
  simpa using this
 | [],_ :: _,h=>by simp [zmatchL] at h
 | _ :: _,[],h=>by simp [zmatchL] at h

theorem zmatch_own {d:D} {v:Value} (h:zmatch d v=true):Own w d v []:=by
 have hr:=zmatch_rep (w:=w) h
 unfold zmatch at h
 split at h
 ·exact .flat _ _ hr rfl
 ·exact .flat _ _ hr rfl
 ·exact .flat _ _ hr rfl
 ·exact .nil _ _
 ·cases h

theorem OwnL.of_zero {w:World}:∀ {ds:List D} {vs:List Value},zmatchL ds vs=true -> OwnL w ds vs []
 | [],[],_=>.nil
 | d :: ds,v :: vs,h=>by
  simp only [zmatchL,Bool.and_eq_true] at h
  have:=OwnL.cons (zmatch_own (w:=w) h.1) (OwnL.of_zero (w:=w) h.2)
  simpa using this
 | [],_ :: _,h=>by simp [zmatchL] at h
 | _ :: _,[],h=>by simp [zmatchL] at h

theorem OwnL.replicate {w:World} {ds:List D} {vs:List Value} (h:OwnL w ds vs []):∀ n:Nat,OwnL w (List.replicate n ds).flatten (List.replicate n vs).flatten []
 | 0=>.nil
 | n + 1=>by
  rw [List.replicate_succ,List.replicate_succ,List.flatten_cons,List.flatten_cons]
  simpa using h.append (OwnL.replicate h n)

theorem tz_spec {t:TypeId} {ds:List D} (h:tz P t=some ds):∃ i v,P.info? t=some i /\ i.zero=some v /\ RepL w ds v.cells.toList [] /\ v.cells.size=i.size /\ zmatchL ds v.cells.toList=true:=by
 unfold tz at h
 split at h
 ·rename_i ds' v i hd hv hi
  split at h
  ·cases h
   rename_i hz
   simp at hz
   rw [hi] at hv
   exact ⟨i,v,hi,hv,zmatchL_rep hz.1,hz.2,hz.1⟩
  ·cases h
 ·cases h
end

theorem flatten_length {rows:List (List D)} {sz:Nat} (h:∀ r ∈ rows,r.length=sz):rows.flatten.length=rows.length * sz:=by
 induction rows with
 | nil=>simp
 | cons r rows ih =>
  rw [List.flatten_cons,List.length_append,ih (fun x hx=>h x (List.mem_cons_of_mem _ hx)),h r (List.mem_cons_self ..),List.length_cons,Nat.add_mul,Nat.one_mul,Nat.add_comm]

theorem flatten_cut {rows:List (List D)} {sz i:Nat} (h:∀ r ∈ rows,r.length=sz) (hi:i < rows.length) {j s:Nat} (hj:j + s <= sz) :
  ∃ A E,rows.flatten=A ++ (((rows.getD i []).drop j).take s ++ E) /\ A.length=i * sz + j /\ (((rows.getD i []).drop j).take s).length=s /\
   ∀ ds:List D,ds.length=s -> (rows.set i ((rows.getD i []).take j ++ ds ++ (rows.getD i []).drop (j + s))).flatten=A ++ (ds ++ E):=by
 have hrow:rows.getD i []=rows[i]:=by simp [List.getD,List.getElem?_eq_getElem hi]
 have hlen:rows[i].length=sz:=h _ (List.getElem_mem hi)
 refine ⟨(rows.take i).flatten ++ rows[i].take j,rows[i].drop (j + s) ++ (rows.drop (i + 1)).flatten,?_,?_,?_,?_⟩
 ·rw [hrow]
  have e1:rows=rows.take i ++ rows[i] :: rows.drop (i + 1):=by rw [List.getElem_cons_drop,List.take_append_drop]
  have e2:rows[i]=rows[i].take j ++ ((rows[i].drop j).take s ++ rows[i].drop (j + s)):=by
   rw [show rows[i].drop (j + s)=(rows[i].drop j).drop s from by rw [List.drop_drop],List.take_append_drop,List.take_append_drop]
  conv=>lhs;rw [e1]
  rw [List.flatten_append,List.flatten_cons]
  conv=>lhs;rw [e2]
  simp only [List.append_assoc]
 ·rw [List.length_append,flatten_length (sz:=sz) (fun r hr=>h r (List.mem_of_mem_take hr)),List.length_take,List.length_take,hlen,Nat.min_eq_left (by omega),Nat.min_eq_left (by omega)]
 ·rw [hrow,List.length_take,List.length_drop,hlen];omega
 ·intro ds hd
  rw [hrow,List.set_eq_take_append_cons_drop,if_pos hi,List.flatten_append,List.flatten_cons]
  simp only [List.append_assoc]

theorem rows_cells {w:World} {rows:List (List D)} {sz b off:Nat} {vs:List Value} {S:List Nat} (h:∀ r ∈ rows,r.length=sz) (hl:RepL w rows.flatten vs S)
  (hc:∀ (j:Nat) (v:Value),vs[j]?=some v -> w.cell? ⟨b,off + j,none⟩=some v) {i j s:Nat} (hi:i < rows.length) (hj:j + s <= sz) :
  ∃ us S1,RepL w (((rows.getD i []).drop j).take s) us S1 /\ (∀ x ∈ S1,x ∈ S) /\ us.length=s /\ ∀ (k:Nat) (u:Value),us[k]?=some u -> w.cell? ⟨b,off + (i * sz + j) + k,none⟩=some u:=by
 obtain ⟨A,E,e1,e2,e3,_⟩:=flatten_cut h hi hj
 rw [e1] at hl
 obtain ⟨S1,S2,rfl,_,h2⟩:=RepL.split A hl
 obtain ⟨S3,S4,rfl,h3,_⟩:=RepL.split _ h2
 refine ⟨_,S3,h3,fun x hx=>List.mem_append_right _ (List.mem_append_left _ hx),by rw [h3.length,e3],fun k u hk=>?_⟩
 rw [e3] at hk
 have hks:k < s:=by
  have:=(List.getElem?_eq_some_iff.1 hk).1
  simp at this;omega
 rw [List.getElem?_take,if_pos hks,List.getElem?_drop,e2] at hk
 rw [Nat.add_assoc]
 exact hc _ _ hk

theorem leaves_of_repL {C:Ctx}:∀ {ds:List D} {us:List Value} {S:List Nat},RepL C.w ds us S -> (∀ x ∈ S,¬ C.M x) -> Leaves C (ds.map .dat) us
 | [],_,_,.nil,_=>⟨rfl,fun j l h=>by simp at h⟩
 | d :: ds,_,_,.cons (v:=v) h1 h2,hM=>by
  obtain ⟨a,b⟩:=leaves_of_repL h2 (fun x hx=>hM x (List.mem_append_right _ hx))
  refine ⟨by simp [a],fun j l hl=>?_⟩
  cases j with
  | zero=>simp at hl;subst hl;exact ⟨v,rfl,_,h1,fun x hx=>hM x (List.mem_append_left _ hx)⟩
  | succ j=>simp at hl;simpa using b j l (by simpa using hl)

theorem leaves_take {C:Ctx} {ls:List Leaf} {vs:List Value} (h:Leaves C ls vs) {j s:Nat} (hj:j + s <= ls.length):Leaves C ((ls.drop j).take s) ((vs.drop j).take s):=by
 obtain ⟨h1,h2⟩:=h
 refine ⟨by simp [h1],fun k l hk=>?_⟩
 have hks:k < s:=by
  have:=(List.getElem?_eq_some_iff.1 hk).1
  simp at this;omega
 rw [List.getElem?_take,if_pos hks,List.getElem?_drop] at hk ⊢
 exact h2 _ _ hk

def ldD (rows:List (List D)) (agg:Bool) (s i j:Nat):AV :=
 if agg then .agg ((((rows.getD i []).drop j).take s).map .dat) else .one (.dat ((rows.getD i []).getD j default))

def ldp (st:St) (agg:Bool) (s:Nat):Ptr -> Option (Prop × AV)
 | .own o i j =>
  match st.obj o with
  | .box cells=>some (if agg then (j + s <= cells.length,.agg ((cells.drop j).take s)) else (j < cells.length,.one (cells.getD j (cells.getD 0 .emp))))
  | .vec sz sep rows=>some (i < rows.length /\ j + s <= sz /\ (sep=true -> ∀ d ∈ ((rows.getD i []).drop j).take s,d.flat=true),ldD rows agg s i j)
  | .frz sz rows=>some (i < rows.length /\ j + s <= sz,ldD rows agg s i j)
  | .dead=>none
  | .hole=>none
  | .wide ..=>none
  | .pin ..=>none
  | .ballast _=>none
 | .ro sz rows i j=>some (i < rows.length /\ j + s <= sz,ldD rows agg s i j)

def At (C:Ctx) (agg:Bool) (s:Nat) (r:AV) (a:Addr):Prop :=
 if agg then ∃ us ls,r=.agg ls /\ us.length=s /\ Leaves C ls us /\ ∀ (k:Nat) (u:Value),us[k]?=some u -> C.w.cell? (a.add k)=some u
 else ∃ u l,r=.one l /\ C.w.cell? a=some u /\ LeafRel C l u

theorem at_of_rows {C:Ctx} {agg:Bool} {s i j sz b off:Nat} {rows:List (List D)} {vs:List Value} {S:List Nat} (hs1:agg=false -> s=1) (h:∀ r ∈ rows,r.length=sz) (hl:RepL C.w rows.flatten vs S)
  (hc:∀ (j:Nat) (v:Value),vs[j]?=some v -> C.w.cell? ⟨b,off + j,none⟩=some v) (hi:i < rows.length) (hj:j + s <= sz)
  (hM:∀ us S1,RepL C.w (((rows.getD i []).drop j).take s) us S1 -> (∀ x ∈ S1,x ∈ S) -> ∀ x ∈ S1,¬ C.M x):At C agg s (ldD rows agg s i j) ⟨b,off + (i * sz + j),none⟩:=by
 obtain ⟨us,S1,h1,h2,h3,h4⟩:=rows_cells h hl hc hi hj
 have hm:=hM us S1 h1 h2
 have hL:=leaves_of_repL h1 hm
 unfold At ldD
 cases agg with
 | true=>exact ⟨us,_,rfl,h3,hL,fun k u hk=>by rw [Addr.add_lit];exact h4 k u hk⟩
 | false =>
  have:=hs1 rfl;subst this
  obtain ⟨u,hu⟩:∃ u,us[0]?=some u:=⟨us[0]'(by omega),List.getElem?_eq_getElem _⟩
  have hrow:((rows.getD i []).drop j).take 1=[(rows.getD i []).getD j default]:=by
   have hlen:(rows.getD i []).length=sz:=h _ (by simp [List.getD,List.getElem?_eq_getElem hi])
   have hjl:j < (rows.getD i []).length:=by omega
   generalize rows.getD i []=row at *
   rw [List.drop_eq_getElem_cons hjl,List.getD_eq_getElem?_getD,List.getElem?_eq_getElem hjl]
   rfl
  rw [hrow] at hL
  obtain ⟨u',hu',hl'⟩:=hL.2 0 _ rfl
  rw [hu] at hu';cases hu'
  exact ⟨u,_,rfl,by simpa using h4 0 u hu,hl'⟩

section
variable {B:Base} {N:Nat} {st st':St} {β β':Nat -> Info} {φ φ':Nat -> List Nat} {a:Act} {w w':World}

theorem ldp_sound (h:SR B N st β φ a w) {p:Ptr} {v:Value} (hp:PtrRel (st.ctx w β φ) p v) {agg:Bool} {s:Nat} (hs1:agg=false -> s=1) {q:Prop} {r:AV} (hl:ldp st agg s p=some (q,r)) (hq:q) :
  ∃ x,v=.pointer (some x) /\ At (st.ctx w β φ) agg s r x:=by
 cases p with
 | own o i j =>
  obtain ⟨hn,hp⟩:=hp
  have ho:=h.objs o
  simp only [ldp] at hl
  unfold ObjRel at ho
  cases e:st.obj o with
  | dead=>rw [e] at hl;cases hl
  | hole=>rw [e] at hl;cases hl
  | pin k v=>rw [e] at hl;cases hl
  | ballast l=>rw [e] at hl;cases hl
  | wide sz n rows=>rw [e] at hl;cases hl
  | box cells =>
   rw [show (st.ctx w β φ).ob o=_ from e] at hp ho
   rw [e] at hl
   obtain ⟨b,hb,rfl⟩:=hp
   obtain ⟨b',T,vs,hb',hφ,hheap,hL⟩:=ho
   rw [hb] at hb'
   cases hb'
   refine ⟨_,rfl,?_⟩
   unfold At
   cases agg with
   | true =>
    simp only [if_true] at hl
    cases hl
    refine ⟨_,_,rfl,?_,leaves_take hL hq,fun k u hk=>?_⟩
    ·rw [List.length_take,List.length_drop,hL.1];omega
    ·have hks:k < s:=by
      have:=(List.getElem?_eq_some_iff.1 hk).1
      simp at this;omega
     rw [List.getElem?_take,if_pos hks,List.getElem?_drop] at hk
     rw [Addr.add_lit]
     refine (cell_of_heap hheap).trans ?_
     rw [<- Array.getElem?_toList]
     exact hk
   | false =>
    simp only [Bool.false_eq_true,if_false] at hl
    cases hl
    obtain ⟨u,hu,hl'⟩:=hL.2 j (cells[j]'hq) (List.getElem?_eq_getElem hq)
    refine ⟨u,_,rfl,?_,?_⟩
    ·refine (cell_of_heap hheap).trans ?_
     rw [<- Array.getElem?_toList]
     exact hu
    ·simpa [List.getD,List.getElem?_eq_getElem hq] using hl'
  | vec sz sep rows =>
   rw [show (st.ctx w β φ).ob o=_ from e] at hp ho
   rw [e] at hl
   simp only [Option.some.injEq,Prod.mk.injEq] at hl
   obtain ⟨rfl,rfl⟩:=hl
   obtain ⟨hi,hj,hflat⟩:=hq
   obtain ⟨b,hb,rfl⟩:=hp
   obtain ⟨hsz,hcap,ho⟩:=ho
   rcases ho with ⟨_,h0⟩ | ⟨b',T,S,E,vs,hb',hheap,hvs,hrep,hφ,hsep⟩
   ·omega
   ·rw [hb] at hb'
    cases hb'
    refine ⟨_,rfl,?_⟩
    have:=at_of_rows (C:=st.ctx w β φ) (agg:=agg) (s:=s) (i:=i) (j:=j) (b:=b) (off:=0) hs1 hsz hrep (fun j v hj=>by
     rw [Nat.zero_add]
     refine (cell_of_heap hheap).trans ?_
     rw [<- Array.getElem?_toList]
     rw [List.getElem?_take] at hj
     split at hj
     ·exact hj
     ·cases hj) hi hj (fun us S1 hr1 hS1 x hx=>?_)
    ·rw [Nat.zero_add] at this;exact this
    ·cases sep with
     | true=>rw [hr1.flat (hflat rfl)] at hx;cases hx
     | false=>exact hsep x (hS1 x hx)
  | frz sz rows =>
   rw [show (st.ctx w β φ).ob o=_ from e] at hp ho
   rw [e] at hl
   simp only [Option.some.injEq,Prod.mk.injEq] at hl
   obtain ⟨rfl,rfl⟩:=hl
   obtain ⟨hi,hj⟩:=hq
   obtain ⟨b,hb,rfl⟩:=hp
   obtain ⟨_,_,S,hrep,hM⟩:=ho
   refine ⟨_,rfl,?_⟩
   rw [hb] at hrep
   generalize hln:rows.length=ln at hrep
   cases hrep with
   | nil=>simp at hi
   | sl _ _ _ _ _ vs S hb' hsz hl hc =>
    have:=at_of_rows (C:=st.ctx w β φ) (agg:=agg) (s:=s) (i:=i) (j:=j) (b:=b) (off:=0) hs1 hsz hl hc hi hj (fun us S1 _ hS1 x hx=>hM x (List.mem_cons_of_mem _ (hS1 x hx)))
    rw [Nat.zero_add] at this
    exact this
 | ro sz rows i j =>
  obtain ⟨b,off,vs,S,rfl,_,hsz,hrep,hc,hM⟩:=hp
  simp only [ldp,Option.some.injEq,Prod.mk.injEq] at hl
  obtain ⟨rfl,rfl⟩:=hl
  exact ⟨_,rfl,at_of_rows (C:=st.ctx w β φ) hs1 hsz hrep hc hq.1 hq.2 (fun us S1 _ hS1 x hx=>hM x (List.mem_cons_of_mem _ (hS1 x hx)))⟩

theorem run_at {P:Program} {C:Ctx} {t:TypeId} {agg:Bool} {s:Nat} {r:AV} {x:Addr} (ht:tl P t=some (agg,s)) (h:At C agg s r x) :
  ∃ u,(loadVar t x).run P C.w=.ok u C.w /\ PVRel C r u:=by
 obtain ⟨h1,h2,_⟩:=tl_spec (P:=P) (w:=C.w) ht
 unfold At at h
 cases agg with
 | true =>
  obtain ⟨us,ls,rfl,hlen,hL,hc⟩:=h
  subst hlen
  refine ⟨.agg us.toArray,?_,us.toArray,rfl,by simpa using hL⟩
  have:=run_loadCells_list (P:=P) C.w x us hc
  simp [loadVar,h1,h2,this]
 | false =>
  obtain ⟨u,l,rfl,hc,hL⟩:=h
  exact ⟨u,by simp [loadVar,h1,hc],hL⟩
end
end Go.Abs
