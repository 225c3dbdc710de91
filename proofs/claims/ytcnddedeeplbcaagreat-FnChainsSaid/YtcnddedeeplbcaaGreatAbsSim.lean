/- A state stands where blocks that hold no cells turn; what is owned lies in cells; a state seen from here on. -/
import Derived.Test.YtcnddedeeplbcaaGreatAbsState
import Derived.RangeFuncFrom
namespace Go.Abs
set_option linter.unusedVariables false
set_option linter.unusedSimpArgs false

structure CellsSame (w w':World):Prop where
 size:w.heap.size <= w'.heap.size
 same:∀ (k:Nat) (o:Obj),w.heap[k]?=some o -> o.isCells=true -> w'.heap[k]?=some o

theorem CellsSame.cell {w w':World} (h:CellsSame w w') {b j:Nat} {v:Value} (hc:w.cell? ⟨b,j,none⟩=some v):w'.cell? ⟨b,j,none⟩=some v:=by
 obtain ⟨o,ho,hi⟩:=cells_of_cell hc
 exact (cell_congr ((h.same b o ho hi).trans ho.symm)).trans hc

mutual
theorem Rep.sim {w w':World} (hs:CellsSame w w'):∀ {d v S},Rep w d v S -> Rep w' d v S
 | _,_,_,.int k n=>.int k n
 | _,_,_,.bool b=>.bool b
 | _,_,_,.str s=>.str s
 | _,_,_,.hdr v h0=>.hdr v h0
 | _,_,_,.nil sz a cap=>.nil sz a cap
 | _,_,_,.sl sz rows b off cap vs S hb hsz hl hc hcap =>
  .sl sz rows b off cap vs S (Nat.lt_of_lt_of_le hb hs.size) hsz (RepL.sim hs hl) (fun j v hj=>hs.cell (hc j v hj)) hcap
theorem RepL.sim {w w':World} (hs:CellsSame w w'):∀ {ds vs S},RepL w ds vs S -> RepL w' ds vs S
 | _,_,_,.nil=>.nil
 | _,_,_,.cons h1 h2=>.cons (Rep.sim hs h1) (RepL.sim hs h2)
end

theorem Room.sim {w w':World} (hs:CellsSame w w') {vs:Array Value} {k n:Nat} (h:Room w vs k n):Room w' vs k n :=
 let ⟨h1,ds,h2⟩:=h
 ⟨h1,ds,h2.sim hs⟩

mutual
theorem Own.sim {w w':World} (hs:CellsSame w w'):∀ {d v S},Own w d v S -> Own w' d v S
 | _,_,_,.flat d v h hf=>.flat d v (h.sim hs) hf
 | _,_,_,.nil sz a=>.nil sz a
 | _,_,_,.sl sz rows b T cap cs S hh hsz hcap hroom hl=>.sl sz rows b T cap cs S (hs.same _ _ hh rfl) hsz hcap (hroom.sim hs) (OwnL.sim hs hl)
theorem OwnL.sim {w w':World} (hs:CellsSame w w'):∀ {ds vs S},OwnL w ds vs S -> OwnL w' ds vs S
 | _,_,_,.nil=>.nil
 | _,_,_,.cons h1 h2=>.cons (Own.sim hs h1) (OwnL.sim hs h2)
end

mutual
theorem Own.cells {w:World}:∀ {d v S},Own w d v S -> ∀ x ∈ S,∃ cs T,w.heap[x]?=some (.cells cs T (0,0))
 | _,_,_,.flat ..,_,h=>by cases h
 | _,_,_,.nil ..,_,h=>by cases h
 | _,_,_,.sl _ _ b T _ cs S hh _ _ _ hl,x,h=>by
  cases h with
  | head=>exact ⟨_,_,hh⟩
  | tail _ h=>exact OwnL.cells hl x h
theorem OwnL.cells {w:World}:∀ {ds vs S},OwnL w ds vs S -> ∀ x ∈ S,∃ cs T,w.heap[x]?=some (.cells cs T (0,0))
 | _,_,_,.nil,_,h=>by cases h
 | _,_,_,.cons h1 h2,x,h=>by
  rcases List.mem_append.1 h with h | h
  ·exact Own.cells h1 x h
  ·exact OwnL.cells h2 x h
end

section
variable {B:Base} {N:Nat} {st st':St} {β β':Nat -> Info} {φ φ':Nat -> List Nat} {a a':Act} {w w':World}

theorem PtrRel.sim (hs:CellsSame w w') {p:Ptr} {v:Value} (h:PtrRel (st.ctx w β φ) p v):PtrRel (st.ctx w' β φ) p v:=by
 cases p with
 | own o i j=>exact h
 | ro sz rows i j =>
  obtain ⟨b,off,vs,S,h1,h2,h3,h4,h5,h6⟩:=h
  exact ⟨b,off,vs,S,h1,Nat.lt_of_lt_of_le h2 hs.size,h3,RepL.sim hs h4,fun j v hj=>hs.cell (h5 j v hj),h6⟩

theorem LeafRel.sim (hs:CellsSame w w') {l:Leaf} {v:Value} (h:LeafRel (st.ctx w β φ) l v):LeafRel (st.ctx w' β φ) l v:=by
 cases l with
 | dat d=>obtain ⟨S,h1,h2⟩:=h;exact ⟨S,Rep.sim hs h1,h2⟩
 | emp=>exact h
 | own o=>exact h
 | part o i n=>exact h
 | ptr p=>exact PtrRel.sim hs h
 | fn f caps =>
  obtain ⟨cvs,h1,h2,h3⟩:=h
  exact ⟨cvs,h1,h2,fun k c hc=>let ⟨x,hx,hp⟩:=h3 k c hc;⟨x,hx,PtrRel.sim hs hp⟩⟩

theorem Leaves.sim (hs:CellsSame w w') {ls:List Leaf} {vs:List Value} (h:Leaves (st.ctx w β φ) ls vs):Leaves (st.ctx w' β φ) ls vs :=
 ⟨h.1,fun j l hl=>let ⟨v,hv,hp⟩:=h.2 j l hl;⟨v,hv,LeafRel.sim hs hp⟩⟩

theorem PVRel.sim (hs:CellsSame w w') {u:AV} {v:Value} (h:PVRel (st.ctx w β φ) u v):PVRel (st.ctx w' β φ) u v:=by
 cases u with
 | one l=>exact LeafRel.sim hs h
 | agg ls=>obtain ⟨vs,hv,hl⟩:=h;exact ⟨vs,hv,Leaves.sim hs hl⟩
 | tup vs=>exact h.elim
 | ifg b v=>exact h.elim

theorem AVRel.sim (hs:CellsSame w w') {u:AV} {v:Value} (h:AVRel (st.ctx w β φ) u v):AVRel (st.ctx w' β φ) u v:=by
 cases u with
 | one l=>exact PVRel.sim (u:=.one l) hs h
 | agg ls=>exact PVRel.sim (u:=.agg ls) hs h
 | tup vs=>obtain ⟨xs,h1,h2,h3⟩:=h;exact ⟨xs,h1,h2,fun j u hu=>let ⟨x,hx,hp⟩:=h3 j u hu;⟨x,hx,PVRel.sim hs hp⟩⟩
 | ifg b u=>exact ⟨fun hb=>PVRel.sim hs (h.1 hb),h.2⟩

def AObj.notBal:AObj -> Bool
 | .ballast _=>false
 | _=>true
def St.noBal (st:St):Bool:=st.objs.all fun p=>p.2.notBal

theorem noBal_obj:∀ {l:List (Nat × AObj)} (o:Nat),l.all (fun p=>p.2.notBal)=true -> ((find l o).getD .dead).notBal=true
 | [],_,_=>rfl
 | (k,x) :: r,o,h=>by
  simp only [List.all_cons,Bool.and_eq_true] at h
  unfold find
  by_cases e:o=k
  ·rw [if_pos e];exact h.1
  ·rw [if_neg e];exact noBal_obj o h.2

theorem ObjRel.sim (hs:CellsSame w w') {o:Nat} (hb:∀ b ∈ φ o,w'.heap[b]?=w.heap[b]?) (h:ObjRel (st.ctx w β φ) φ o):ObjRel (st.ctx w' β φ) φ o:=by
 revert h
 unfold ObjRel
 rw [show (st.ctx w β φ).ob o=st.obj o from rfl,show (st.ctx w' β φ).ob o=st.obj o from rfl]
 cases st.obj o with
 | dead=>exact fun h=>h
 | hole=>exact fun h=>h
 | ballast l=>exact fun ⟨h1,h2⟩=>⟨h1,fun x hx=>(hb x.1 (by rw [h1];exact List.mem_map_of_mem hx)).trans (h2 x hx)⟩
 | box cells=>exact fun ⟨b,T,vs,h1,h2,h3,h4⟩=>⟨b,T,vs,h1,h2,hs.same _ _ h3 rfl,Leaves.sim hs h4⟩
 | vec sz sep rows =>
  intro ⟨h1,h2,h3⟩
  refine ⟨h1,h2,?_⟩
  rcases h3 with h3 | ⟨b,T,S,E,vs,b1,b2,b3,b4,b5,b6⟩
  ·exact .inl h3
  ·refine .inr ⟨b,T,S,E,vs,b1,hs.same _ _ b2 rfl,b3.sim hs,b4.sim hs,b5,?_⟩
   cases sep with
   | true=>exact ⟨b6.1,b6.2.1,b6.2.2.sim hs⟩
   | false=>exact b6
 | pin k v=>exact fun ⟨h1,h2⟩=>⟨h1,LeafRel.sim hs h2⟩
 | wide sz n rows =>
  intro ⟨h1,h2,h4,h3⟩
  refine ⟨h1,h2,h4,?_⟩
  rcases h3 with h3 | ⟨b,T,vs,a1,a2,a3,E,a5⟩
  ·exact .inl h3
  ·exact .inr ⟨b,T,vs,a1,hs.same _ _ a2 rfl,a3.sim hs,E,a5⟩
 | frz sz rows=>exact fun ⟨h1,h2,S,h3,h4⟩=>⟨h1,h2,S,h3.sim hs,h4⟩

theorem SR.sim (h:SR B N st β φ a w) (hs:CellsSame w w') (hf:Frm B.w B.X w') (hb:∀ o,∀ b ∈ φ o,w'.heap[b]?=w.heap[b]?) (hd:Marks B φ a.defers w'):SR B N st β φ a w' :=
 ⟨h.size,hd,fun t v hv=>⟨(h.env t v hv).1,(h.env t v hv).2.sim hs⟩,h.dead,fun o=>(h.objs o).sim hs (hb o),h.nodup,h.disj,fun o b hb=>⟨Nat.lt_of_lt_of_le (h.fp o b hb).1 hs.size,(h.fp o b hb).2⟩,hf,h.init⟩

def isCellsAt (w:World) (b:Nat):Bool:=match w.heap[b]? with
 | some o=>o.isCells
 | none=>false

theorem ObjRel.cells {o:Nat} (hb:(st.obj o).notBal=true) (h:ObjRel (st.ctx w β φ) φ o):ObjRel (st.ctx w β fun o=>(φ o).filter (isCellsAt w)) (fun o=>(φ o).filter (isCellsAt w)) o:=by
 have le:(st.ctx w β φ).Le (st.ctx w β fun o=>(φ o).filter (isCellsAt w)) :=
  ⟨Nat.le_refl _,fun _ _ _=>rfl,fun b ⟨o,ho⟩=>.inl ⟨o,(List.mem_filter.1 ho).1⟩,fun o _ _=>⟨.refl _,fun _=>rfl⟩,Nat.le_refl _⟩
 have hc:∀ {b:Nat} {cs:Array Value} {T:TypeId} {fr:Nat × Nat},w.heap[b]?=some (.cells cs T fr) -> isCellsAt w b=true:=fun e=>by unfold isCellsAt;rw [e];rfl
 revert hb h
 unfold ObjRel
 rw [show (st.ctx w β φ).ob o=st.obj o from rfl,show (st.ctx w β fun o=>(φ o).filter (isCellsAt w)).ob o=st.obj o from rfl]
 cases st.obj o with
 | dead=>exact fun _ h=>by simp only at h ⊢;rw [h];rfl
 | hole=>exact fun _ h=>by simp only at h ⊢;rw [h];rfl
 | ballast l=>intro h;cases h
 | box cells=>exact fun _ ⟨b,T,vs,h1,h2,h3,h4⟩=>⟨b,T,vs,h1,by simp only [h2,List.filter_cons,hc h3,if_true,List.filter_nil],h3,h4.mono le⟩
 | vec sz sep rows =>
  intro _ ⟨h1,h2,h3⟩
  refine ⟨h1,h2,?_⟩
  rcases h3 with ⟨h3,h4⟩ | ⟨b,T,S,E,vs,b1,b2,b3,b4,b5,b6⟩
  ·exact .inl ⟨by simp only [h3];rfl,h4⟩
  ·refine .inr ⟨b,T,S,E.filter (isCellsAt w),vs,b1,b2,b3,b4,by simp only [b5,List.filter_cons,hc b2,if_true],?_⟩
   cases sep with
   | true=>exact ⟨b6.1,fun x hx=>List.mem_filter.2 ⟨b6.2.1 x hx,by obtain ⟨_,_,e⟩:=b6.2.2.cells x hx;exact hc e⟩,b6.2.2⟩
   | false=>exact fun x hx hm=>b6 x hx (by obtain ⟨o,ho⟩:=hm;exact ⟨o,(List.mem_filter.1 ho).1⟩)
 | pin k v=>exact fun _ ⟨h1,h2⟩=>⟨by simp only at h1 ⊢;rw [h1];rfl,LeafRel.mono le h2⟩
 | wide sz n rows =>
  intro _ ⟨h1,h2,h4,h3⟩
  refine ⟨h1,h2,h4,?_⟩
  rcases h3 with ⟨h3,h5⟩ | ⟨b,T,vs,a1,a2,a3,E,a5⟩
  ·exact .inl ⟨by simp only [h3];rfl,h5⟩
  ·exact .inr ⟨b,T,vs,a1,a2,a3,E.filter (isCellsAt w),by simp only [a5,List.filter_cons,hc a2,if_true]⟩
 | frz sz rows=>exact fun _ ⟨h1,h2,S,h3,h4⟩=>⟨by simp only at h1 ⊢;rw [h1];rfl,h2,S,h3,fun x hx hm=>h4 x hx (by obtain ⟨o,ho⟩:=hm;exact ⟨o,(List.mem_filter.1 ho).1⟩)⟩

theorem SR.cells (h:SR B N st β φ a w) (hb:st.noBal=true):SR B N st β (fun o=>(φ o).filter (isCellsAt w)) a w:=by
 have le:(st.ctx w β φ).Le (st.ctx w β fun o=>(φ o).filter (isCellsAt w)) :=
  ⟨Nat.le_refl _,fun _ _ _=>rfl,fun b ⟨o,ho⟩=>.inl ⟨o,(List.mem_filter.1 ho).1⟩,fun o _ _=>⟨.refl _,fun _=>rfl⟩,Nat.le_refl _⟩
 exact ⟨h.size,h.defers.mono (fun D _ hD=>⟨rfl,fun o ho=>hD o (List.mem_filter.1 ho).1⟩),fun t v hv=>⟨(h.env t v hv).1,(h.env t v hv).2.mono le⟩,h.dead,fun o=>(h.objs o).cells (noBal_obj o hb),
  fun o=>(h.nodup o).filter _,fun o o' hne b hb hb'=>h.disj o o' hne b (List.mem_filter.1 hb).1 (List.mem_filter.1 hb').1,fun o b hb=>h.fp o b (List.mem_filter.1 hb).1,h.frame,h.init⟩

def baseAt (B:Base) (w:World) (β:Nat -> Info) (φ:Nat -> List Nat) (hg:GlobOk w (fun b=>∃ o,b ∈ φ o)):Base:=⟨w,fun b=>∃ o,b ∈ φ o,B.n,β,hg⟩

theorem SR.here (h:SR B N st β φ a w):SR (baseAt B w β φ h.glob) N st β φ { a with defers:=[] } w :=
 ⟨h.size,Marks.nil,h.env,h.dead,h.objs,h.nodup,h.disj,fun o b hb=>⟨(h.fp o b hb).1,.inl ⟨o,hb⟩⟩,Frm.refl _ _,h.init.1,fun _ _=>rfl⟩

theorem SR.back (h:SR B N st β φ a w) {hg:GlobOk w (fun b=>∃ o,b ∈ φ o)} (h':SR (baseAt B w β φ hg) N st' β' φ' a' w') {a2:Act} (hsz:a2.tmps.size=N) (ha:∀ t v,find st'.env t=some v -> a2.tmps[t]?=a'.tmps[t]?) (hd:Marks B φ' a2.defers w'):SR B N st' β' φ' a2 w' :=
 ⟨hsz,hd,fun t v hv=>⟨(h'.env t v hv).1,by
   have:=(h'.env t v hv).2
   rw [Array.getD_eq_getD_getElem?] at this ⊢
   rw [ha t v hv];exact this⟩,h'.dead,h'.objs,h'.nodup,h'.disj,fun o b hb=>⟨(h'.fp o b hb).1,by
  rcases (h'.fp o b hb).2 with ⟨o1,h1⟩ | h1
  ·exact (h.fp o1 b h1).2
  ·exact .inr (Nat.le_trans h.frame.size h1)⟩,
  h.frame.trans h'.frame (fun b hb ⟨o1,h1⟩=>by
   rcases (h.fp o1 b h1).2 with h2 | h2
   ·exact h2
   ·omega),h'.init.1,fun o ho=>(h'.init.2 o ho).trans (h.init.2 o ho)⟩

theorem Marks.on (h:SR B N st β φ a w) {hg:GlobOk w (fun b=>∃ o,b ∈ φ o)} (h':SR (baseAt B w β φ hg) N st' β' φ' a' w') {ds:List Deferred} (hd:Marks B φ ds w):Marks B φ' ds w' :=
 hd.mono fun D hlt hD=>⟨h'.frame.block D hlt (fun ⟨o,ho⟩=>hD o ho),fun o ho=>by
  rcases (h'.fp o D ho).2 with ⟨o1,h1⟩ | h1
  ·exact hD o1 h1
  ·have:w.heap.size <= D:=h1
   omega⟩
end
end Go.Abs
