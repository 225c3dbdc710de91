/- A loop over a function, over abstract states: its parts that name no code. -/
import Derived.Test.YtcnddedeeplbcaaGreatAbsEarly
import Derived.Test.YtcnddedeeplbcaaGreatAbsSim
import Derived.RangeFuncLeaves
namespace Go.Abs
open Go.RowKit
set_option linter.unusedVariables false
set_option linter.unusedSimpArgs false

def encZ (z:Int):List D:=[.int .i64 z]

def Reads (bs:Nat) (zs:List Int) (W:World):Prop:=∃ T sv S,W.heap[bs]?=some (.cells #[sv] T (0,0)) /\ Rep W (.sl 1 (zs.map encZ)) sv S

theorem Reads.sim {bs:Nat} {zs:List Int} {w w':World} (hs:CellsSame w w') (h:Reads bs zs w):Reads bs zs w' :=
 let ⟨T,sv,S,h1,h2⟩:=h
 ⟨T,sv,S,hs.same _ _ h1 rfl,h2.sim hs⟩

theorem Reads.below {bs:Nat} {zs:List Int} {w w':World} (hs:Below w.heap.size w w') (h:Reads bs zs w):Reads bs zs w':=by
 obtain ⟨T,sv,S,h1,h2⟩:=h
 refine ⟨T,sv,S,(hs.block _ (lt_of_heap h1)).trans h1,h2.frm hs.size (fun b hb=>hs.block _ (h2.lt b hb))⟩

abbrev Handed (zs:List Int):=Int × { z:Int // z ∈ zs }
def handed {zs:List Int} (x:Handed zs):Array Value:=#[.int .i64 x.1,.int .i64 x.2.1]
def came {zs:List Int} (xs:List (Handed zs)):List Int:=xs.map fun x=>x.2.1

def BackC (P:Program) (gf:FuncId):Prop:=(∀ args w,(callFunc gf args).run P w=.ok (.enter gf args) w) /\ ∀ (n bs:Nat) (zs:List Int) (w:World),1 <= n -> zs.length <= 1048576 -> Reads bs zs w ->
 SeqStopsK Fence.wide n P gf #[.pointer (some ⟨bs,0,none⟩)] (handed (zs:=zs)) (fun W W'=>Reads bs zs W -> Reads bs zs W') (fun xs=>came xs=zs.reverse) (fun _=>True) zs.length w

theorem simOf_grown {w w':World} {row:Option Nat} (hg:w.grownBy w' row) (hr:∀ r,row=some r -> ∃ o:Obj,w.heap[r]?=some o /\ o.isCells=false):CellsSame w w' :=
 ⟨hg.size,fun k o hk hc=>(hg.block k (lt_of_heap hk) (fun e=>by
  obtain ⟨o',h1,h2⟩:=hr k e.symm
  rw [hk] at h1;cases h1;rw [hc] at h2;cases h2)).trans hk⟩

theorem Reads.of_SR {B:Base} {N:Nat} {st:St} {β:Nat -> Info} {φ:Nat -> List Nat} {a:Act} {w:World} (h:SR B N st β φ a w) {g gf c bs:Nat} {zs:List Int} (hg:find st.env g=some (.one (.fn gf [.own c 0 0])))
  (hc:st.obj c=.box [.dat (.sl 1 (zs.map encZ))]) (hv:a.tmps.getD g undef=.func (.func gf) #[] #[.pointer (some ⟨bs,0,none⟩)]):Reads bs zs w:=by
 obtain ⟨_,cvs,h1,h2,h3⟩:=h.env g _ hg
 rw [hv] at h1
 cases h1
 obtain ⟨x,hx,_,hp⟩:=h3 0 _ rfl
 rw [show (st.ctx w β φ).ob c=_ from hc] at hp
 obtain ⟨b,hb,rfl⟩:=hp
 cases hx
 have ho:=h.objs c
 unfold ObjRel at ho
 rw [show (st.ctx w β φ).ob c=_ from hc] at ho
 obtain ⟨b',T,vs,e1,_,e3,hl,hr⟩:=ho
 rw [show (st.ctx w β φ).β c=β c from rfl] at hb e1
 rw [hb] at e1
 cases e1
 obtain ⟨v,hv',S,hS,_⟩:=hr 0 _ rfl
 have hvs:vs=#[v]:=by
  apply Array.ext'
  match hvl:vs.toList,hl,hv' with
  | [y],_,e=>cases e;rfl
 rw [hvs] at e3
 exact ⟨T,v,S,e3,hS⟩

theorem fn_value {B:Base} {N:Nat} {st:St} {β:Nat -> Info} {φ:Nat -> List Nat} {a:Act} {w:World} (h:SR B N st β φ a w) {g gf c:Nat} {ls:List Leaf} (hg:find st.env g=some (.one (.fn gf [.own c 0 0]))) (hc:st.obj c=.box ls) :
  ∃ bs,a.tmps.getD g undef=.func (.func gf) #[] #[.pointer (some ⟨bs,0,none⟩)]:=by
 obtain ⟨_,cvs,h1,h2,h3⟩:=h.env g _ hg
 obtain ⟨x,hx,_,hp⟩:=h3 0 _ rfl
 rw [show (st.ctx w β φ).ob c=_ from hc] at hp
 obtain ⟨b,hb,rfl⟩:=hp
 refine ⟨b,?_⟩
 rw [h1]
 have:cvs=#[.pointer (some ⟨b,0,none⟩)]:=by
  apply Array.ext'
  rw [<- Array.getElem?_toList] at hx
  match hvl:cvs.toList,(by simpa using h2:cvs.toList.length=1),hx with
  | [y],_,e=>cases e;rfl
 rw [this]

theorem leaves_marks {P:Program} {fn:Func} {tmps:Array Value} {R:Ending -> World -> Prop} {n:Nat}:∀ (Ds:List Nat) (w:World),Ds.Nodup -> (∀ D ∈ Ds,w.heap[D]?=some (.deferred (some []))) ->
  (∀ w',w'.heap.size=w.heap.size -> (∀ k,k ∉ Ds -> w'.heap[k]?=w.heap[k]?) -> w'.os=w.os -> w'.tape=w.tape -> w'.output=w.output -> ∃ v,(results fn tmps).run P w'=.ok v w' /\ R (.returned v) w') ->
  LeavesInM Fence.wide n P fn tmps R (Ds.map markOf) .returning w
 | [],w,_,_,h=>h w rfl (fun _ _=>rfl) rfl rfl rfl
 | D :: Ds,w,hnd,hD,h=>by
  obtain ⟨h1,h2⟩:=List.nodup_cons.1 hnd
  have h0:=hD D (List.mem_cons_self ..)
  refine ⟨by simp,.inl ⟨D,_,rfl,run_takeDeferred h0,leaves_marks Ds _ h2 (fun D' h'=>?_) fun w' e1 e2 e3 e4 e5=>?_⟩⟩
  ·have hne:D' ≠ D:=fun e=>h1 (e ▸ h')
   exact (World.putObj_heap_other hne).trans (hD D' (List.mem_cons_of_mem _ h'))
  ·refine h w' (e1.trans (by simp)) (fun k hk=>(e2 k (fun hm=>hk (List.mem_cons_of_mem _ hm))).trans (World.putObj_heap_other (fun e=>hk (e ▸ List.mem_cons_self ..)))) e3 e4 e5

end Go.Abs
