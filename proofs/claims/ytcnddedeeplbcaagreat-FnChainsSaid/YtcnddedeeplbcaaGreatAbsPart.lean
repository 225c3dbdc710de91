/- Parts of owned vectors whose rows hold no slice with elements. -/
import Derived.Test.YtcnddedeeplbcaaGreatAbsBuild
namespace Go.Abs
set_option linter.unusedVariables false

def lay {α:Type} (l:List α) (off:Nat) (us:List α):List α:=splice l off us
theorem lay_length {α:Type} {l us:List α} {off:Nat} (h:off + us.length <= l.length):(lay l off us).length=l.length:=splice_length h

def flatRows (rows:List (List D)):Prop:=∀ r ∈ rows,∀ d ∈ r,d.flat=true

theorem rows_part {w:World} {rows:List (List D)} {sz:Nat} {vs:List Value} {S:List Nat} (hsz:∀ r ∈ rows,r.length=sz) (hl:RepL w rows.flatten vs S) {i n:Nat} (hb:i + n <= rows.length) :
  ∃ S',RepL w ((rows.drop i).take n).flatten ((vs.drop (i * sz)).take (n * sz)) S' /\ ∀ x ∈ S',x ∈ S:=by
 have e1:rows=rows.take i ++ ((rows.drop i).take n ++ (rows.drop i).drop n):=by rw [List.take_append_drop,List.take_append_drop]
 have hl':=hl
 rw [e1,List.flatten_append,List.flatten_append] at hl'
 obtain ⟨S1,S2,rfl,_,g2⟩:=RepL.split _ hl'
 obtain ⟨S3,S4,rfl,g3,_⟩:=RepL.split _ g2
 have hA:(rows.take i).flatten.length=i * sz:=by
  rw [flatten_length (sz:=sz) (fun r hr=>hsz r (List.mem_of_mem_take hr)),List.length_take,Nat.min_eq_left (by omega)]
 have hB:((rows.drop i).take n).flatten.length=n * sz:=by
  rw [flatten_length (sz:=sz) (fun r hr=>hsz r (List.mem_of_mem_drop (List.mem_of_mem_take hr))),List.length_take,List.length_drop,Nat.min_eq_left (by omega)]
 rw [hA,hB] at g3
 exact ⟨S3,g3,fun x hx=>List.mem_append_right _ (List.mem_append_left _ hx)⟩

theorem nil_of_sub {S S':List Nat} (h:∀ x ∈ S',x ∈ S) (hs:S=[]):S'=[]:=List.eq_nil_iff_forall_not_mem.2 (fun x hx=>by have:=h x hx;rw [hs] at this;cases this)

theorem RepL.split0 {w:World} (ds:List D) {ds':List D} {vs:List Value} (h:RepL w (ds ++ ds') vs []):RepL w ds (vs.take ds.length) [] /\ RepL w ds' (vs.drop ds.length) []:=by
 obtain ⟨S1,S2,e,h1,h2⟩:=RepL.split ds h
 obtain ⟨e1,e2⟩:=List.append_eq_nil_iff.1 e.symm
 subst e1;subst e2
 exact ⟨h1,h2⟩

theorem RepL.append0 {w:World} {ds ds':List D} {vs vs':List Value} (h:RepL w ds vs []) (h':RepL w ds' vs' []):RepL w (ds ++ ds') (vs ++ vs') []:=by
 have:=h.append h'
 simpa using this

theorem rows_splice {w:World} {rows rs:List (List D)} {sz:Nat} {sd:List D} {vs us:List Value} (hsz:∀ r ∈ rows,r.length=sz) (hrs:∀ r ∈ rs,r.length=sz) (hl:RepL w (rows.flatten ++ sd) vs []) {i:Nat}
  (hr:RepL w rs.flatten us []) (hb:i + rs.length <= rows.length):RepL w ((splice rows i rs).flatten ++ sd) (splice vs (i * sz) us) []:=by
 have e1:rows=rows.take i ++ ((rows.drop i).take rs.length ++ (rows.drop i).drop rs.length):=by rw [List.take_append_drop,List.take_append_drop]
 rw [e1,List.flatten_append,List.flatten_append,List.append_assoc,List.append_assoc] at hl
 obtain ⟨g1,g2⟩:=RepL.split0 _ hl
 obtain ⟨_,g3⟩:=RepL.split0 _ g2
 have hA:(rows.take i).flatten.length=i * sz:=by
  rw [flatten_length (sz:=sz) (fun r hr=>hsz r (List.mem_of_mem_take hr)),List.length_take,Nat.min_eq_left (by omega)]
 have hB:((rows.drop i).take rs.length).flatten.length=rs.length * sz:=by
  rw [flatten_length (sz:=sz) (fun r hr=>hsz r (List.mem_of_mem_drop (List.mem_of_mem_take hr))),List.length_take,List.length_drop,Nat.min_eq_left (by omega)]
 have hu:us.length=rs.length * sz:=by rw [hr.length,flatten_length hrs]
 rw [hA,hB,List.drop_drop,List.drop_drop] at g3
 rw [hA] at g1
 unfold splice
 rw [List.flatten_append,List.flatten_append,hu,List.append_assoc,List.append_assoc,List.append_assoc]
 exact g1.append0 (hr.append0 g3)

theorem splice_mem {α:Type} {l us:List α} {i:Nat} {x:α} (h:x ∈ splice l i us):x ∈ l \/ x ∈ us:=by
 unfold splice at h
 rcases List.mem_append.1 h with h | h
 ·rcases List.mem_append.1 h with h | h
  ·exact .inl (List.mem_of_mem_take h)
  ·exact .inr h
 ·exact .inl (List.mem_of_mem_drop h)

theorem rep_room {w:World} {rows:List (List D)} {sz n:Nat} {sd:List D} {vs:Array Value} (hsz:∀ r ∈ rows,r.length=sz) (hl:RepL w (rows.flatten ++ sd) vs.toList []) (hn:vs.size=n) :
  Room w vs (rows.length * sz) n /\ RepL w rows.flatten (vs.toList.take (rows.length * sz)) []:=by
 obtain ⟨h1,h2⟩:=RepL.split0 _ hl
 rw [flatten_length hsz] at h1 h2
 exact ⟨⟨hn,sd,h2⟩,h1⟩

section
variable {P:Program} {B:Base} {N:Nat} {st st':St} {β:Nat -> Info} {φ:Nat -> List Nat} {a:Act} {w w':World}

theorem lt_next (h:SR B N st β φ a w) {o:Nat} (e:st.obj o ≠ .dead):o < st.next:=by
 apply Classical.byContradiction
 intro hn
 exact e (h.dead o (by omega))

theorem SR.newVec0 (h:SR B N st β φ a w) {ks:List Nat} (hks:∀ o ∈ ks,o < st.next) (sz:Nat) (sep:Bool) (base:Option Addr) :
  ∃ β' φ',(st.ctx w β φ).Le (((killAll st ks).addObj (.vec sz sep [])).ctx w β' φ') /\ SR B N ((killAll st ks).addObj (.vec sz sep [])) β' φ' a w /\
   AVRel (((killAll st ks).addObj (.vec sz sep [])).ctx w β' φ') (.one (.own st.next)) (.slice base 0 0):=by
 have hnk:st.next ∉ ks:=fun hm=>Nat.lt_irrefl _ (hks _ hm)
 have hob:∀ o,o ≠ st.next -> o ∉ ks -> ((killAll st ks).addObj (.vec sz sep [])).obj o=st.obj o:=fun o h1 h2 =>
  (St.obj_addObj_ne _ _ (by rw [killAll_next];exact h1)).trans (killAll_out ks st o h2)
 have hobn:((killAll st ks).addObj (.vec sz sep [])).obj st.next=.vec sz sep []:=by
  have:=St.obj_addObj_same (killAll st ks) (.vec sz sep [])
  rwa [killAll_next] at this
 have hobk:∀ o,o ∈ ks -> ((killAll st ks).addObj (.vec sz sep [])).obj o=.dead:=fun o ho =>
  (St.obj_addObj_ne _ _ (by rw [killAll_next];exact fun e=>hnk (e ▸ ho))).trans (killAll_in ks st o ho)
 let β':=upd β st.next ⟨base,0⟩
 let φ':Nat -> List Nat:=fun o=>if o=st.next then [] else if o ∈ ks then [] else φ o
 have hφn:φ' st.next=[]:=if_pos rfl
 have hφk:∀ o,o ∈ ks -> φ' o=[]:=fun o ho=>by
  have hne:o ≠ st.next:=fun e=>hnk (e ▸ ho)
  show (if o=st.next then [] else if o ∈ ks then [] else φ o)=[]
  rw [if_neg hne,if_pos ho]
 have hφo:∀ o,o ≠ st.next -> o ∉ ks -> φ' o=φ o:=fun o h1 h2=>by
  show (if o=st.next then [] else if o ∈ ks then [] else φ o)=φ o
  rw [if_neg h1,if_neg h2]
 have hβn:β' st.next=⟨base,0⟩:=upd_same ..
 obtain ⟨le,sr⟩:=h.change (st':=(killAll st ks).addObj (.vec sz sep [])) (β':=β') (φ':=φ') (w':=w) (fun o=>o=st.next \/ o ∈ ks)
  (killAll_env ks st) (by show st.next <= (killAll st ks).next + 1;rw [killAll_next];omega)
  (fun o ho=>hob o (fun e=>ho (.inl e)) (fun e=>ho (.inr e))) (fun o ho=>upd_ne _ _ (by omega)) (fun o ho=>hφo o (fun e=>ho (.inl e)) (fun e=>ho (.inr e)))
  (fun o ho=>by
    have ho':(killAll st ks).next + 1 <= o:=ho
    rw [killAll_next] at ho'
    by_cases hk:o ∈ ks
    ·exact hobk o hk
    ·rw [hob o (by omega) hk];exact h.dead o (by omega))
  (fun o ho hl=>by
    rcases ho with ho | ho
    ·omega
    ·rw [hobk o ho];exact ⟨by cases st.obj o <;> trivial,fun hd=>absurd rfl hd⟩)
  (Frm.refl w _)
  (fun le o ho=>by
    unfold ObjRel
    rcases ho with ho | ho
    ·subst ho
     rw [show (((killAll st ks).addObj (.vec sz sep [])).ctx w β' φ').ob st.next=_ from hobn]
     exact ⟨by simp,by simp,.inl ⟨hφn,by show (β' st.next).cap=0;rw [hβn]⟩⟩
    ·rw [show (((killAll st ks).addObj (.vec sz sep [])).ctx w β' φ').ob o=_ from hobk o ho]
     exact hφk o ho)
  (fun o ho=>by
    rcases ho with ho | ho
    ·subst ho;rw [hφn];exact List.nodup_nil
    ·rw [hφk o ho];exact List.nodup_nil)
  (fun o ho x hx=>by
    rcases ho with ho | ho
    ·subst ho;rw [hφn] at hx;cases hx
    ·rw [hφk o ho] at hx;cases hx)
  (fun o o' ho ho' hne x hx hx'=>by
    rcases ho with ho | ho
    ·subst ho;rw [hφn] at hx;cases hx
    ·rw [hφk o ho] at hx;cases hx)
 refine ⟨β',φ',le,sr,⟨by show st.next < (killAll st ks).next + 1;rw [killAll_next];omega,?_⟩⟩
 rw [show (((killAll st ks).addObj (.vec sz sep [])).ctx w β' φ').ob st.next=_ from hobn]
 show Value.slice _ _ _=.slice (β' st.next).base 0 (β' st.next).cap
 rw [hβn]

def Mem (x:AObj) (sz:Nat) (rows:List (List D)):Prop:=(∃ sep,x=.vec sz sep rows /\ flatRows rows) \/ ∃ n,x=.wide sz n rows /\ flatRows rows

theorem mem_rep (h:SR B N st β φ a w) {o sz:Nat} {rows:List (List D)} (hm:Mem (st.obj o) sz rows) :
  (∀ r ∈ rows,r.length=sz) /\ rows.length <= (β o).cap /\ (((β o).cap=0 /\ rows=[]) \/
    ∃ b T E sd,∃ vs:Array Value,(β o).base=some ⟨b,0,none⟩ /\ w.heap[b]?=some (.cells vs T (0,0)) /\ vs.size=(β o).cap * sz /\ RepL w (rows.flatten ++ sd) vs.toList [] /\ φ o=b :: E):=by
 have ho:=h.objs o
 unfold ObjRel at ho
 rcases hm with ⟨sep,eo,hf⟩ | ⟨n,eo,hf⟩
 ·rw [show (st.ctx w β φ).ob o=_ from eo] at ho
  obtain ⟨h1,h2,h3⟩:=ho
  have h2':rows.length <= (β o).cap:=h2
  refine ⟨h1,h2',?_⟩
  rcases h3 with ⟨_,h0⟩ | ⟨b,T,S,E,vs,b1,b2,b3,b4,b5,b6⟩
  ·have h0':(β o).cap=0:=h0
   exact .inl ⟨h0',List.eq_nil_of_length_eq_zero (by omega)⟩
  ·have hS:S=[]:=b4.flat (fun d hd=>by
    obtain ⟨r,hr,hd⟩:=List.mem_flatten.1 hd
    exact hf r hr d hd)
   subst hS
   obtain ⟨c1,sd,c2⟩:=b3
   exact .inr ⟨b,T,E,sd,vs,b1,b2,c1,by have:=RepL.append0 b4 c2;rwa [List.take_append_drop] at this,b5⟩
 ·rw [show (st.ctx w β φ).ob o=_ from eo] at ho
  obtain ⟨h1,h2,h4,h3⟩:=ho
  have h4':rows.length=(β o).cap:=h4
  refine ⟨h1,by omega,?_⟩
  rcases h3 with ⟨_,h0⟩ | ⟨b,T,vs,b1,b2,b3,E,b5⟩
  ·have h0':(β o).cap=0:=h0
   exact .inl ⟨h0',List.eq_nil_of_length_eq_zero (by omega)⟩
  ·refine .inr ⟨b,T,E,[],vs,b1,b2,?_,by rw [List.append_nil];exact b3,b5⟩
   have:=b3.length
   rw [flatten_length h1,Array.length_toList] at this
   rw [this,h4']

theorem SR.same (h:SR B N st β φ a w) {o:Nat} {x:AObj} (e:st.obj o=x) (hx:x ≠ .dead):(st.ctx w β φ).Le ((st.setObj o x).ctx w β φ) /\ SR B N (st.setObj o x) β φ a w:=by
 have key:∀ k,(st.setObj o x).obj k=st.obj k:=fun k=>by
  by_cases hk:k=o
  ·subst hk;rw [St.obj_setObj_same,e]
  ·exact St.obj_setObj_ne st x hk
 exact h.change (fun _=>False) rfl (Nat.le_refl _) (fun k _=>key k) (fun _ _=>rfl) (fun _ _=>rfl) (fun k hk=>by rw [key];exact h.dead k hk) (fun _ hk=>hk.elim)
  (Frm.refl w _) (fun _ _ hk=>hk.elim) (fun _ hk=>hk.elim) (fun _ hk=>hk.elim) (fun _ _ hk=>hk.elim)

def AObj.withRows:AObj -> List (List D) -> AObj
 | .vec sz sep _,r=>.vec sz sep r
 | .wide sz n _,r=>.wide sz n r
 | x,_=>x

theorem SR.rows (h:SR B N st β φ a w) {o sz:Nat} {rows rs:List (List D)} {i:Nat} {us:List Value} (hm:Mem (st.obj o) sz rows)
  (hrs:∀ r ∈ rs,r.length=sz) (hrf:flatRows rs) (hfit:i + rs.length <= rows.length) (hr:RepL w rs.flatten us []) :
  ∃ w',(st.ctx w β φ).Le ((st.setObj o ((st.obj o).withRows (splice rows i rs))).ctx w' β φ) /\ SR B N (st.setObj o ((st.obj o).withRows (splice rows i rs))) β φ a w' /\ (rs=[] -> w'=w) /\
   ∀ ad,(i < (β o).cap -> some ad=(β o).base.map (·.add (i * sz))) -> (storeCells ad us).run P w=.ok () w':=by
 obtain ⟨h1,h2,h3⟩:=mem_rep h hm
 have hu:us.length=rs.length * sz:=by rw [hr.length,flatten_length hrs]
 by_cases hne:rs=[]
 ·subst hne
  have hu0:us=[]:=List.eq_nil_of_length_eq_zero (by simpa using hu)
  subst hu0
  have hs:splice rows i []=rows:=by simp [splice]
  rw [hs]
  have hx:(st.obj o).withRows rows=st.obj o:=by
   rcases hm with ⟨sep,eo,_⟩ | ⟨n,eo,_⟩ <;> rw [eo] <;> rfl
  rw [hx]
  obtain ⟨le,sr⟩:=h.same (o:=o) rfl (by rcases hm with ⟨sep,eo,_⟩ | ⟨n,eo,_⟩ <;> rw [eo] <;> simp)
  exact ⟨w,le,sr,fun _=>rfl,fun ad _=>by simp [storeCells]⟩
 ·have hpos:0 < rs.length:=List.length_pos_iff.2 hne
  rcases h3 with ⟨_,h0⟩ | ⟨b,T,E,sd,vs,hb,hheap,hvs,hrep,hφ⟩
  ·subst h0;simp at hfit;exact absurd hfit.2 hne
  ·have hbound:i * sz + rs.length * sz <= rows.length * sz:=by rw [<- Nat.add_mul];exact Nat.mul_le_mul_right _ hfit
   have hcapb:rows.length * sz <= (β o).cap * sz:=Nat.mul_le_mul_right _ h2
   have hlen:(splice rows i rs).length=rows.length:=splice_length hfit
   have hvl:vs.toList.length=(β o).cap * sz:=by rw [Array.length_toList];exact hvs
   have hw':∀ r ∈ splice rows i rs,r.length=sz:=fun r hr=>(splice_mem hr).elim (h1 r) (hrs r)
   have hsl:(splice vs.toList (i * sz) us).length=(β o).cap * sz:=by rw [splice_length (by rw [hu,hvl];omega),hvl]
   obtain ⟨le,sr⟩:=h.write (vs':=(splice vs.toList (i * sz) us).toArray) (x:=(st.obj o).withRows (splice rows i rs)) (o:=o) (by rw [hφ];simp) hheap
    (by
      rcases hm with ⟨sep,eo,_⟩ | ⟨n,eo,_⟩ <;> rw [eo]
      ·exact ⟨rfl,hlen.symm⟩
      ·exact ⟨rfl,rfl,hlen.symm⟩)
    (by rcases hm with ⟨sep,eo,_⟩ | ⟨n,eo,_⟩ <;> rw [eo] <;> simp [AObj.withRows]) (fun le hh=>by
      have hrep':RepL (w.setRow b (splice vs.toList (i * sz) us).toArray) ((splice rows i rs).flatten ++ sd) (splice vs.toList (i * sz) us).toArray.toList [] :=
       (rows_splice h1 hrs hrep hr hfit).frm0 (by simp)
      unfold ObjRel
      rw [show ((st.setObj o ((st.obj o).withRows (splice rows i rs))).ctx (w.setRow b (splice vs.toList (i * sz) us).toArray) β φ).ob o=_ from St.obj_setObj_same st o _]
      rcases hm with ⟨sep,eo,hf⟩ | ⟨n,eo,hf⟩
      ·rw [eo]
       obtain ⟨r1,r2⟩:=rep_room (n:=(β o).cap * sz) hw' hrep' (by simpa using hsl)
       refine ⟨hw',by rw [hlen];exact h2,.inr ⟨b,T,[],E,_,hb,hh,r1,r2,hφ,?_⟩⟩
       cases sep with
       | false=>simp
       | true=>simp only [if_true];exact ⟨List.nodup_nil,by simp,OwnL.of_flat r2 fun d hd=>by
         obtain ⟨r,hr,hd⟩:=List.mem_flatten.1 hd
         exact (splice_mem hr).elim (fun h=>hf r h d hd) (fun h=>hrf r h d hd)⟩
      ·rw [eo]
       have ho:=h.objs o
       unfold ObjRel at ho
       rw [show (st.ctx w β φ).ob o=_ from eo] at ho
       obtain ⟨_,g2,g4,_⟩:=ho
       have g4':rows.length=(β o).cap:=g4
       have hsd:sd=[]:=by
        have hl:=hrep.length
        rw [List.length_append,flatten_length h1,Array.length_toList,hvs,<- g4'] at hl
        exact List.eq_nil_of_length_eq_zero (by omega)
       subst hsd
       rw [List.append_nil] at hrep'
       exact ⟨hw',by rw [hlen];exact g2,by rw [hlen];exact g4,.inr ⟨b,T,_,hb,hh,hrep',E,hφ⟩⟩)
   refine ⟨_,le,sr,fun e=>absurd e hne,fun ad had=>?_⟩
   have had':=had (by omega)
   rw [hb,Option.map_some,Addr.add_lit] at had'
   cases had'
   have hst:=run_storeCells_at P b (i * sz) T us 0 vs w hheap (by rw [hvs,hu];omega) hr.one
   simp only [Nat.add_zero,Nat.zero_add] at hst ⊢
   rw [hst]
   rfl

theorem RepL.room0 {rows:List (List D)} {sd:List D} {sz n:Nat} {vs:List Value} (hsz:∀ r ∈ rows,r.length=sz) (hn:n <= rows.length) (hl:RepL w (rows.flatten ++ sd) vs []) :
  RepL w ((rows.take n).flatten ++ ((rows.drop n).flatten ++ sd)) vs []:=by
 rw [<- List.append_assoc,<- List.flatten_append,List.take_append_drop]
 exact hl

theorem part_cells (h:SR B N st β φ a w) {o sz:Nat} {rows:List (List D)} (hm:Mem (st.obj o) sz rows) {i n:Nat} (hfit:i + n <= rows.length) :
  ∃ us,RepL w ((rows.drop i).take n).flatten us [] /\ (0 < n -> ∃ b,(β o).base=some ⟨b,0,none⟩ /\ ∀ (j:Nat) (u:Value),us[j]?=some u -> w.cell? ⟨b,i * sz + j,none⟩=some u):=by
 obtain ⟨h1,h2,h3⟩:=mem_rep h hm
 rcases h3 with ⟨_,h0⟩ | ⟨b,T,E,sd,vs,hb,hheap,hvs,hrep,hφ⟩
 ·subst h0
  simp only [List.length_nil,Nat.le_zero,Nat.add_eq_zero_iff] at hfit
  obtain ⟨rfl,rfl⟩:=hfit
  exact ⟨[],.nil,fun hn=>absurd hn (Nat.lt_irrefl _)⟩
 ·obtain ⟨_,r2⟩:=rep_room (n:=(β o).cap * sz) h1 hrep hvs
  obtain ⟨S',g1,g2⟩:=rows_part h1 r2 hfit
  have:=nil_of_sub g2 rfl
  subst this
  refine ⟨_,g1,fun hn=>⟨b,hb,fun j u hj=>?_⟩⟩
  refine (cell_of_heap hheap).trans ?_
  rw [<- Array.getElem?_toList]
  rw [List.getElem?_take] at hj
  split at hj
  ·rw [List.getElem?_drop,List.getElem?_take] at hj
   split at hj
   ·exact hj
   ·cases hj
  ·cases hj

theorem SR.take (h:SR B N st β φ a w) {o sz n:Nat} {rows:List (List D)} (hm:Mem (st.obj o) sz rows) (hn:n <= rows.length) {bs:Option Addr} (hbs:0 < (β o).cap -> bs=(β o).base) :
  ∃ β' φ',SR B N ((killAll st [o]).addObj (.vec sz true (rows.take n))) β' φ' a w /\ (st.ctx w β φ).Le (((killAll st [o]).addObj (.vec sz true (rows.take n))).ctx w β' φ') /\
   AVRel (((killAll st [o]).addObj (.vec sz true (rows.take n))).ctx w β' φ') (.one (.own st.next)) (.slice bs n (β o).cap):=by
 obtain ⟨h1,h2,h3⟩:=mem_rep h hm
 have hmf:flatRows rows:=by rcases hm with ⟨_,_,hf⟩ | ⟨_,_,hf⟩ <;> exact hf
 have hon:o < st.next:=Classical.byContradiction fun hc=>by
  have:=h.dead o (by omega)
  rcases hm with ⟨sep,eo,_⟩ | ⟨m,eo,_⟩ <;> rw [eo] at this <;> cases this
 have hks:∀ k ∈ [o],k < st.next:=by simpa using hon
 by_cases hc:(β o).cap=0
 ·have hr0:rows=[]:=List.eq_nil_of_length_eq_zero (by omega)
  subst hr0
  simp only [List.length_nil,Nat.le_zero] at hn
  subst hn
  obtain ⟨β',φ',le,sr,hp⟩:=h.newVec0 hks sz true bs
  rw [hc]
  exact ⟨β',φ',sr,le,hp⟩
 ·rcases h3 with ⟨h0,_⟩ | ⟨b,T,E,sd,vs,hb,hheap,hvs,hrep,hφ⟩
  ·exact absurd h0 hc
  ·have hw:∀ r ∈ rows.take n,r.length=sz:=fun r hr=>h1 r (List.mem_of_mem_take hr)
   obtain ⟨r1,r2⟩:=rep_room (n:=(β o).cap * sz) hw (RepL.room0 h1 hn hrep) hvs
   have hlen:(rows.take n).length=n:=by rw [List.length_take,Nat.min_eq_left hn]
   obtain ⟨β',φ',le,sr,hp⟩:=h.newVec (ks:=[o]) (w':=w) hks (Frm.refl w _) (sz:=sz) (cap:=(β o).cap) (b:=b) (sep:=true) (rows:=rows.take n) (S:=[]) (E:=[]) (T:=T) (vs:=vs) hw (by rw [hlen];omega) hheap r1 r2
    (fun x hx=>by
      simp only [List.mem_singleton] at hx
      subst hx
      exact ⟨lt_of_heap hheap,.inr ⟨o,by simp,by rw [hφ];simp⟩⟩) (by simp) (by simp only [if_true];exact ⟨List.nodup_nil,by simp,OwnL.of_flat r2 fun d hd=>by
       obtain ⟨r,hr,hd⟩:=List.mem_flatten.1 hd
       exact hmf r (List.mem_of_mem_take hr) d hd⟩)
   refine ⟨β',φ',sr,le,?_⟩
   rw [hlen] at hp
   rw [hbs (by omega),hb]
   exact hp

theorem SR.widen (h:SR B N st β φ a w) {o sz:Nat} {sep:Bool} {rows:List (List D)} (eo:st.obj o=.vec sz sep rows) (hf:flatRows rows) :
  ∃ sp:List (List D),(∀ r ∈ sp,r.length=sz) /\ (β o).cap=rows.length + sp.length /\
   (st.ctx w β φ).Le ((st.setObj o (.wide sz rows.length (rows ++ sp))).ctx w β φ) /\ SR B N (st.setObj o (.wide sz rows.length (rows ++ sp))) β φ a w:=by
 obtain ⟨h1,h2,h3⟩:=mem_rep h (.inl ⟨sep,eo,hf⟩)
 have main:∀ sp:List (List D),(∀ r ∈ sp,r.length=sz) -> (β o).cap=rows.length + sp.length ->
   ((φ o=[] /\ (β o).cap=0) \/ ∃ b T,∃ vs:Array Value,(β o).base=some ⟨b,0,none⟩ /\ w.heap[b]?=some (.cells vs T (0,0)) /\ RepL w (rows ++ sp).flatten vs.toList [] /\ ∃ E,φ o=b :: E) ->
   (st.ctx w β φ).Le ((st.setObj o (.wide sz rows.length (rows ++ sp))).ctx w β φ) /\ SR B N (st.setObj o (.wide sz rows.length (rows ++ sp))) β φ a w:=by
  intro sp hsp hcap hobj
  refine h.change (fun k=>k=o) rfl (Nat.le_refl _) (fun k hk=>St.obj_setObj_ne st _ hk) (fun _ _=>rfl) (fun _ _=>rfl) (fun k hk=>?_) (fun k hk _=>?_) (Frm.refl w _) (fun le k hk=>?_) (fun k _=>h.nodup k)
   (fun k hk b' hb'=>⟨(h.fp k b' hb').1,.inr ⟨k,hk,hb'⟩⟩) (fun k k' hk hk' hne=>absurd (hk.trans hk'.symm) hne)
  ·have hk':st.next <= k:=hk
   have:o < st.next:=lt_next h (by rw [eo];simp)
   rw [St.obj_setObj_ne st _ (by omega)]
   exact h.dead k hk
  ·subst hk
   rw [St.obj_setObj_same,eo]
   exact ⟨⟨rfl,rfl,by simp⟩,fun _=>rfl⟩
  ·subst hk
   unfold ObjRel
   rw [show ((st.setObj k (.wide sz rows.length (rows ++ sp))).ctx w β φ).ob k=_ from St.obj_setObj_same st k _]
   exact ⟨fun r hr=>(List.mem_append.1 hr).elim (h1 r) (hsp r),by simp,by rw [List.length_append];exact hcap.symm,hobj⟩
 by_cases hc:(β o).cap=0
 ·refine ⟨[],by simp,by simp;omega,?_⟩
  refine main [] (by simp) (by simp;omega) ?_
  have ho:=h.objs o
  unfold ObjRel at ho
  rw [show (st.ctx w β φ).ob o=_ from eo] at ho
  rcases ho.2.2 with ⟨g1,g2⟩ | _
  ·exact .inl ⟨g1,hc⟩
  ·rcases h3 with ⟨h0,hr0⟩ | ⟨b,T,E,sd,vs,hb,hheap,hvs,hrep,hφ⟩
   ·subst hr0
    rename_i hx
    obtain ⟨b,T,S,E,vs,b1,b2,b3,b4,b5,b6⟩:=hx
    have:vs.size=0:=by have:=b3.1;have hc':(st.ctx w β φ).β o=β o:=rfl;rw [hc',hc] at this;simpa using this
    exact .inr ⟨b,T,vs,b1,b2,by have hv:vs.toList=[]:=List.eq_nil_of_length_eq_zero (by rw [Array.length_toList,this]);rw [hv];exact .nil,E,b5⟩
   ·have hr0:rows=[]:=List.eq_nil_of_length_eq_zero (by omega)
    subst hr0
    have hv:vs.toList=[]:=List.eq_nil_of_length_eq_zero (by rw [Array.length_toList,hvs,hc,Nat.zero_mul])
    exact .inr ⟨b,T,vs,hb,hheap,by rw [hv];exact .nil,E,hφ⟩
 ·rcases h3 with ⟨h0,_⟩ | ⟨b,T,E,sd,vs,hb,hheap,hvs,hrep,hφ⟩
  ·exact absurd h0 hc
  ·have hsd:sd.length=((β o).cap - rows.length) * sz:=by
    have hl:=hrep.length
    rw [List.length_append,flatten_length h1,Array.length_toList,hvs] at hl
    rw [Nat.sub_mul];omega
   have hfl:(rows ++ chunks sz ((β o).cap - rows.length) sd).flatten=rows.flatten ++ sd:=by rw [List.flatten_append,chunks_flatten sz _ sd hsd]
   refine ⟨chunks sz ((β o).cap - rows.length) sd,chunks_mem sz _ sd hsd,by rw [chunks_length];omega,main _ (chunks_mem sz _ sd hsd) (by rw [chunks_length];omega) (.inr ⟨b,T,vs,hb,hheap,by rw [hfl];exact hrep,E,hφ⟩)⟩
end
end Go.Abs
