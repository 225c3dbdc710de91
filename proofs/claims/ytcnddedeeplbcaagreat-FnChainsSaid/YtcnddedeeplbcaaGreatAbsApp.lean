/- append. -/
import Derived.Test.YtcnddedeeplbcaaGreatAbsPart
namespace Go.Abs
set_option linter.unusedVariables false

def tflat (P:Program) (t:TypeId):Bool :=
 match tz P t with
 | some ds=>ds.all D.flat
 | none=>false

def srcS (st:St) (fl:Bool) (s:Nat):AV -> Option (Prop × Nat × List (List D) × Bool × List Nat)
 | .one (.own o)=>match st.obj o with
  | .vec sz sep rows=>if fl then some ((∀ r ∈ rows,∀ d ∈ r,d.flat=true),sz,rows,true,[]) else if sep then some (True,sz,rows,true,[o]) else some (True,sz,rows,false,[])
  | .frz sz rows=>if fl then some ((∀ r ∈ rows,∀ d ∈ r,d.flat=true),sz,rows,true,[]) else some (True,sz,rows,false,[])
  | .wide ..=>none
  | _=>none
 | .one (.part o i n)=>match st.obj o with
  | .vec sz _ rows=>if fl then some (flatRows rows,sz,(rows.drop i).take n,true,[]) else none
  | .wide sz _ rows=>if fl then some (flatRows rows,sz,(rows.drop i).take n,true,[]) else none
  | _=>none
 | .one (.dat (.sl sz rows))=>if fl then some ((∀ r ∈ rows,∀ d ∈ r,d.flat=true),sz,rows,true,[]) else some (True,sz,rows,false,[])
 | .one .emp=>some (True,s,[],true,[])
 | _=>none

def appendS (P:Program) (st:St) (t:TypeId) (u v:AV):Out :=
 match te P t with
 | some (e,s,y)=>match tz P e,srcS st (tflat P e) s v with
  | some zs,some (q,sz2,rows2,sep2,ks2) =>
   match u with
   | .one (.own o)=>match st.obj o with
    | .vec sz1 sep1 rows1=>some (q /\ sz1=s /\ sz2=s /\ 0 < s /\ zs.length=s /\ o ∉ ks2 /\ (rows1.length + rows2.length) * y <= 140737488355328 /\ rows1.length + rows2.length <= 9223372036854775807,
      some (.one (.own st.next)),(killAll st (o :: ks2)).addObj (.vec s (sep1 && sep2) (rows1 ++ rows2)))
    | _=>none
   | .one .emp=>some (q /\ sz2=s /\ 0 < s /\ zs.length=s /\ rows2.length * y <= 140737488355328 /\ rows2.length <= 9223372036854775807,
      some (.one (.own st.next)),(killAll st ks2).addObj (.vec s sep2 rows2))
   | .one (.part o i n)=>match st.obj o,srcS st true s v with
    | .vec sz1 sep1 rows1,some (q',sz2',rows2',_,_)=>some (q' /\ flatRows rows1 /\ sz1=s /\ sz2'=s /\ i + (n + rows2'.length) <= rows1.length,
      some (.one (.part o i (n + rows2'.length))),st.setObj o (.vec sz1 sep1 (lay rows1 (i + n) rows2')))
    | _,_=>none
   | _=>none
  | _,_=>none
 | none=>none

section
variable {P:Program} {B:Base} {N:Nat} {st st':St} {β:Nat -> Info} {φ:Nat -> List Nat} {a:Act} {w w':World}

structure Src (w:World) (M:Nat -> Prop) (φ:Nat -> List Nat) (s:Nat) (rows:List (List D)) (sep:Bool) (ks:List Nat) (v:Value):Prop where
 wid:∀ r ∈ rows,r.length=s
 val:∃ base cap,v=.slice base rows.length cap /\ ∃ S us,RepL w rows.flatten us S /\
  (rows ≠ [] -> ∃ b off,base=some ⟨b,off,none⟩ /\ ∀ (j:Nat) (u:Value),us[j]?=some u -> w.cell? ⟨b,off + j,none⟩=some u) /\
  (sep=true -> S.Nodup /\ (∀ x ∈ S,∃ o ∈ ks,x ∈ φ o) /\ OwnL w rows.flatten us S) /\ (sep=false -> ∀ x ∈ S,¬ M x)

theorem src_of_rep {s:Nat} {M:Nat -> Prop} {rows:List (List D)} {v:Value} {S:List Nat} {sep:Bool} {ks:List Nat} (hr:Rep w (.sl s rows) v S)
  (hs:sep=true -> ∀ us S',RepL w rows.flatten us S' -> S'.Sublist S -> S'.Nodup /\ (∀ x ∈ S',∃ o ∈ ks,x ∈ φ o) /\ OwnL w rows.flatten us S') (hl:sep=false -> ∀ x ∈ S,¬ M x):Src w M φ s rows sep ks v:=by
 cases hr with
 | nil=>exact ⟨by simp,_,_,rfl,[],[],.nil,fun h=>absurd rfl h,fun hsep=>⟨List.nodup_nil,by simp,.nil⟩,fun _=>by simp⟩
 | sl _ _ b off cap vs S hb hsz hrl hc =>
  exact ⟨hsz,_,_,rfl,S,vs,hrl,fun _=>⟨b,off,rfl,hc⟩,fun hsep=>hs hsep vs S hrl (List.sublist_cons_self ..),fun hsep x hx=>hl hsep x (List.mem_cons_of_mem _ hx)⟩

theorem src_of_own {s:Nat} {M:Nat -> Prop} {rows:List (List D)} {v:Value} {S:List Nat} {ks:List Nat} (hr:Own w (.sl s rows) v S) (hn:S.Nodup) (hm:∀ x ∈ S,∃ o ∈ ks,x ∈ φ o):Src w M φ s rows true ks v:=by
 cases hr with
 | flat _ _ _ hf=>simp [D.flat] at hf
 | nil=>exact ⟨by simp,_,_,rfl,[],[],.nil,fun h=>absurd rfl h,fun _=>⟨List.nodup_nil,by simp,.nil⟩,by simp⟩
 | sl _ _ b T cap cs S' hh hsz hcap hroom hl =>
  refine ⟨hsz,_,_,rfl,S',_,hl.rep,fun _=>⟨b,0,rfl,fun j v hj=>?_⟩,fun _=>⟨(List.nodup_cons.1 hn).2,fun x hx=>hm x (List.mem_cons_of_mem _ hx),hl⟩,by simp⟩
  rw [Nat.zero_add]
  refine (cell_of_heap hh).trans ?_
  rw [<- Array.getElem?_toList]
  rw [List.getElem?_take] at hj
  split at hj
  ·exact hj
  ·cases hj

theorem flat_flatten {rows:List (List D)} (h:∀ r ∈ rows,∀ d ∈ r,d.flat=true):∀ d ∈ rows.flatten,d.flat=true:=fun d hd=>by
 obtain ⟨r,hr,hd⟩:=List.mem_flatten.1 hd
 exact h r hr d hd

theorem srcS_flatq {st:St} {s:Nat} {v:AV} {q:Prop} {sz:Nat} {rows:List (List D)} {sep:Bool} {ks:List Nat} (hs:srcS st true s v=some (q,sz,rows,sep,ks)) (hq:q):flatRows rows:=by
 unfold srcS at hs
 split at hs
 ·split at hs
  ·simp only [if_true,Option.some.injEq,Prod.mk.injEq] at hs
   obtain ⟨rfl,rfl,rfl,rfl,rfl⟩:=hs;exact hq
  ·simp only [if_true,Option.some.injEq,Prod.mk.injEq] at hs
   obtain ⟨rfl,rfl,rfl,rfl,rfl⟩:=hs;exact hq
  ·cases hs
  ·cases hs
 ·split at hs
  ·simp only [if_true,Option.some.injEq,Prod.mk.injEq] at hs
   obtain ⟨rfl,rfl,rfl,rfl,rfl⟩:=hs
   exact fun r hr=>hq r (List.mem_of_mem_drop (List.mem_of_mem_take hr))
  ·simp only [if_true,Option.some.injEq,Prod.mk.injEq] at hs
   obtain ⟨rfl,rfl,rfl,rfl,rfl⟩:=hs
   exact fun r hr=>hq r (List.mem_of_mem_drop (List.mem_of_mem_take hr))
  ·cases hs
 ·simp only [if_true,Option.some.injEq,Prod.mk.injEq] at hs
  obtain ⟨rfl,rfl,rfl,rfl,rfl⟩:=hs;exact hq
 ·simp only [Option.some.injEq,Prod.mk.injEq] at hs
  obtain ⟨rfl,rfl,rfl,rfl,rfl⟩:=hs
  intro r hr;cases hr
 ·cases hs

theorem flat_S {rows:List (List D)} (h:∀ r ∈ rows,∀ d ∈ r,d.flat=true) {us:List Value} {S:List Nat} (hr:RepL w rows.flatten us S):S=[] :=
 hr.flat (fun d hd=>by
  obtain ⟨r,hr,hd⟩:=List.mem_flatten.1 hd
  exact h r hr d hd)

theorem srcS_sound (h:SR B N st β φ a w) {fl:Bool} {s sz:Nat} {rows:List (List D)} {sep:Bool} {ks:List Nat} {v:AV} {q:Prop} (hs:srcS st fl s v=some (q,sz,rows,sep,ks)) (hq:q) (hsz:sz=s) {x:Value}
  (hv:AVRel (st.ctx w β φ) v x):Src w (fun b=>∃ o,b ∈ φ o) φ s rows sep ks x /\ ∀ o ∈ ks,o < st.next:=by
 subst hsz
 unfold srcS at hs
 split at hs
 ·rename_i o
  obtain ⟨hn,hp⟩:=hv
  split at hs
  ·rename_i sz' sep' rows' eo
   rw [show (st.ctx w β φ).ob o=_ from eo] at hp
   simp only at hp
   subst hp
   obtain ⟨S,hr,hS1,hS2⟩:=vec_rep h eo
   split at hs
   ·simp only [Option.some.injEq,Prod.mk.injEq] at hs
    obtain ⟨rfl,rfl,rfl,rfl,rfl⟩:=hs
    exact ⟨src_of_rep hr (fun _ us S' hr' _=>by have e:=flat_S hq hr';subst e;exact ⟨List.nodup_nil,by simp,OwnL.of_flat hr' (flat_flatten hq)⟩) (by simp),by simp⟩
   ·split at hs
    ·rename_i hsep
     simp only [Option.some.injEq,Prod.mk.injEq] at hs
     obtain ⟨rfl,rfl,rfl,rfl,rfl⟩:=hs
     subst hsep
     obtain ⟨S2,ho2,hn2,hm2⟩:=vec_own h eo
     exact ⟨src_of_own ho2 hn2 (fun y hy=>⟨o,by simp,hm2 y hy⟩),fun o' ho'=>by simp at ho';subst ho';exact hn⟩
    ·rename_i hsep
     simp only [Option.some.injEq,Prod.mk.injEq] at hs
     obtain ⟨rfl,rfl,rfl,rfl,rfl⟩:=hs
     have hsep':sep'=false:=by simpa using hsep
     subst hsep'
     have ho:=h.objs o
     unfold ObjRel at ho
     rw [show (st.ctx w β φ).ob o=_ from eo] at ho
     obtain ⟨hwid,hcap,ho⟩:=ho
     refine ⟨⟨hwid,_,_,rfl,?_⟩,by simp⟩
     rcases ho with ⟨_,h0⟩ | ⟨b,T,S',E,vs,hb,hheap,hvs,hrep,hφ,hM⟩
     ·have h0':(β o).cap=0:=h0
      have:rows'=[]:=List.eq_nil_of_length_eq_zero (by have:rows'.length <= (β o).cap:=hcap;omega)
      subst this
      exact ⟨[],[],.nil,fun h=>absurd rfl h,by simp,by simp⟩
     ·exact ⟨S',_,hrep,fun _=>⟨b,0,hb,fun j u hj=>by
       rw [Nat.zero_add]
       refine (cell_of_heap hheap).trans ?_
       rw [<- Array.getElem?_toList]
       rw [List.getElem?_take] at hj
       split at hj
       ·exact hj
       ·cases hj⟩,by simp,fun _=>hM⟩
  ·rename_i sz' rows' eo
   rw [show (st.ctx w β φ).ob o=_ from eo] at hp
   simp only at hp
   subst hp
   have ho:=h.objs o
   unfold ObjRel at ho
   rw [show (st.ctx w β φ).ob o=_ from eo] at ho
   obtain ⟨_,_,S,hr,hM⟩:=ho
   have hr':Rep w (.sl sz' rows') (.slice (β o).base rows'.length (β o).cap) S:=hr
   split at hs
   ·simp only [Option.some.injEq,Prod.mk.injEq] at hs
    obtain ⟨rfl,rfl,rfl,rfl,rfl⟩:=hs
    exact ⟨src_of_rep hr' (fun _ us S' hr' _=>by have e:=flat_S hq hr';subst e;exact ⟨List.nodup_nil,by simp,OwnL.of_flat hr' (flat_flatten hq)⟩) (by simp),by simp⟩
   ·simp only [Option.some.injEq,Prod.mk.injEq] at hs
    obtain ⟨rfl,rfl,rfl,rfl,rfl⟩:=hs
    exact ⟨src_of_rep hr' (by simp) (fun _=>hM),by simp⟩
  ·cases hs
  ·cases hs
 ·rename_i o i n
  obtain ⟨hn,hp⟩:=hv
  have key:∀ {sz':Nat} {rows':List (List D)},Mem (st.obj o) sz' rows' -> i + n <= rows'.length -> ∀ bs,x=.slice bs n ((β o).cap - i) -> (i < (β o).cap -> bs=(β o).base.map (·.add (i * sz'))) ->
    Src w (fun b=>∃ o,b ∈ φ o) φ sz' ((rows'.drop i).take n) true [] x:=fun {sz' rows'} hm hfit bs hx hbs=>by
   obtain ⟨us,g1,g2⟩:=part_cells h hm hfit
   obtain ⟨h1,h2,_⟩:=mem_rep h hm
   have hlen:((rows'.drop i).take n).length=n:=by rw [List.length_take,List.length_drop,Nat.min_eq_left (by omega)]
   refine ⟨fun r hr=>h1 r (List.mem_of_mem_drop (List.mem_of_mem_take hr)),bs,(β o).cap - i,by rw [hlen];exact hx,[],us,g1,fun hne=>?_,fun _=>⟨List.nodup_nil,by simp,OwnL.of_flat g1 (flat_flatten fun r hr=>(by rcases hm with ⟨_,_,hf⟩ | ⟨_,_,hf⟩ <;> exact hf r (List.mem_of_mem_drop (List.mem_of_mem_take hr))))⟩,by simp⟩
   have hn0:0 < n:=by rw [<- hlen];exact List.length_pos_iff.2 hne
   obtain ⟨b,hb,hc⟩:=g2 hn0
   exact ⟨b,i * sz',by rw [hbs (by omega),hb,Option.map_some,Addr.add_lit,Nat.zero_add],hc⟩
  split at hs
  ·rename_i sz' sep' rows' eo
   rw [show (st.ctx w β φ).ob o=_ from eo] at hp
   obtain ⟨hfit,bs,hx,hbs⟩:=hp
   split at hs
   ·simp only [Option.some.injEq,Prod.mk.injEq] at hs
    obtain ⟨rfl,rfl,rfl,rfl,rfl⟩:=hs
    exact ⟨key (.inl ⟨sep',eo,hq⟩) hfit bs hx hbs,by simp⟩
   ·cases hs
  ·rename_i sz' m rows' eo
   rw [show (st.ctx w β φ).ob o=_ from eo] at hp
   obtain ⟨hfit,bs,hx,hbs⟩:=hp
   split at hs
   ·simp only [Option.some.injEq,Prod.mk.injEq] at hs
    obtain ⟨rfl,rfl,rfl,rfl,rfl⟩:=hs
    exact ⟨key (.inr ⟨m,eo,hq⟩) hfit bs hx hbs,by simp⟩
   ·cases hs
  ·cases hs
 ·rename_i sz' rows'
  obtain ⟨S,hr,hM⟩:=hv
  have hr':Rep w (.sl sz' rows') x S:=hr
  split at hs
  ·simp only [Option.some.injEq,Prod.mk.injEq] at hs
   obtain ⟨rfl,rfl,rfl,rfl,rfl⟩:=hs
   exact ⟨src_of_rep hr' (fun _ us S' hr' _=>by have e:=flat_S hq hr';subst e;exact ⟨List.nodup_nil,by simp,OwnL.of_flat hr' (flat_flatten hq)⟩) (by simp),by simp⟩
  ·simp only [Option.some.injEq,Prod.mk.injEq] at hs
   obtain ⟨rfl,rfl,rfl,rfl,rfl⟩:=hs
   exact ⟨src_of_rep hr' (by simp) (fun _=>hM),by simp⟩
 ·simp only [Option.some.injEq,Prod.mk.injEq] at hs
  obtain ⟨rfl,-,rfl,rfl,rfl⟩:=hs
  obtain ⟨b,rfl⟩:=hv
  exact ⟨⟨by simp,b,0,rfl,[],[],.nil,fun h=>absurd rfl h,fun _=>⟨List.nodup_nil,by simp,.nil⟩,by simp⟩,by simp⟩
 ·cases hs

theorem run_append_none (t ty e:TypeId) (i:TypeInfo) (ht:P.underlying t=some (.slice e)) (hi:P.info? e=some i) (base base2:Option Addr) (n cap c2:Nat) (h:n <= cap) :
  (Builtin.append_ #[t,t] ty #[.slice base n cap,.slice base2 0 c2]).run P w=.ok (.slice base n cap) w:=by
 have hf:(Builtin.firstCells i.size 0 (.slice base2 0 c2)).run P w=.ok #[] w:=by
  cases base2 with
  | none=>simp [Builtin.firstCells]
  | some b=>simp [Builtin.firstCells,loadCells,loadCellsFrom]
 cases base with
 | none=>simp [Builtin.append_,run_underlying ht,sizeOf,typeInfo,hi,Builtin.lenOf,h,hf]
 | some b=>simp [Builtin.append_,run_underlying ht,sizeOf,typeInfo,hi,Builtin.lenOf,h,hf,storeCells]

theorem grownCap_ge (w:World) (need old:Nat) (e:TypeId):need <= grownCap w need old e:=by
 simp only [grownCap,Question.cut]
 omega

theorem app_grow (h:SR B N st β φ a w) {t e ty:TypeId} {i:TypeInfo} {z:Value} (hte:P.underlying t=some (.slice e)) (hi:P.info? e=some i) (hz:i.zero=some z) (hzs:z.cells.size=i.size) {zd:List D} (hzr:RepL w zd z.cells.toList [])
  {base1:Option Addr} {cap1:Nat} {rows1 rows2:List (List D)} {S1:List Nat} {olds:List Value} (hw1:∀ r ∈ rows1,r.length=i.size) (hr1:RepL w rows1.flatten olds S1)
  (hb1:rows1 ≠ [] -> ∃ b off,base1=some ⟨b,off,none⟩ /\ ∀ (j:Nat) (u:Value),olds[j]?=some u -> w.cell? ⟨b,off + j,none⟩=some u)
  (hnil:base1=none -> cap1=0)
  {ks1 ks2:List Nat} {sep1 sep2:Bool} (hks:∀ o ∈ ks1 ++ ks2,o < st.next)
  (hS1:(sep1=true -> S1.Nodup /\ (∀ x ∈ S1,∃ o ∈ ks1,x ∈ φ o) /\ OwnL w rows1.flatten olds S1) /\ (sep1=false -> ∀ x ∈ S1,¬ ∃ o,x ∈ φ o)) (hdis:∀ o ∈ ks1,o ∉ ks2)
  {v2:Value} (src:Src w (fun b=>∃ o,b ∈ φ o) φ i.size rows2 sep2 ks2 v2) (hne:rows2 ≠ []) (hg:cap1 < rows1.length + rows2.length)
  (hby:(rows1.length + rows2.length) * i.bytes <= 140737488355328) (h63:rows1.length + rows2.length <= 9223372036854775807) :
  ResM P B N st ((killAll st (ks1 ++ ks2)).addObj (.vec i.size (sep1 && sep2) (rows1 ++ rows2))) β φ a w (some (.one (.own st.next))) (Builtin.append_ #[t,t] ty #[.slice base1 rows1.length cap1,v2]):=by
 obtain ⟨hw2,base2,cap2,rfl,S2,us,hr2,hb2,hs2,hl2⟩:=src
 obtain ⟨b2,o2,rfl,hc2⟩:=hb2 hne
 have ho1:olds.length=rows1.length * i.size:=by rw [hr1.length,flatten_length hw1]
 have ho2:us.length=rows2.length * i.size:=by rw [hr2.length,flatten_length hw2]
 have hm:0 < rows2.length:=List.length_pos_iff.2 hne
 let need:=rows1.length + rows2.length
 let cap':=grownCap w need cap1 e
 have hcap':need <= cap':=grownCap_ge w need cap1 e
 let cells:=olds.toArray ++ us.toArray ++ Builtin.zeroCells z.cells (cap' - need)
 have hcs:cells.size=cap' * i.size:=by
  show (olds.toArray ++ us.toArray ++ Builtin.zeroCells z.cells (cap' - need)).size=_
  simp only [Array.size_append,List.size_toArray,size_zeroCells,hzs,ho1,ho2]
  rw [<- Nat.add_mul,<- Nat.add_mul]
  congr 1
  show need + (cap' - need)=cap'
  omega
 have hnews:∀ (j:Nat) (v:Value),us[j]?=some v -> w.cell? ((⟨b2,o2,none⟩:Addr).add j)=some v:=fun j v hj=>by rw [Addr.add_lit];exact hc2 j v hj
 have hrun:(Builtin.append_ #[t,t] ty #[.slice base1 rows1.length cap1,.slice (some ⟨b2,o2,none⟩) rows2.length cap2]).run P w=.ok (.slice (some ⟨w.heap.size,0,none⟩) need cap') (w.drew.alloc (.cells cells e)):=by
  cases hbase:base1 with
  | none =>
   have h0:rows1=[]:=Classical.byContradiction fun hne'=>by
    obtain ⟨b,off,hb,_⟩:=hb1 hne'
    rw [hbase] at hb;cases hb
   have hc0:=hnil hbase
   subst h0
   have hol:olds=[]:=List.eq_nil_of_length_eq_zero (by simpa using ho1)
   have hr:=run_append_nil (P:=P) w t ty e i z hte hi hz ⟨b2,o2,none⟩ rows2.length cap2 us ho2 hnews hm (by simp at h63;omega) (by simp at hby;omega)
   rw [hc0]
   show _=Result.ok (Value.slice _ (0 + rows2.length) (grownCap w (0 + rows2.length) cap1 e)) (w.drew.alloc (.cells (olds.toArray ++ us.toArray ++ Builtin.zeroCells z.cells (grownCap w (0 + rows2.length) cap1 e - (0 + rows2.length))) e))
   rw [hc0,hol,Nat.zero_add]
   simpa using hr
  | some b1 =>
   have hold:∀ (j:Nat) (v:Value),olds[j]?=some v -> w.cell? (b1.add j)=some v:=fun j v hj=>by
    by_cases h0:rows1=[]
    ·subst h0
     have hol:olds=[]:=List.eq_nil_of_length_eq_zero (by simpa using ho1)
     subst hol
     simp at hj
    ·obtain ⟨b,off,hb,hc⟩:=hb1 h0
     rw [hbase] at hb
     cases hb
     rw [Addr.add_lit]
     exact hc j v hj
   exact run_append_grow (P:=P) w t ty e i z hte hi hz b1 rows1.length cap1 olds ho1 hold ⟨b2,o2,none⟩ rows2.length cap2 us ho2 hnews hg (by omega) (growslice_fits hg hby)
 have hlt1:=hr1.lt
 have hlt2:=hr2.lt
 have hrep:RepL (w.drew.alloc (.cells cells e)) (rows1 ++ rows2).flatten (cells.toList.take ((rows1 ++ rows2).length * i.size)) (S1 ++ S2):=by
  have e1:cells.toList.take ((rows1 ++ rows2).length * i.size)=olds ++ us:=by
   show (olds.toArray ++ us.toArray ++ Builtin.zeroCells z.cells (cap' - need)).toList.take _=_
   simp only [Array.toList_append,List.length_append,Nat.add_mul]
   rw [List.take_append_of_le_length (by simp [ho1,ho2]),List.take_of_length_le (by simp [ho1,ho2])]
  rw [e1,List.flatten_append]
  have hs:w.heap.size <= (w.drew.alloc (.cells cells e)).heap.size:=by simp
  exact (hr1.frm hs (fun x hx=>heap_alloc_old w.drew _ (hlt1 x hx))).append (hr2.frm hs (fun x hx=>heap_alloc_old w.drew _ (hlt2 x hx)))
 have hown:sep1=true -> sep2=true -> OwnL (w.drew.alloc (.cells cells e)) (rows1 ++ rows2).flatten (cells.toList.take ((rows1 ++ rows2).length * i.size)) (S1 ++ S2):=fun a1 a2=>by
  have e1:cells.toList.take ((rows1 ++ rows2).length * i.size)=olds ++ us:=by
   show (olds.toArray ++ us.toArray ++ Builtin.zeroCells z.cells (cap' - need)).toList.take _=_
   simp only [Array.toList_append,List.length_append,Nat.add_mul]
   rw [List.take_append_of_le_length (by simp [ho1,ho2]),List.take_of_length_le (by simp [ho1,ho2])]
  rw [e1,List.flatten_append]
  have hs:w.heap.size <= (w.drew.alloc (.cells cells e)).heap.size:=by simp
  exact ((hS1.1 a1).2.2.frm hs (fun x hx=>heap_alloc_old w.drew _ (hlt1 x hx))).append ((hs2 a2).2.2.frm hs (fun x hx=>heap_alloc_old w.drew _ (hlt2 x hx)))
 have hroom:RepL (w.drew.alloc (.cells cells e)) (List.replicate (cap' - need) zd).flatten (cells.toList.drop ((rows1 ++ rows2).length * i.size)) []:=by
  have e1:cells.toList.drop ((rows1 ++ rows2).length * i.size)=(List.replicate (cap' - need) z.cells.toList).flatten:=by
   show (olds.toArray ++ us.toArray ++ Builtin.zeroCells z.cells (cap' - need)).toList.drop _=_
   simp only [Array.toList_append,List.length_append,Nat.add_mul]
   rw [List.drop_append,List.drop_of_length_le (by simp [ho1,ho2]),List.nil_append,show (rows1.length * i.size + rows2.length * i.size - (olds ++ us).length)=0 from by simp [ho1,ho2],List.drop_zero]
   exact replicate_range z.cells (cap' - need)
  rw [e1]
  exact (repL_replicate hzr _).frm0 (by simp)
 have hdisS:sep1=true -> sep2=true -> ∀ x ∈ S1,∀ y ∈ S2,x ≠ y:=fun a1 a2 x hx y hy exy=>by
  subst exy
  obtain ⟨o1,k1,p1⟩:=(hS1.1 a1).2.1 x hx
  obtain ⟨o2,k2,p2⟩:=(hs2 a2).2.1 x hy
  exact h.disj o1 o2 (fun e=>hdis o1 k1 (e ▸ k2)) x p1 p2
 have hin:∀ x ∈ S1 ++ S2,∀ o,x ∈ φ o -> o ∈ ks1 ++ ks2:=fun x hx o ho=>by
  rcases List.mem_append.1 hx with hx | hx
  ·cases h1:sep1 with
   | true =>
    obtain ⟨o1,k1,p1⟩:=(hS1.1 h1).2.1 x hx
    exact List.mem_append_left _ (Classical.byContradiction fun hn=>h.disj o1 o (fun e=>hn (e ▸ k1)) x p1 ho)
   | false=>exact absurd ⟨o,ho⟩ (hS1.2 h1 x hx)
  ·cases h2:sep2 with
   | true =>
    obtain ⟨o1,k1,p1⟩:=(hs2 h2).2.1 x hx
    exact List.mem_append_right _ (Classical.byContradiction fun hn=>h.disj o1 o (fun e=>hn (e ▸ k1)) x p1 ho)
   | false=>exact absurd ⟨o,ho⟩ (hl2 h2 x hx)
 obtain ⟨β',φ',le,sr,hp⟩:=h.newVec (ks:=ks1 ++ ks2) (w':=w.drew.alloc (.cells cells e)) hks (((Frm.refl w _).drew).alloc _) (sz:=i.size) (cap:=cap') (b:=w.heap.size) (sep:=sep1 && sep2)
  (rows:=rows1 ++ rows2) (S:=S1 ++ S2) (E:=if sep1 && sep2 then S1 ++ S2 else []) (T:=e) (vs:=cells)
  (fun r hr=>(List.mem_append.1 hr).elim (hw1 r) (hw2 r)) (by rw [List.length_append];exact hcap') (heap_alloc_new w.drew _) ⟨hcs,_,hroom⟩ hrep
  (fun x hx=>by
    cases hx with
    | head=>simp
    | tail _ hx =>
     cases hsep:(sep1 && sep2) with
     | false=>rw [hsep] at hx;cases hx
     | true =>
      rw [hsep] at hx
      simp only [if_true] at hx
      simp only [Bool.and_eq_true] at hsep
      rcases List.mem_append.1 hx with hx | hx
      ·obtain ⟨o1,k1,p1⟩:=(hS1.1 hsep.1).2.1 x hx
       exact ⟨by have:=hlt1 x hx;simp;omega,.inr ⟨o1,List.mem_append_left _ k1,p1⟩⟩
      ·obtain ⟨o1,k1,p1⟩:=(hs2 hsep.2).2.1 x hx
       exact ⟨by have:=hlt2 x hx;simp;omega,.inr ⟨o1,List.mem_append_right _ k1,p1⟩⟩)
  (by
    cases hsep:(sep1 && sep2) with
    | false=>simp
    | true =>
     simp only [Bool.and_eq_true] at hsep
     simp only [if_true]
     refine List.nodup_cons.2 ⟨fun hx=>?_,List.nodup_append.2 ⟨(hS1.1 hsep.1).1,(hs2 hsep.2).1,hdisS hsep.1 hsep.2⟩⟩
     rcases List.mem_append.1 hx with hx | hx
     ·have:=hlt1 _ hx;omega
     ·have:=hlt2 _ hx;omega)
  (by
    cases hsep:(sep1 && sep2) with
    | false =>
     simp only [Bool.false_eq_true,if_false]
     intro x hx
     refine ⟨?_,hin x hx⟩
     have:x < w.heap.size:=(List.mem_append.1 hx).elim (hlt1 x) (hlt2 x)
     simp
     omega
    | true =>
     simp only [if_true]
     simp only [Bool.and_eq_true] at hsep
     exact ⟨List.nodup_append.2 ⟨(hS1.1 hsep.1).1,(hs2 hsep.2).1,hdisS hsep.1 hsep.2⟩,fun x hx=>hx,hown hsep.1 hsep.2⟩)
 rw [List.length_append] at hp
 exact ⟨β',φ',_,le,sr,by show (killAll st (ks1 ++ ks2)).env=_;rw [killAll_env],_,_,rfl,hrun,hp⟩

theorem app_own (h:SR B N st β φ a w) {t e ty:TypeId} {i:TypeInfo} {z:Value} (hte:P.underlying t=some (.slice e)) (hi:P.info? e=some i) (hz:i.zero=some z) (hzs:z.cells.size=i.size) {zd:List D} (hzr:RepL w zd z.cells.toList [])
  {o:Nat} {sep1:Bool} {rows1 rows2:List (List D)} (eo:st.obj o=.vec i.size sep1 rows1) {ks2:List Nat} {sep2:Bool} (hks:∀ o ∈ ks2,o < st.next) (hdis:o ∉ ks2)
  {v2:Value} (src:Src w (fun b=>∃ o,b ∈ φ o) φ i.size rows2 sep2 ks2 v2)
  (hby:(rows1.length + rows2.length) * i.bytes <= 140737488355328) (h63:rows1.length + rows2.length <= 9223372036854775807) :
  ResM P B N st ((killAll st (o :: ks2)).addObj (.vec i.size (sep1 && sep2) (rows1 ++ rows2))) β φ a w (some (.one (.own st.next))) (Builtin.append_ #[t,t] ty #[.slice (β o).base rows1.length (β o).cap,v2]):=by
 have hon:o < st.next:=lt_next h (by rw [eo];simp)
 have hks':∀ k ∈ o :: ks2,k < st.next:=fun k hk=>by
  cases hk with
  | head=>exact hon
  | tail _ hk=>exact hks k hk
 have ho:=h.objs o
 unfold ObjRel at ho
 rw [show (st.ctx w β φ).ob o=_ from eo] at ho
 obtain ⟨hw1,hcap,ho⟩:=ho
 have hcap':rows1.length <= (β o).cap:=hcap
 rcases ho with ⟨hφ,h0⟩ | ⟨b,T,S1,E,vs,hb,hheap,hvs,hrep,hφ,hS⟩
 ·have h0':(β o).cap=0:=h0
  have hr1:rows1=[]:=List.eq_nil_of_length_eq_zero (by omega)
  by_cases hne:rows2=[]
  ·subst hr1
   subst hne
   obtain ⟨_,base2,cap2,rfl,_⟩:=src
   obtain ⟨β',φ',le,sr,hp⟩:=h.newVec0 hks' i.size (sep1 && sep2) (β o).base
   refine ⟨β',φ',w,le,sr,by show (killAll st (o :: ks2)).env=_;rw [killAll_env],_,_,rfl,run_append_none t ty e i hte hi _ _ _ _ _ (by simp),?_⟩
   rw [h0']
   exact hp
  ·subst hr1
   have hn:(β o).base=none -> (β o).cap=0:=fun _=>h0'
   exact app_grow (ks1:=[o]) (ks2:=ks2) (sep1:=sep1) h hte hi hz hzs hzr (rows1:=[]) (olds:=[]) (S1:=[]) (by simp) .nil (fun hc=>absurd rfl hc) hn (by simpa using hks') ⟨fun _=>⟨List.nodup_nil,by simp,.nil⟩,by simp⟩ (by simpa using hdis) src hne
    (by have:=List.length_pos_iff.2 hne;simp;omega) hby h63
 ·have hb':(β o).base=some ⟨b,0,none⟩:=hb
  have hheap':w.heap[b]?=some (.cells vs T (0,0)):=hheap
  have hvs':vs.size=(β o).cap * i.size:=hvs.1
  obtain ⟨_,sd,hsd⟩:=hvs
  have hrep':RepL w rows1.flatten (vs.toList.take (rows1.length * i.size)) S1:=hrep
  have hbφ:b ∈ φ o:=by rw [hφ];simp
  have hS1:(sep1=true -> S1.Nodup /\ (∀ x ∈ S1,x ∈ φ o) /\ OwnL w rows1.flatten (vs.toList.take (rows1.length * i.size)) S1) /\ (sep1=false -> ∀ x ∈ S1,¬ ∃ o,x ∈ φ o):=by
   cases sep1 with
   | true=>exact ⟨fun _=>⟨hS.1,fun x hx=>by rw [hφ];exact List.mem_cons_of_mem _ (hS.2.1 x hx),hS.2.2⟩,by simp⟩
   | false=>exact ⟨by simp,fun _=>hS⟩
  have hbS1:b ∉ S1:=fun hx=>by
   cases hsep:sep1 with
   | true =>
    subst hsep
    have hnd:=h.nodup o
    rw [hφ] at hnd
    exact (List.nodup_cons.1 hnd).1 (hS.2.1 b hx)
   | false=>exact hS1.2 hsep b hx ⟨o,hbφ⟩
  by_cases hroom:rows1.length + rows2.length <= (β o).cap
  ·obtain ⟨hw2,base2,cap2,rfl,S2,us,hr2,hb2,hs2,hl2⟩:=src
   have ho2:us.length=rows2.length * i.size:=by rw [hr2.length,flatten_length hw2]
   have hbS2:b ∉ S2:=fun hx=>by
    cases hsep:sep2 with
    | true =>
     obtain ⟨o2,k2,p2⟩:=(hs2 hsep).2.1 b hx
     exact h.disj o o2 (fun e=>hdis (e ▸ k2)) b hbφ p2
    | false=>exact hl2 hsep b hx ⟨o,hbφ⟩
   have hfit:rows1.length * i.size + us.length <= vs.size:=by
    rw [ho2,hvs',<- Nat.add_mul]
    exact Nat.mul_le_mul_right _ hroom
   let cells:=splice vs.toList (rows1.length * i.size) us
   have hcl:cells.length=(β o).cap * i.size:=by
    show (splice vs.toList (rows1.length * i.size) us).length=_
    rw [splice_length (by simpa using hfit),Array.length_toList,hvs']
   have hrun:(Builtin.append_ #[t,t] ty #[.slice (β o).base rows1.length (β o).cap,.slice base2 rows2.length cap2]).run P w=.ok (.slice (some ⟨b,0,none⟩) (rows1.length + rows2.length) (β o).cap) (w.setRow b cells.toArray):=by
    by_cases hne:rows2=[]
    ·subst hne
     have hu:us=[]:=List.eq_nil_of_length_eq_zero (by simpa using ho2)
     have hc:cells=vs.toList:=by
      show splice vs.toList (rows1.length * i.size) us=_
      rw [hu]
      simp [splice]
     rw [hc,hb',show vs.toList.toArray=vs from by simp,setRow_self w b vs T (0,0) hheap']
     exact run_append_none t ty e i hte hi _ _ _ _ _ (by simpa using hroom)
    ·obtain ⟨b2,o2,rfl,hc2⟩:=hb2 hne
     have hone:∀ u ∈ us,u.oneCell'=true:=hr2.one
     rw [hb']
     have hnews:∀ (j:Nat) (v:Value),us[j]?=some v -> w.cell? ((⟨b2,o2,none⟩:Addr).add j)=some v:=fun j v hj=>by rw [Addr.add_lit];exact hc2 j v hj
     have hf:=run_firstCells_some (P:=P) w i.size rows2.length ⟨b2,o2,none⟩ rows2.length cap2 us ho2 hnews
     have hst:=run_storeCells_at P b (rows1.length * i.size) T us 0 vs w hheap' (by simpa using hfit) hone
     simp only [Nat.add_zero] at hst
     have hc:cells=vs.toList.take (rows1.length * i.size) ++ (us ++ vs.toList.drop (rows1.length * i.size + us.length)):=by
      show splice _ _ _=_
      simp [splice]
     rw [hc]
     simp [Builtin.append_,run_underlying hte,sizeOf,typeInfo,hi,Builtin.lenOf,hroom,hf,Addr.add_lit,hst]
   have hk:∀ x,x ≠ b -> (w.setRow b cells.toArray).heap[x]?=w.heap[x]?:=fun x hx=>setRow_other _ _ _ _ hx
   have hsz0:w.heap.size <= (w.setRow b cells.toArray).heap.size:=by simp
   have hdisS:sep1=true -> sep2=true -> ∀ x ∈ S1,∀ y ∈ S2,x ≠ y:=fun a1 a2 x hx y hy exy=>by
    subst exy
    obtain ⟨o2,k2,p2⟩:=(hs2 a2).2.1 x hy
    exact h.disj o o2 (fun e=>hdis (e ▸ k2)) x ((hS1.1 a1).2.1 x hx) p2
   have hin:∀ x ∈ S1 ++ S2,∀ o',x ∈ φ o' -> o' ∈ o :: ks2:=fun x hx o' ho'=>by
    rcases List.mem_append.1 hx with hx | hx
    ·cases h1:sep1 with
     | true=>exact Classical.byContradiction fun hn=>h.disj o o' (fun e=>hn (e ▸ List.mem_cons_self ..)) x ((hS1.1 h1).2.1 x hx) ho'
     | false=>exact absurd ⟨o',ho'⟩ (hS1.2 h1 x hx)
    ·cases h2:sep2 with
     | true =>
      obtain ⟨o1,k1,p1⟩:=(hs2 h2).2.1 x hx
      exact List.mem_cons_of_mem _ (Classical.byContradiction fun hn=>h.disj o1 o' (fun e=>hn (e ▸ k1)) x p1 ho')
     | false=>exact absurd ⟨o',ho'⟩ (hl2 h2 x hx)
   have e1:cells.toArray.toList.take ((rows1 ++ rows2).length * i.size)=vs.toList.take (rows1.length * i.size) ++ us:=by
    show (splice vs.toList (rows1.length * i.size) us).take _=_
    unfold splice
    have hl:(vs.toList.take (rows1.length * i.size) ++ us).length=(rows1 ++ rows2).length * i.size:=by
     have h1:(vs.toList.take (rows1.length * i.size)).length=rows1.length * i.size:=by
      rw [List.length_take]
      have:vs.toList.length=vs.size:=Array.length_toList
      omega
     rw [List.length_append,h1,ho2,List.length_append,Nat.add_mul]
    rw [<- hl,List.take_append_of_le_length (Nat.le_refl _),List.take_length]
   obtain ⟨β',φ',le,sr,hp⟩:=h.newVec (ks:=o :: ks2) (w':=w.setRow b cells.toArray) hks' ((Frm.refl w _).setRow b (fun _=>⟨o,List.mem_cons_self ..,hbφ⟩) _) (sz:=i.size) (cap:=(β o).cap) (b:=b) (sep:=sep1 && sep2)
    (rows:=rows1 ++ rows2) (S:=S1 ++ S2) (E:=if sep1 && sep2 then S1 ++ S2 else []) (T:=T) (vs:=cells.toArray)
    (fun r hr=>(List.mem_append.1 hr).elim (hw1 r) (hw2 r)) (by rw [List.length_append];exact hroom) (setRow_heap w b vs _ T (0,0) hheap') ⟨by simpa using hcl,sd.drop us.length,by
      have e1:cells.toArray.toList.drop ((rows1 ++ rows2).length * i.size)=(vs.toList.drop (rows1.length * i.size)).drop us.length:=by
       show (splice vs.toList (rows1.length * i.size) us).drop _=_
       have hk:(rows1 ++ rows2).length * i.size=rows1.length * i.size + us.length:=by rw [List.length_append,Nat.add_mul,ho2]
       rw [splice_drop (by simpa using hfit) (by omega),List.drop_drop,hk]
      rw [e1]
      have hsl:=hsd.length
      rw [List.length_drop,Array.length_toList] at hsl
      have:=(RepL.split0 (w:=w) (sd.take us.length) (by rw [List.take_append_drop];exact hsd)).2
      rw [List.length_take,Nat.min_eq_left (by omega)] at this
      exact this.frm0 (by simp)⟩
    (by
      rw [e1,List.flatten_append]
      exact (hrep'.frm hsz0 (fun x hx=>hk x (fun e=>hbS1 (e ▸ hx)))).append (hr2.frm hsz0 (fun x hx=>hk x (fun e=>hbS2 (e ▸ hx)))))
    (fun x hx=>by
      cases hx with
      | head=>exact ⟨by simpa using lt_of_heap hheap',.inr ⟨o,List.mem_cons_self ..,hbφ⟩⟩
      | tail _ hx =>
       cases hsep:(sep1 && sep2) with
       | false=>rw [hsep] at hx;cases hx
       | true =>
        rw [hsep] at hx
        simp only [if_true] at hx
        simp only [Bool.and_eq_true] at hsep
        rcases List.mem_append.1 hx with hx | hx
        ·exact ⟨by simpa using hrep'.lt x hx,.inr ⟨o,List.mem_cons_self ..,(hS1.1 hsep.1).2.1 x hx⟩⟩
        ·obtain ⟨o1,k1,p1⟩:=(hs2 hsep.2).2.1 x hx
         exact ⟨by simpa using hr2.lt x hx,.inr ⟨o1,List.mem_cons_of_mem _ k1,p1⟩⟩)
    (by
      cases hsep:(sep1 && sep2) with
      | false=>simp
      | true =>
       simp only [Bool.and_eq_true] at hsep
       simp only [if_true]
       exact List.nodup_cons.2 ⟨fun hx=>(List.mem_append.1 hx).elim hbS1 hbS2,List.nodup_append.2 ⟨(hS1.1 hsep.1).1,(hs2 hsep.2).1,hdisS hsep.1 hsep.2⟩⟩)
    (by
      cases hsep:(sep1 && sep2) with
      | false =>
       simp only [Bool.false_eq_true,if_false]
       intro x hx
       refine ⟨?_,hin x hx⟩
       have:x ≠ b:=fun e=>(List.mem_append.1 hx).elim (fun hx=>hbS1 (e ▸ hx)) (fun hx=>hbS2 (e ▸ hx))
       simpa using this
      | true =>
       simp only [if_true]
       simp only [Bool.and_eq_true] at hsep
       exact ⟨List.nodup_append.2 ⟨(hS1.1 hsep.1).1,(hs2 hsep.2).1,hdisS hsep.1 hsep.2⟩,fun x hx=>hx,by
        rw [e1,List.flatten_append]
        exact ((hS1.1 hsep.1).2.2.frm hsz0 (fun x hx=>hk x (fun e=>hbS1 (e ▸ hx)))).append ((hs2 hsep.2).2.2.frm hsz0 (fun x hx=>hk x (fun e=>hbS2 (e ▸ hx))))⟩)
   rw [List.length_append] at hp
   exact ⟨β',φ',_,le,sr,by show (killAll st (o :: ks2)).env=_;rw [killAll_env],_,_,rfl,hrun,hp⟩
  ·have hne:rows2 ≠ []:=fun e=>by subst e;simp at hroom;omega
   refine app_grow (ks1:=[o]) (ks2:=ks2) (sep1:=sep1) h hte hi hz hzs hzr (olds:=vs.toList.take (rows1.length * i.size)) hw1 hrep' (fun _=>⟨b,0,hb',fun j u hj=>?_⟩) (fun hn=>?_) (by simpa using hks')
    ⟨fun hs=>⟨(hS1.1 hs).1,fun x hx=>⟨o,by simp,(hS1.1 hs).2.1 x hx⟩,(hS1.1 hs).2.2⟩,hS1.2⟩ (by simpa using hdis) src hne (by omega) hby h63
   ·rw [Nat.zero_add]
    refine (cell_of_heap hheap').trans ?_
    rw [<- Array.getElem?_toList]
    rw [List.getElem?_take] at hj
    split at hj
    ·exact hj
    ·cases hj
   ·rw [hb'] at hn;cases hn

theorem srcS_flat {s sz:Nat} {rows:List (List D)} {sep:Bool} {ks:List Nat} {v:AV} {q:Prop} (hs:srcS st true s v=some (q,sz,rows,sep,ks)):sep=true /\ ks=[]:=by
 unfold srcS at hs
 simp only [if_true] at hs
 split at hs
 ·split at hs <;> first | (cases hs;done) | (simp only [Option.some.injEq,Prod.mk.injEq] at hs;obtain ⟨_,_,_,rfl,rfl⟩:=hs;exact ⟨rfl,rfl⟩)
 ·split at hs <;> first | (cases hs;done) | (simp only [Option.some.injEq,Prod.mk.injEq] at hs;obtain ⟨_,_,_,rfl,rfl⟩:=hs;exact ⟨rfl,rfl⟩)
 ·simp only [Option.some.injEq,Prod.mk.injEq] at hs;obtain ⟨_,_,_,rfl,rfl⟩:=hs;exact ⟨rfl,rfl⟩
 ·simp only [Option.some.injEq,Prod.mk.injEq] at hs;obtain ⟨_,_,_,rfl,rfl⟩:=hs;exact ⟨rfl,rfl⟩
 ·cases hs

theorem run_append_room {t ty e:TypeId} {i:TypeInfo} (hte:P.underlying t=some (.slice e)) (hi:P.info? e=some i) {v2:Value} {m:Nat} {us:List Value} (hlen:(Builtin.lenOf v2).run P w=.ok m w) (hf:(Builtin.firstCells i.size m v2).run P w=.ok us.toArray w)
  {bs:Option Addr} {n cap:Nat} (hroom:n + m <= cap) (hst:∀ ad,bs=some ad -> (storeCells (ad.add (n * i.size)) us).run P w=.ok () w') (hnone:bs=none -> w'=w) :
  (Builtin.append_ #[t,t] ty #[.slice bs n cap,v2]).run P w=.ok (.slice bs (n + m) cap) w':=by
 cases bs with
 | none =>
  rw [hnone rfl]
  simp [Builtin.append_,run_underlying hte,sizeOf,typeInfo,hi,hlen,hroom,hf]
 | some ad =>
  have:=hst ad rfl
  simp [Builtin.append_,run_underlying hte,sizeOf,typeInfo,hi,hlen,hroom,hf,this]

theorem src_run {s:Nat} {M:Nat -> Prop} {rows:List (List D)} {v:Value} (src:Src w M φ s rows true [] v) :
  ∃ us,RepL w rows.flatten us [] /\ us.length=rows.length * s /\ (Builtin.lenOf v).run P w=.ok rows.length w /\ ∀ k,k <= rows.length -> (Builtin.firstCells s k v).run P w=.ok (us.take (k * s)).toArray w:=by
 obtain ⟨hw2,base2,cap2,rfl,S2,us,hr2,hb2,hs2,_⟩:=src
 have hS:S2=[]:=List.eq_nil_iff_forall_not_mem.2 (fun x hx=>by obtain ⟨o,ho,_⟩:=(hs2 rfl).2.1 x hx;cases ho)
 subst hS
 have ho2:us.length=rows.length * s:=by rw [hr2.length,flatten_length hw2]
 refine ⟨us,hr2,ho2,by simp [Builtin.lenOf],fun k hk=>?_⟩
 by_cases hne:rows=[]
 ·subst hne
  have hk0:k=0:=by simpa using hk
  subst hk0
  cases base2 with
  | none=>simp [Builtin.firstCells]
  | some b=>simp [Builtin.firstCells,loadCells,loadCellsFrom]
 ·obtain ⟨b2,o2,rfl,hc2⟩:=hb2 hne
  have hks:k * s <= rows.length * s:=Nat.mul_le_mul_right _ hk
  exact run_firstCells_some (P:=P) w s k ⟨b2,o2,none⟩ rows.length cap2 (us.take (k * s)) (by rw [List.length_take,ho2];omega) (fun j v hj=>by
   rw [List.getElem?_take] at hj
   split at hj
   ·rw [Addr.add_lit];exact hc2 j v hj
   ·cases hj)

theorem part_addr (h:SR B N st β φ a w) {o sz:Nat} {rows:List (List D)} (hm:Mem (st.obj o) sz rows) {i k:Nat} {bs:Option Addr} (hbs:i < (β o).cap -> bs=(β o).base.map (·.add (i * sz))) {ad:Addr} (had:bs=some ad) :
  i + k < (β o).cap -> some (ad.add (k * sz))=(β o).base.map (·.add ((i + k) * sz)):=fun hlt=>by
 obtain ⟨_,_,h3⟩:=mem_rep h hm
 rcases h3 with ⟨h0,_⟩ | ⟨b,T,E,sd,vs,hb,_⟩
 ·omega
 ·have h1:=hbs (by omega)
  rw [hb,Option.map_some,Addr.add_lit,had] at h1
  cases h1
  rw [hb,Option.map_some,Addr.add_lit,Addr.add_lit,Nat.add_mul]
  congr 2
  omega

theorem part_some (h:SR B N st β φ a w) {o sz:Nat} {rows:List (List D)} (hm:Mem (st.obj o) sz rows) {i:Nat} {bs:Option Addr} (hbs:i < (β o).cap -> bs=(β o).base.map (·.add (i * sz))) (hlt:i < (β o).cap):∃ ad,bs=some ad:=by
 obtain ⟨_,_,h3⟩:=mem_rep h hm
 rcases h3 with ⟨h0,_⟩ | ⟨b,T,E,sd,vs,hb,_⟩
 ·omega
 ·exact ⟨_,by rw [hbs hlt,hb];rfl⟩

theorem appendS_sound (h:SR B N st β φ a w) {t ty:TypeId} {u v:AV} {q:Prop} {r:Option AV} {p1 p2:Value} (hs:appendS P st t u v=some (q,r,st')) (hq:q)
  (hu:AVRel (st.ctx w β φ) u p1) (hv:AVRel (st.ctx w β φ) v p2):ResM P B N st st' β φ a w r (Builtin.append_ #[t,t] ty #[p1,p2]):=by
 unfold appendS at hs
 split at hs
 ·rename_i e s y ht
  split at hs
  ·rename_i zs q1 sz2 rows2 sep2 ks2 hz hsrc
   obtain ⟨hte,i,hi,hsz,hyy⟩:=te_spec ht
   obtain ⟨i',z,hi',hzv,hzr,hzs,_⟩:=tz_spec (w:=w) hz
   rw [hi] at hi'
   cases hi'
   subst hsz
   subst hyy
   split at hs
   ·rename_i o
    split at hs
    ·rename_i sz1 sep1 rows1 eo
     simp only [Option.some.injEq,Prod.mk.injEq] at hs
     obtain ⟨rfl,rfl,rfl⟩:=hs
     obtain ⟨hq1,rfl,rfl,hs0,hzl,hdis,hby,h63⟩:=hq
     obtain ⟨src,hks⟩:=srcS_sound h hsrc hq1 rfl hv
     obtain ⟨hn,hp⟩:=hu
     rw [show (st.ctx w β φ).ob o=_ from eo] at hp
     simp only at hp
     subst hp
     exact app_own h hte hi hzv hzs hzr eo hks hdis src hby h63
    ·cases hs
   ·simp only [Option.some.injEq,Prod.mk.injEq] at hs
    obtain ⟨rfl,rfl,rfl⟩:=hs
    obtain ⟨hq1,rfl,hs0,hzl,hby,h63⟩:=hq
    obtain ⟨src,hks⟩:=srcS_sound h hsrc hq1 rfl hv
    obtain ⟨b,rfl⟩:=hu
    by_cases hne:rows2=[]
    ·subst hne
     obtain ⟨_,base2,cap2,rfl,_⟩:=src
     obtain ⟨β',φ',le,sr,hp⟩:=h.newVec0 hks i.size sep2 b
     exact ⟨β',φ',w,le,sr,by show (killAll st ks2).env=_;rw [killAll_env],_,_,rfl,run_append_none t ty e i hte hi _ _ _ _ _ (by simp),hp⟩
    ·have:=app_grow (ks1:=[]) (ks2:=ks2) (sep1:=true) (cap1:=0) (base1:=b) (rows1:=[]) (olds:=[]) (S1:=[]) (ty:=ty) h hte hi hzv hzs hzr (by simp) .nil (fun hc=>absurd rfl hc) (fun _=>rfl) (by simpa using hks) ⟨fun _=>⟨List.nodup_nil,by simp,.nil⟩,by simp⟩ (by simp) src hne
      (by have:=List.length_pos_iff.2 hne;simp;omega) (by simpa using hby) (by simpa using h63)
     simpa using this
   ·rename_i o i' n
    split at hs
    ·rename_i sz1 sep1 rows1 q' sz2' rows2' sepx ksx eo hsrc'
     simp only [Option.some.injEq,Prod.mk.injEq] at hs
     obtain ⟨rfl,rfl,rfl⟩:=hs
     obtain ⟨hq1,hf,rfl,rfl,hfit⟩:=hq
     obtain ⟨src,_⟩:=srcS_sound h hsrc' hq1 rfl hv
     obtain ⟨hn,hp⟩:=hu
     rw [show (st.ctx w β φ).ob o=_ from eo] at hp
     obtain ⟨hin,bs,rfl,hbs⟩:=hp
     have hm:Mem (st.obj o) i.size rows1:=.inl ⟨sep1,eo,hf⟩
     obtain ⟨m1,m2,_⟩:=mem_rep h hm
     obtain ⟨rfl,rfl⟩:=srcS_flat hsrc'
     obtain ⟨us,hr2,hul,hlenr,hrun⟩:=src_run (P:=P) src
     have hrun':=hrun _ (Nat.le_refl _)
     rw [<- hul,List.take_length] at hrun'
     obtain ⟨w',le,sr,hw0,hst⟩:=h.rows (P:=P) (i:=i' + n) hm src.wid (srcS_flatq hsrc' hq1) (by omega) hr2
     rw [eo] at le sr
     refine ⟨β,φ,w',le,sr,rfl,_,.slice bs (n + rows2'.length) ((β o).cap - i'),rfl,?_,?_⟩
     ·exact run_append_room (P:=P) (ty:=ty) (t:=t) hte hi hlenr hrun' (show n + rows2'.length <= (β o).cap - i' by omega) (fun ad had=>hst _ (part_addr h hm hbs had)) (fun hnone=>by
       refine hw0 (List.eq_nil_of_length_eq_zero (Classical.byContradiction fun hne=>?_))
       obtain ⟨ad,had⟩:=part_some h hm hbs (by omega)
       rw [hnone] at had
       cases had)
     ·refine ⟨hn,?_⟩
      rw [show ((st.setObj o (.vec i.size sep1 (lay rows1 (i' + n) rows2'))).ctx w' β φ).ob o=_ from St.obj_setObj_same st o _]
      exact ⟨by rw [lay_length (by omega)];omega,bs,rfl,hbs⟩
    ·cases hs
   ·cases hs
  ·cases hs
 ·cases hs
end
end Go.Abs
