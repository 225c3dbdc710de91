/- clear, copy, and append of new zero elements, at parts of owned vectors. -/
import Derived.Test.YtcnddedeeplbcaaGreatAbsApp
namespace Go.Abs
set_option linter.unusedVariables false
set_option linter.unusedSimpArgs false

def clearS (P:Program) (st:St) (t:TypeId):AV -> Out
 | .one (.part o i n)=>match te P t with
  | some (e,s,_)=>match tz P e,st.obj o with
   | some zs,.vec sz sep rows=>some (sz=s /\ zs.length=s /\ flatRows rows /\ tflat P e=true,some (.tup []),st.setObj o (.vec sz sep (lay rows i (List.replicate n zs))))
   | _,_=>none
  | none=>none
 | _=>none

def copyP (P:Program) (st:St) (t:TypeId):AV -> AV -> Out
 | .one (.part o i n),v=>match te P t with
  | some (_,s,_)=>match srcS st true s v,st.obj o with
   | some (q2,sz2,rows2,_,_),.vec sz sep rows=>some (q2 /\ sz=s /\ sz2=s /\ flatRows rows,some (.one (.dat (.int .i64 ((Nat.min rows2.length n:Nat):Int)))),st.setObj o (.vec sz sep (lay rows i (rows2.take n))))
   | some (q2,sz2,rows2,_,_),.wide sz m rows=>some (q2 /\ sz=s /\ sz2=s /\ flatRows rows,some (.one (.dat (.int .i64 ((Nat.min rows2.length n:Nat):Int)))),st.setObj o (.wide sz m (lay rows i (rows2.take n))))
   | _,_=>none
  | none=>none
 | _,_=>none

def copyS (P:Program) (st:St) (t:TypeId) (u v:AV):Out :=
 match u with
 | .one (.own o)=>match st.obj o with
  | .vec _ _ rows=>copyP P st t (.one (.part o 0 rows.length)) v
  | _=>none
 | u=>copyP P st t u v

def appMakeS (P:Program) (st:St) (t:TypeId):AV -> AV -> Out
 | .one (.part o i n),.one (.dat (.int _ l))=>match te P t with
  | some (e,s,y)=>match tz P e,st.obj o with
   | some zs,.wide sz _ rows=>some (sz=s /\ zs.length=s /\ 0 <= l /\ l <= 9223372036854775807 /\ 0 < sz /\ rows.length < i + n + l.toNat /\ (n + l.toNat) * y <= 140737488355328 /\ n + l.toNat <= 9223372036854775807 /\ flatRows rows,
     some (.one (.own st.next)),st.addObj (.vec sz true ((rows.drop i).take n ++ List.replicate l.toNat zs)))
   | _,_=>none
  | none=>none
 | .one .emp,.one (.dat (.int _ l))=>match te P t with
  | some (e,s,y)=>match tz P e with
   | some zs=>some (zs.length=s /\ 0 < l /\ l <= 9223372036854775807 /\ 0 < s /\ l.toNat * y <= 140737488355328,some (.one (.own st.next)),st.addObj (.vec s true (List.replicate l.toNat zs)))
   | none=>none
  | none=>none
 | _,_=>none

section
variable {P:Program} {B:Base} {N:Nat} {st st':St} {β:Nat -> Info} {φ:Nat -> List Nat} {a:Act} {w w':World}

theorem zeroCells_list (z:Array Value) (n:Nat):(Builtin.zeroCells z n).toList=(List.replicate n z.toList).flatten:=replicate_range z n

theorem tflat_zs {t:TypeId} {zs:List D} (hz:tz P t=some zs) (h:tflat P t=true):∀ d ∈ zs,d.flat=true:=by
 unfold tflat at h
 rw [hz] at h
 exact List.all_eq_true.1 h

theorem clearS_sound (h:SR B N st β φ a w) {t ty:TypeId} {u:AV} {q:Prop} {r:Option AV} {p:Value} (hs:clearS P st t u=some (q,r,st')) (hq:q) (hu:AVRel (st.ctx w β φ) u p) :
  ResM P B N st st' β φ a w r (Builtin.clear_ #[t] ty #[p]):=by
 unfold clearS at hs
 split at hs
 ·rename_i o i n
  split at hs
  ·rename_i e s y ht
   split at hs
   ·rename_i zs sz sep rows hz eo
    simp only [Option.some.injEq,Prod.mk.injEq] at hs
    obtain ⟨rfl,rfl,rfl⟩:=hs
    obtain ⟨rfl,hzl,hf,hzf⟩:=hq
    obtain ⟨hte,inf,hi,hsz,_⟩:=te_spec ht
    obtain ⟨i',z,hi',hzv,hzr,hzs,hzm⟩:=tz_spec (w:=w) hz
    rw [hi] at hi'
    cases hi'
    obtain ⟨hn,hp⟩:=hu
    rw [show (st.ctx w β φ).ob o=_ from eo] at hp
    obtain ⟨hin,bs,rfl,hbs⟩:=hp
    have hm:Mem (st.obj o) sz rows:=.inl ⟨sep,eo,hf⟩
    obtain ⟨m1,m2,_⟩:=mem_rep h hm
    have hus:RepL w (List.replicate n zs).flatten (Builtin.zeroCells z.cells n).toList []:=by rw [zeroCells_list];exact repL_replicate hzr n
    obtain ⟨w',le,sr,hw0,hst⟩:=h.rows (P:=P) (i:=i) hm (rs:=List.replicate n zs) (fun r hr=>by rw [List.eq_of_mem_replicate hr];exact hzl) (fun r hr=>by rw [List.eq_of_mem_replicate hr];exact tflat_zs hz hzf) (by simpa using hin) hus
    rw [eo] at le sr
    refine ⟨β,φ,w',le,sr,rfl,_,_,rfl,?_,⟨#[],rfl,rfl,fun j a hj=>by simp at hj⟩⟩
    cases n with
    | zero =>
     rw [hw0 rfl]
     cases bs <;> simp [Builtin.clear_,run_underlying hte]
    | succ n =>
     obtain ⟨ad,had⟩:=part_some h hm hbs (by omega)
     have hsto:=hst ad (fun hlt=>by have:=part_addr h hm (k:=0) hbs had (by simpa using hlt);simpa [Addr.add] using (had ▸ hbs hlt))
     subst had
     simp [Builtin.clear_,run_underlying hte,zeroValue,typeInfo,hi,hzv,hsto]
   ·cases hs
  ·cases hs
 ·cases hs

theorem copyP_sound (h:SR B N st β φ a w) {t t2 ty:TypeId} {u v:AV} {q:Prop} {r:Option AV} {p1 p2:Value} (hs:copyP P st t u v=some (q,r,st')) (hq:q) (hu:AVRel (st.ctx w β φ) u p1) (hv:AVRel (st.ctx w β φ) v p2) :
  ResM P B N st st' β φ a w r (Builtin.copy_ #[t,t2] ty #[p1,p2]):=by
 unfold copyP at hs
 split at hs
 ·rename_i o i n
  split at hs
  ·rename_i e s y ht
   obtain ⟨hte,inf,hi,hsz,_⟩:=te_spec ht
   have key:∀ {q2:Prop} {sz2 sz:Nat} {rows2 rows:List (List D)} {sepx:Bool} {ksx:List Nat},srcS st true s v=some (q2,sz2,rows2,sepx,ksx) -> q2 -> sz=s -> sz2=s -> Mem (st.obj o) sz rows -> i + n <= rows.length ->
     (∃ bs,p1=.slice bs n ((β o).cap - i) /\ (i < (β o).cap -> bs=(β o).base.map (·.add (i * sz)))) ->
     st'=st.setObj o ((st.obj o).withRows (splice rows i (rows2.take n))) -> r=some (.one (.dat (.int .i64 ((Nat.min rows2.length n:Nat):Int)))) -> ResM P B N st st' β φ a w r (Builtin.copy_ #[t,t2] ty #[p1,p2]):=by
    intro q2 sz2 sz rows2 rows sepx ksx hsrc hq2 hsz1 hsz2 hm hin hp hst' hr
    obtain ⟨bs,rfl,hbs⟩:=hp
    subst hst'
    subst hr
    subst hsz1
    subst hsz2
    obtain ⟨src,_⟩:=srcS_sound h hsrc hq2 rfl hv
    obtain ⟨rfl,rfl⟩:=srcS_flat hsrc
    obtain ⟨m1,m2,_⟩:=mem_rep h hm
    obtain ⟨us,hr2,hul,hlenr,hrun⟩:=src_run (P:=P) src
    obtain ⟨S',g1,g2⟩:=rows_part src.wid hr2 (i:=0) (n:=Nat.min rows2.length n) (by rw [Nat.zero_add];exact Nat.min_le_left ..)
    have:=nil_of_sub g2 rfl
    subst this
    rw [Nat.zero_mul,List.drop_zero,List.drop_zero] at g1
    have htk:rows2.take n=rows2.take (Nat.min rows2.length n):=by
     rcases Nat.le_total rows2.length n with hc | hc
     ·rw [show Nat.min rows2.length n=rows2.length from Nat.min_eq_left hc,List.take_length,List.take_of_length_le hc]
     ·rw [show Nat.min rows2.length n=n from Nat.min_eq_right hc]
    rw [htk]
    have hlt:(rows2.take (Nat.min rows2.length n)).length=Nat.min rows2.length n:=by rw [List.length_take];exact Nat.min_eq_left (Nat.min_le_left ..)
    obtain ⟨w',le,sr,hw0,hst⟩:=h.rows (P:=P) (i:=i) hm (rs:=rows2.take (Nat.min rows2.length n)) (fun r hr=>src.wid r (List.mem_of_mem_take hr)) (fun r hr=>srcS_flatq hsrc hq2 r (List.mem_of_mem_take hr)) (by rw [hlt];have:Nat.min rows2.length n <= n:=Nat.min_le_right ..;omega) g1
    refine ⟨β,φ,w',le,sr,rfl,_,_,rfl,?_,leaf_flat (.int _ _)⟩
    have hf:=hrun (Nat.min rows2.length n) (Nat.min_le_left ..)
    rw [<- hsz] at hf
    cases bs with
    | none =>
     have hn0:n=0:=Classical.byContradiction fun hne=>by
      obtain ⟨ad,had⟩:=part_some h hm hbs (by omega)
      cases had
     subst hn0
     have hm0:Nat.min rows2.length 0=0:=Nat.min_eq_right (Nat.zero_le _)
     rw [hm0] at hf hw0 ⊢
     rw [hw0 rfl]
     simp [Builtin.copy_,run_underlying hte,sizeOf,typeInfo,hi,hlenr,hf,goInt,hm0]
    | some ad =>
     have hsto:=hst ad (fun hlt=>hbs hlt)
     rw [<- hsz] at hsto
     simp [Builtin.copy_,run_underlying hte,sizeOf,typeInfo,hi,hlenr,hf,goInt,hsto]
   obtain ⟨hn,hp⟩:=hu
   split at hs
   ·rename_i q2 sz2 rows2 sepx ksx sz sep rows hsrc eo
    simp only [Option.some.injEq,Prod.mk.injEq] at hs
    obtain ⟨rfl,rfl,rfl⟩:=hs
    obtain ⟨hq2,h1,h2,hf⟩:=hq
    rw [show (st.ctx w β φ).ob o=_ from eo] at hp
    exact key hsrc hq2 h1 h2 (.inl ⟨sep,eo,hf⟩) hp.1 hp.2 (by rw [eo];rfl) rfl
   ·rename_i q2 sz2 rows2 sepx ksx sz m rows hsrc eo
    simp only [Option.some.injEq,Prod.mk.injEq] at hs
    obtain ⟨rfl,rfl,rfl⟩:=hs
    obtain ⟨hq2,h1,h2,hf⟩:=hq
    rw [show (st.ctx w β φ).ob o=_ from eo] at hp
    exact key hsrc hq2 h1 h2 (.inr ⟨m,eo,hf⟩) hp.1 hp.2 (by rw [eo];rfl) rfl
   ·cases hs
  ·cases hs
 ·cases hs

def olds2 (us:List Value) (z:Value) (m k:Nat):Array Value:=us.toArray ++ Builtin.zeroCells z.cells m ++ Builtin.zeroCells z.cells k

theorem run_append_make {t t2 ty e:TypeId} {i:TypeInfo} {z:Value} (hte:P.underlying t=some (.slice e)) (hi:P.info? e=some i) (hz:i.zero=some z) {k2:IntKind} (ht2:P.underlying t2=some (.int k2)) {k:IntKind} {l:Int} (h0:0 <= l) (h63:l <= 9223372036854775807)
  {base:Option Addr} {n cap:Nat} {olds:List Value} (hf:(Builtin.firstCells i.size n (.slice base n cap)).run P w.drew=.ok olds.toArray w.drew) (hs:0 < i.size) (hnc:n <= cap) (hg:cap < n + l.toNat) (hn63:n + l.toNat <= 9223372036854775807) (hby:(n + l.toNat) * i.bytes <= 140737488355328) :
  (Builtin.append_ #[t,t2] ty #[.slice base n cap,.int k l]).run P w=.ok (.slice (some ⟨w.heap.size,0,none⟩) (n + l.toNat) (grownCap w (n + l.toNat) cap e))
    (w.drew.alloc (.cells (olds.toArray ++ Builtin.zeroCells z.cells l.toNat ++ Builtin.zeroCells z.cells (grownCap w (n + l.toNat) cap e - (n + l.toNat))) e)):=by
 obtain ⟨m,rfl⟩:=Int.eq_ofNat_of_zero_le h0
 simp only [Int.toNat_natCast] at *
 have hw:IntKind.i64.wrap (m:Int)=m:=by rw [IntKind.wrap_i64];omega
 have hn:¬ (n + m <= cap):=by omega
 have hneg:¬ (m:Int) < 0:=by omega
 have hfit:Builtin.nextslicecap (n + m) cap * i.bytes <= 281474976710656:=growslice_fits hg hby
 have h48:¬ (281474976710656 < (m:Int) * (i.bytes:Int)):=by
  have h2:m * i.bytes <= (n + m) * i.bytes:=Nat.mul_le_mul_right _ (by omega)
  have h3:((m * i.bytes:Nat):Int)=(m:Int) * (i.bytes:Int):=by simp
  omega
 have h48':¬ (281474976710656 < Builtin.nextslicecap (n + m) cap * i.bytes):=by omega
 have h63':¬ (9223372036854775807 < ((n:Int) + (m:Int))):=by omega
 have hm0:¬ m=0:=by omega
 have hs0:¬ i.size=0:=by omega
 simp [Builtin.append_,run_underlying hte,run_underlying ht2,sizeOf,typeInfo,zeroValue,hi,hz,asInt,asIntOf,hw,hneg,h48,hn,h63',h48',Question.forced,hf,newRow,grownCap,hm0,hs0]
 exact fun hc=>(Nat.mul_eq_zero.1 hc).elim (fun e=>absurd e hm0) (fun e=>absurd e hs0)

theorem appMakeS_sound (h:SR B N st β φ a w) {t t2 ty:TypeId} {k2:IntKind} (ht2:P.underlying t2=some (.int k2)) {u v:AV} {q:Prop} {r:Option AV} {p1 p2:Value} (hs:appMakeS P st t u v=some (q,r,st')) (hq:q) (hu:AVRel (st.ctx w β φ) u p1) (hv:AVRel (st.ctx w β φ) v p2) :
  ResM P B N st st' β φ a w r (Builtin.append_ #[t,t2] ty #[p1,p2]):=by
 unfold appMakeS at hs
 split at hs
 ·rename_i o i n k l
  split at hs
  ·rename_i e s y ht
   split at hs
   ·rename_i zs sz m rows hz eo
    simp only [Option.some.injEq,Prod.mk.injEq] at hs
    obtain ⟨rfl,rfl,rfl⟩:=hs
    obtain ⟨rfl,hzl,h0,h63,hsz0,hg,hby,hn63,hfr⟩:=hq
    obtain ⟨hte,inf,hi,hsz,hyy⟩:=te_spec ht
    subst hyy
    obtain ⟨i',z,hi',hzv,hzr,hzs,hzm⟩:=tz_spec (w:=w) hz
    rw [hi] at hi'
    cases hi'
    obtain ⟨hn,hp⟩:=hu
    rw [show (st.ctx w β φ).ob o=_ from eo] at hp
    obtain ⟨hin,bs,rfl,hbs⟩:=hp
    obtain ⟨S,hv1,_⟩:=hv
    cases hv1
    have hm:Mem (st.obj o) sz rows:=.inr ⟨m,eo,hfr⟩
    obtain ⟨m1,m2,_⟩:=mem_rep h hm
    have ho:=h.objs o
    unfold ObjRel at ho
    rw [show (st.ctx w β φ).ob o=_ from eo] at ho
    have hcap:rows.length=(β o).cap:=ho.2.2.1
    obtain ⟨us,g1,g2⟩:=part_cells h hm hin
    have hul:us.length=n * inf.size:=by
     rw [g1.length,flatten_length (sz:=sz) (fun r hr=>m1 r (List.mem_of_mem_drop (List.mem_of_mem_take hr))),List.length_take,List.length_drop,Nat.min_eq_left (by omega),hsz]
    have hf:(Builtin.firstCells inf.size n (.slice bs n ((β o).cap - i))).run P w.drew=.ok us.toArray w.drew:=by
     by_cases hn0:0 < n
     ·obtain ⟨b,hb,hc⟩:=g2 hn0
      have hbs':bs=(β o).base.map (·.add (i * sz)):=hbs (show i < (β o).cap by omega)
      rw [hbs',hb,Option.map_some,Addr.add_lit]
      exact run_firstCells_some (P:=P) w.drew inf.size n _ n _ us hul (fun j v hj=>by rw [Addr.add_lit,Nat.zero_add];simpa using hc j v hj)
     ·have hn1:n=0:=by omega
      subst hn1
      have hu0:us=[]:=List.eq_nil_of_length_eq_zero (by simpa using hul)
      subst hu0
      cases bs with
      | none=>simp [Builtin.firstCells]
      | some ad=>simp [Builtin.firstCells,loadCells,loadCellsFrom]
    have hs0:0 < inf.size:=by omega
    have hrun:=run_append_make (P:=P) (w:=w) (t:=t) (t2:=t2) (ty:=ty) hte hi hzv ht2 (k:=k) h0 h63 (base:=bs) (n:=n) (cap:=(β o).cap - i) hf hs0 (by omega) (by omega) hn63 hby
    have hgc:=grownCap_ge w (n + l.toNat) ((β o).cap - i) e
    have hlen:((rows.drop i).take n).length=n:=by rw [List.length_take,List.length_drop,Nat.min_eq_left (by omega)]
    have hlr:((rows.drop i).take n ++ List.replicate l.toNat zs).length=n + l.toNat:=by rw [List.length_append,hlen,List.length_replicate]
    have hzz:z.cells.toList.length=inf.size:=by rw [Array.length_toList];exact hzs
    have hz1:(Builtin.zeroCells z.cells l.toNat).toList.length=l.toNat * sz:=by rw [Array.length_toList,size_zeroCells,hzs,hsz]
    have hcl:(olds2 us z l.toNat (grownCap w (n + l.toNat) ((β o).cap - i) e - (n + l.toNat))).toList=(us ++ (Builtin.zeroCells z.cells l.toNat).toList) ++ (Builtin.zeroCells z.cells (grownCap w (n + l.toNat) ((β o).cap - i) e - (n + l.toNat))).toList:=by
     simp [olds2]
    have hl1:(us ++ (Builtin.zeroCells z.cells l.toNat).toList).length=(n + l.toNat) * sz:=by rw [List.length_append,hul,hz1,hsz,Nat.add_mul]
    have hw2:∀ r ∈ (rows.drop i).take n ++ List.replicate l.toNat zs,r.length=sz:=fun r hr=>(List.mem_append.1 hr).elim (fun hr=>m1 r (List.mem_of_mem_drop (List.mem_of_mem_take hr))) (fun hr=>by rw [List.eq_of_mem_replicate hr];exact hzl)
    have hrl:RepL (w.drew.alloc (.cells (olds2 us z l.toNat (grownCap w (n + l.toNat) ((β o).cap - i) e - (n + l.toNat))) e)) ((rows.drop i).take n ++ List.replicate l.toNat zs).flatten ((olds2 us z l.toNat (grownCap w (n + l.toNat) ((β o).cap - i) e - (n + l.toNat))).toList.take (((rows.drop i).take n ++ List.replicate l.toNat zs).length * sz)) []:=by
     rw [hcl,hlr,<- hl1,List.take_left,List.flatten_append,zeroCells_list]
     exact (g1.frm0 (by simp)).append0 ((repL_replicate hzr _).frm0 (by simp))
    obtain ⟨β',φ',le,sr,hp⟩:=h.newVec (ks:=[]) (w':=w.drew.alloc (.cells (olds2 us z l.toNat (grownCap w (n + l.toNat) ((β o).cap - i) e - (n + l.toNat))) e)) (by simp) (((Frm.refl w _).drew).alloc _) (sz:=sz) (cap:=grownCap w (n + l.toNat) ((β o).cap - i) e) (b:=w.heap.size) (sep:=true)
     (rows:=(rows.drop i).take n ++ List.replicate l.toNat zs) (S:=[]) (E:=[]) (T:=e) (vs:=olds2 us z l.toNat (grownCap w (n + l.toNat) ((β o).cap - i) e - (n + l.toNat))) hw2 (by rw [hlr];exact hgc) (heap_alloc_new w.drew _)
     ⟨by rw [<- Array.length_toList,hcl,List.length_append,hl1,Array.length_toList,size_zeroCells,hzs,hsz,<- Nat.add_mul];congr 1;omega,_,by
      rw [hcl,hlr,<- hl1,List.drop_left,zeroCells_list]
      exact (repL_replicate hzr _).frm0 (by simp)⟩
     hrl
     (fun x hx=>by simp at hx;subst hx;simp) (by simp) (by simp only [if_true];exact ⟨List.nodup_nil,by simp,by
       rw [hcl,hlr,<- hl1,List.take_left,List.flatten_append,zeroCells_list]
       have o1:=OwnL.of_flat (g1.frm0 (w':=w.drew.alloc (.cells (olds2 us z l.toNat (grownCap w (n + l.toNat) ((β o).cap - i) e - (n + l.toNat))) e)) (by simp)) (flat_flatten fun r hr=>hfr r (List.mem_of_mem_drop (List.mem_of_mem_take hr)))
       simpa using o1.append ((OwnL.of_zero hzm).replicate l.toNat)⟩)
    rw [hlr] at hp
    exact ⟨β',φ',_,le,sr,rfl,_,_,rfl,hrun,hp⟩
   ·cases hs
  ·cases hs
 ·rename_i k l
  split at hs
  ·rename_i e s y ht
   split at hs
   ·rename_i zs hz
    simp only [Option.some.injEq,Prod.mk.injEq] at hs
    obtain ⟨rfl,rfl,rfl⟩:=hs
    obtain ⟨hzl,h0,h63,hsz0,hby⟩:=hq
    obtain ⟨hte,inf,hi,hsz,hyy⟩:=te_spec ht
    subst hyy
    obtain ⟨i',z,hi',hzv,hzr,hzs,hzm⟩:=tz_spec (w:=w) hz
    rw [hi] at hi'
    cases hi'
    obtain ⟨bs,rfl⟩:=hu
    obtain ⟨S,hv1,_⟩:=hv
    cases hv1
    have hf:(Builtin.firstCells inf.size 0 (.slice bs 0 0)).run P w.drew=.ok ([]:List Value).toArray w.drew:=by
     cases bs with
     | none=>simp [Builtin.firstCells]
     | some ad=>simp [Builtin.firstCells,loadCells,loadCellsFrom]
    have hrun:=run_append_make (P:=P) (w:=w) (t:=t) (t2:=t2) (ty:=ty) hte hi hzv ht2 (k:=k) (by omega) h63 (base:=bs) (n:=0) (cap:=0) hf (by omega) (by omega) (by omega) (by omega) (by rw [Nat.zero_add];exact hby)
    rw [Nat.zero_add] at hrun
    have hgc:=grownCap_ge w l.toNat 0 e
    have hlr:(List.replicate l.toNat zs).length=l.toNat:=List.length_replicate
    have hz1:(Builtin.zeroCells z.cells l.toNat).toList.length=l.toNat * s:=by rw [Array.length_toList,size_zeroCells,hzs,hsz]
    have hcl:(olds2 [] z l.toNat (grownCap w l.toNat 0 e - l.toNat)).toList=(Builtin.zeroCells z.cells l.toNat).toList ++ (Builtin.zeroCells z.cells (grownCap w l.toNat 0 e - l.toNat)).toList:=by
     simp [olds2]
    have hw2:∀ r ∈ List.replicate l.toNat zs,r.length=s:=fun r hr=>by rw [List.eq_of_mem_replicate hr];exact hzl
    have hrl:RepL (w.drew.alloc (.cells (olds2 [] z l.toNat (grownCap w l.toNat 0 e - l.toNat)) e)) (List.replicate l.toNat zs).flatten ((olds2 [] z l.toNat (grownCap w l.toNat 0 e - l.toNat)).toList.take ((List.replicate l.toNat zs).length * s)) []:=by
     rw [hcl,hlr,<- hz1,List.take_left,zeroCells_list]
     exact (repL_replicate hzr _).frm0 (by simp)
    obtain ⟨β',φ',le,sr,hp⟩:=h.newVec (ks:=[]) (w':=w.drew.alloc (.cells (olds2 [] z l.toNat (grownCap w l.toNat 0 e - l.toNat)) e)) (by simp) (((Frm.refl w _).drew).alloc _) (sz:=s) (cap:=grownCap w l.toNat 0 e) (b:=w.heap.size) (sep:=true)
     (rows:=List.replicate l.toNat zs) (S:=[]) (E:=[]) (T:=e) (vs:=olds2 [] z l.toNat (grownCap w l.toNat 0 e - l.toNat)) hw2 (by rw [hlr];exact hgc) (heap_alloc_new w.drew _)
     ⟨by rw [<- Array.length_toList,hcl,List.length_append,hz1,Array.length_toList,size_zeroCells,hzs,hsz,<- Nat.add_mul];congr 1;omega,_,by
      rw [hcl,hlr,<- hz1,List.drop_left,zeroCells_list]
      exact (repL_replicate hzr _).frm0 (by simp)⟩
     hrl
     (fun x hx=>by simp at hx;subst hx;simp) (by simp) (by simp only [if_true];exact ⟨List.nodup_nil,by simp,by
       rw [hcl,hlr,<- hz1,List.take_left,zeroCells_list]
       exact (OwnL.of_zero hzm).replicate _⟩)
    rw [hlr] at hp
    exact ⟨β',φ',_,le,sr,rfl,_,_,rfl,hrun,hp⟩
   ·cases hs
  ·cases hs
 ·cases hs

theorem copyS_sound (h:SR B N st β φ a w) {t t2 ty:TypeId} {u v:AV} {q:Prop} {r:Option AV} {p1 p2:Value} (hs:copyS P st t u v=some (q,r,st')) (hq:q) (hu:AVRel (st.ctx w β φ) u p1) (hv:AVRel (st.ctx w β φ) v p2) :
  ResM P B N st st' β φ a w r (Builtin.copy_ #[t,t2] ty #[p1,p2]):=by
 unfold copyS at hs
 split at hs
 ·rename_i o
  split at hs
  ·rename_i sz sep rows eo
   refine copyP_sound h hs hq ?_ hv
   obtain ⟨hn,hu⟩:=hu
   refine ⟨hn,?_⟩
   rw [show (st.ctx w β φ).ob o=_ from eo] at hu ⊢
   simp only at hu ⊢
   subst hu
   refine ⟨by omega,_,by rw [Nat.sub_zero],fun _=>?_⟩
   rw [Nat.zero_mul]
   show _=Option.map (fun x:Addr=>x.add 0) _
   cases (st.ctx w β φ).β o |>.base with
   | none=>rfl
   | some x=>obtain ⟨b,k,s⟩:=x;cases s <;> rfl
  ·cases hs
 ·exact copyP_sound h hs hq hu hv
end
end Go.Abs
