/- Contracts of functions over abstract values, and calls by them. -/
import Derived.Test.YtcnddedeeplbcaaGreatAbsOps
namespace Go.Abs
set_option linter.unusedVariables false

def leafD (st:St) (os:List Nat):Leaf -> Option D
 | .dat d=>some d
 | .emp=>some (.sl 0 [])
 | .own o=>if o ∈ os then none else match st.obj o with
  | .vec sz _ rows=>some (.sl sz rows)
  | .frz sz rows=>some (.sl sz rows)
  | _=>none
 | .part o i n=>if o ∈ os then none else match st.obj o with
  | .vec sz _ rows=>some (.sl sz ((rows.drop i).take n))
  | _=>none
 | _=>none

def leavesD (st:St) (os:List Nat):List Leaf -> Option (List D)
 | []=>some []
 | l :: ls=>match leafD st os l,leavesD st os ls with
  | some d,some ds=>some (d :: ds)
  | _,_=>none

def viewP (st:St) (os:List Nat):Ptr -> Option Ptr
 | .ro sz rows i j=>some (.ro sz rows i j)
 | .own o i j=>if o ∈ os then none else match st.obj o with
  | .box cells=>(leavesD st os cells).map fun ds=>.ro ds.length [ds] 0 j
  | _=>none

def viewPs (st:St) (os:List Nat):List Ptr -> Option (List Ptr)
 | []=>some []
 | p :: ps=>match viewP st os p,viewPs st os ps with
  | some q,some qs=>some (q :: qs)
  | _,_=>none

def viewL (st:St) (os:List Nat):Leaf -> Option Leaf
 | .dat d=>some (.dat d)
 | .emp=>some .emp
 | .own o=>if o ∈ os then some (.own (os.idxOf o)) else (leafD st os (.own o)).map .dat
 | .part o i n=>(leafD st os (.part o i n)).map .dat
 | .ptr p=>(viewP st os p).map .ptr
 | .fn f caps=>(viewPs st os caps).map (.fn f)

def viewLs (st:St) (os:List Nat):List Leaf -> Option (List Leaf)
 | []=>some []
 | l :: ls=>match viewL st os l,viewLs st os ls with
  | some d,some ds=>some (d :: ds)
  | _,_=>none

def viewA (st:St) (os:List Nat):AV -> Option AV
 | .one l=>(viewL st os l).map .one
 | .agg ls=>(viewLs st os ls).map .agg
 | _=>none

def viewAs (st:St) (os:List Nat):List AV -> Option (List AV)
 | []=>some []
 | a :: as=>match viewA st os a,viewAs st os as with
  | some b,some bs=>some (b :: bs)
  | _,_=>none

def Given (x:AObj):Prop:=(∃ sz rows,x=.vec sz true rows) \/ ∃ sz,x=.frz sz []
@[simp] theorem Given_vec (sz:Nat) (rows:List (List D)):Given (.vec sz true rows):=.inl ⟨sz,rows,rfl⟩
@[simp] theorem Given_frz (sz:Nat):Given (.frz sz []):=.inr ⟨sz,rfl⟩
def Objs (objs:List AObj) (o:Nat):AObj:=objs.getD o .dead
def lctx (w:World) (β:Nat -> Info) (φ:Nat -> List Nat) (objs:List AObj):Ctx:=⟨w,β,Objs objs,fun b=>∃ o,b ∈ φ o,objs.length⟩

structure OR (w:World) (β:Nat -> Info) (φ:Nat -> List Nat) (objs:List AObj):Prop where
 objs:∀ o,ObjRel (lctx w β φ objs) φ o
 nodup:∀ o,(φ o).Nodup
 disj:∀ o o',o ≠ o' -> ∀ b ∈ φ o,b ∉ φ o'
 fp:∀ o,∀ b ∈ φ o,b < w.heap.size
 glob:GlobOk w (fun b=>∃ o,b ∈ φ o)

def ArgsRel (C:Ctx) (as:List AV) (vs:Array Value):Prop:=vs.size=as.length /\ ∀ (j:Nat) (a:AV),as[j]?=some a -> ∃ v,vs[j]?=some v /\ AVRel C a v

def Leaf.Clean:Leaf -> Prop
 | .dat d=>d.flat=true
 | .emp=>True
 | .own _=>True
 | _=>False

def AV.Clean1:AV -> Prop
 | .one l=>l.Clean
 | .agg ls=>∀ l ∈ ls,l.Clean
 | _=>False

def AV.Clean:AV -> Prop
 | .tup vs=>∀ v ∈ vs,v.Clean1
 | a=>a.Clean1

def AObj.Sep:AObj -> Prop
 | .vec _ sep _=>sep=true
 | .frz _ rows=>rows=[]
 | .dead=>True
 | _=>False

structure Ctr (P:Program) (f:FuncId) (as:List AV) (objs:List AObj) (r:AV) (objs':List AObj):Prop where
 clean:r.Clean
 sep:∀ x ∈ objs',x.Sep
 len:objs.length <= objs'.length
 comp:∀ o,o < objs.length -> Compat (Objs objs o) (Objs objs' o)
 calls:∀ (w:World) (β:Nat -> Info) (φ:Nat -> List Nat) (vs:Array Value),OR w β φ objs -> ArgsRel (lctx w β φ objs) as vs ->
  Calls P f vs w fun e w'=>∃ v β' φ',e=.returned v /\ OR w' β' φ' objs' /\ (∀ o,o < objs.length -> β' o=β o) /\ (∀ o,∀ b ∈ φ' o,w.heap.size <= b \/ ∃ o1,b ∈ φ o1) /\
   AVRel (lctx w' β' φ' objs') r v /\ Frm w (fun b=>∃ o,b ∈ φ o) w'

def Leaf.ren (ids:List Nat):Leaf -> Leaf
 | .own o=>.own (ids.getD o 0)
 | l=>l

def AV.ren1 (ids:List Nat):AV -> AV
 | .one l=>.one (l.ren ids)
 | .agg ls=>.agg (ls.map (Leaf.ren ids))
 | a=>a

def AV.ren (ids:List Nat):AV -> AV
 | .tup vs=>.tup (vs.map (AV.ren1 ids))
 | a=>a.ren1 ids

def fresh (n:Nat):Nat -> List Nat
 | 0=>[]
 | k + 1=>n :: fresh (n + 1) k

def idsOf (os:List Nat) (next m:Nat):List Nat:=os ++ fresh next (m - os.length)

def St.after (st:St) (os:List Nat) (objs':List AObj):St :=
 { env:=st.env,objs:=(idsOf os st.next objs'.length).zip objs' ++ st.objs,next:=st.next + (objs'.length - os.length) }

theorem fresh_length:∀ (k n:Nat),(fresh n k).length=k
 | 0,_=>rfl
 | k + 1,n=>by simp [fresh,fresh_length k]
theorem fresh_get:∀ (k n j:Nat),j < k -> (fresh n k)[j]?=some (n + j)
 | k + 1,n,0,_=>rfl
 | k + 1,n,j + 1,h=>by
  rw [fresh,List.getElem?_cons_succ,fresh_get k (n + 1) j (by omega)]
  congr 1;omega
theorem fresh_mem:∀ (k n o:Nat),o ∈ fresh n k ↔ n <= o /\ o < n + k
 | 0,n,o=>by simp [fresh]
 | k + 1,n,o=>by simp [fresh,fresh_mem k];omega
theorem fresh_nodup:∀ (k n:Nat),(fresh n k).Nodup
 | 0,_=>List.nodup_nil
 | k + 1,n=>List.nodup_cons.2 ⟨fun h=>by have:=(fresh_mem k (n + 1) n).1 h;omega,fresh_nodup k (n + 1)⟩

theorem find_zip_in:∀ (ids:List Nat) (xs:List AObj) (rest:List (Nat × AObj)) (k:Nat) (x:AObj),ids.Nodup -> xs[k]?=some x -> ∀ o,ids[k]?=some o -> find (ids.zip xs ++ rest) o=some x
 | [],_,_,k,_,_,_,o,h=>by simp at h
 | i :: ids,[],_,k,_,_,h,_,_=>by simp at h
 | i :: ids,y :: xs,rest,0,x,hn,hx,o,ho=>by
  simp at hx ho;subst hx;subst ho
  simp [find]
 | i :: ids,y :: xs,rest,k + 1,x,hn,hx,o,ho=>by
  have hn':=List.nodup_cons.1 hn
  have hne:o ≠ i:=fun e=>hn'.1 (e ▸ List.mem_of_getElem? (by simpa using ho))
  rw [List.zip_cons_cons,List.cons_append,find_cons_ne _ _ hne]
  exact find_zip_in ids xs rest k x hn'.2 (by simpa using hx) o (by simpa using ho)

theorem find_zip_out:∀ (ids:List Nat) (xs:List AObj) (rest:List (Nat × AObj)) (o:Nat),o ∉ ids -> find (ids.zip xs ++ rest) o=find rest o
 | [],_,_,_,_=>by simp
 | i :: ids,[],_,_,_=>by simp
 | i :: ids,y :: xs,rest,o,h=>by
  have hne:o ≠ i:=fun e=>h (by rw [e];exact List.mem_cons_self ..)
  rw [List.zip_cons_cons,List.cons_append,find_cons_ne _ _ hne]
  exact find_zip_out ids xs rest o (fun e=>h (List.mem_cons_of_mem _ e))

section
variable {P:Program} {B:Base} {N:Nat} {st st':St} {β:Nat -> Info} {φ:Nat -> List Nat} {a:Act} {w w':World} {os:List Nat}

def NotOs (φ:Nat -> List Nat) (os:List Nat) (x:Nat):Prop:=∀ o ∈ os,x ∉ φ o

theorem notOs_of_not {x:Nat} (h:¬ ∃ o,x ∈ φ o):NotOs φ os x:=fun o _ hx=>h ⟨o,hx⟩
theorem notOs_of_other (h:SR B N st β φ a w) {x o:Nat} (hx:x ∈ φ o) (ho:o ∉ os):NotOs φ os x:=fun o' ho' hx'=>h.disj o o' (fun e=>ho (e ▸ ho')) x hx hx'

theorem leafD_sound (h:SR B N st β φ a w) {l:Leaf} {d:D} (hl:leafD st os l=some d) {v:Value} (hv:LeafRel (st.ctx w β φ) l v) :
  ∃ S,Rep w d v S /\ ∀ x ∈ S,NotOs φ os x:=by
 cases l with
 | dat d' =>
  cases hl
  obtain ⟨S,hr,hM⟩:=hv
  exact ⟨S,hr,fun x hx=>notOs_of_not (hM x hx)⟩
 | emp =>
  cases hl
  obtain ⟨b,rfl⟩:=hv
  exact ⟨[],.nil ..,by simp⟩
 | own o =>
  simp only [leafD] at hl
  split at hl
  ·cases hl
  ·rename_i ho
   obtain ⟨hn,hp⟩:=hv
   split at hl
   ·rename_i sz sep rows eo
    cases hl
    rw [show (st.ctx w β φ).ob o=_ from eo] at hp
    simp only at hp
    subst hp
    obtain ⟨S,hr,hS1,hS2⟩:=vec_rep h eo
    refine ⟨S,hr,fun x hx=>?_⟩
    cases hsep:sep with
    | true=>exact notOs_of_other h ((hS1 hsep).2 x hx) ho
    | false=>exact (hS2 hsep x hx).elim (fun h1=>notOs_of_other h h1 ho) notOs_of_not
   ·rename_i sz rows eo
    cases hl
    rw [show (st.ctx w β φ).ob o=_ from eo] at hp
    simp only at hp
    subst hp
    have hob:=h.objs o
    unfold ObjRel at hob
    rw [show (st.ctx w β φ).ob o=_ from eo] at hob
    obtain ⟨_,_,S,hr,hM⟩:=hob
    exact ⟨S,hr,fun x hx=>notOs_of_not (hM x hx)⟩
   ·cases hl
 | part o i n =>
  simp only [leafD] at hl
  split at hl
  ·cases hl
  ·rename_i ho
   obtain ⟨hn,hp⟩:=hv
   split at hl
   ·rename_i sz sep rows eo
    cases hl
    rw [show (st.ctx w β φ).ob o=_ from eo] at hp
    obtain ⟨hin,bs,rfl,hbs⟩:=hp
    obtain ⟨S,hr,hS1,hS2⟩:=vec_rep h eo
    have hS:∀ x ∈ S,NotOs φ os x:=fun x hx=>by
     cases hsep:sep with
     | true=>exact notOs_of_other h ((hS1 hsep).2 x hx) ho
     | false=>exact (hS2 hsep x hx).elim (fun h1=>notOs_of_other h h1 ho) notOs_of_not
    obtain ⟨S',hr',hsub⟩:=rep_part hr (l:=i) (h:=i + n) (by omega) hin
    rw [Nat.add_sub_cancel_left] at hr'
    have hc:rows.length <= (β o).cap:=by
     have ho:=h.objs o
     unfold ObjRel at ho
     rw [show (st.ctx w β φ).ob o=_ from eo] at ho
     exact ho.2.1
    by_cases hlt:i < (β o).cap
    ·rw [if_neg (by omega)] at hr'
     have hbs':bs=(β o).base.map (·.add (i * sz)):=hbs hlt
     rw [hbs']
     exact ⟨S',hr',fun x hx=>hS x (hsub x hx)⟩
    ·have hn0:n=0:=by omega
     subst hn0
     rw [List.take_zero]
     exact ⟨[],.nil ..,by simp⟩
   ·cases hl
 | ptr p=>cases hl
 | fn f c=>cases hl

theorem leavesD_sound (h:SR B N st β φ a w):∀ {ls:List Leaf} {ds:List D},leavesD st os ls=some ds -> ∀ {vs:List Value},Leaves (st.ctx w β φ) ls vs ->
  ds.length=ls.length /\ ∃ S,RepL w ds vs S /\ ∀ x ∈ S,NotOs φ os x
 | [],_,hl,vs,hv=>by
  cases hl
  have:vs=[]:=List.eq_nil_of_length_eq_zero hv.1
  subst this
  exact ⟨rfl,[],.nil,by simp⟩
 | l :: ls,_,hl,vs,hv=>by
  simp only [leavesD] at hl
  split at hl
  ·rename_i d ds e1 e2
   cases hl
   cases vs with
   | nil=>have:=hv.1;simp at this
   | cons v vs =>
    obtain ⟨v',hv',hr⟩:=hv.2 0 _ rfl
    cases hv'
    obtain ⟨S1,r1,m1⟩:=leafD_sound h e1 hr
    obtain ⟨hlen,S2,r2,m2⟩:=leavesD_sound h e2 (vs:=vs) ⟨by have:=hv.1;simpa using this,fun j l' hj=>by simpa using hv.2 (j + 1) l' (by simpa using hj)⟩
    exact ⟨by simp [hlen],S1 ++ S2,.cons r1 r2,fun x hx=>(List.mem_append.1 hx).elim (m1 x) (m2 x)⟩
  ·cases hl

def subCtx (st:St) (w:World) (β:Nat -> Info) (φ:Nat -> List Nat) (os:List Nat):Ctx :=
 lctx w (fun k=>β (os.getD k 0)) (fun k=>if k < os.length then φ (os.getD k 0) else []) (os.map st.obj)

theorem subM {x:Nat} (h:NotOs φ os x):¬ (subCtx st w β φ os).M x:=by
 rintro ⟨k,hk⟩
 dsimp only at hk
 split at hk
 ·rename_i hlt
  exact h _ (by rw [List.getD_eq_getElem?_getD,List.getElem?_eq_getElem hlt];exact List.getElem_mem _) hk
 ·cases hk

theorem viewP_sound (h:SR B N st β φ a w) {p q:Ptr} (hp:viewP st os p=some q) {v:Value} (hv:PtrRel (st.ctx w β φ) p v):PtrRel (subCtx st w β φ os) q v:=by
 cases p with
 | ro sz rows i j =>
  cases hp
  obtain ⟨b,off,vs,S,rfl,hb,hsz,hl,hc,hM⟩:=hv
  exact ⟨b,off,vs,S,rfl,hb,hsz,hl,hc,fun x hx=>subM (notOs_of_not (hM x hx))⟩
 | own o i j =>
  simp only [viewP] at hp
  split at hp
  ·cases hp
  ·rename_i ho
   obtain ⟨hn,hpp⟩:=hv
   have hob:=h.objs o
   unfold ObjRel at hob
   split at hp
   ·rename_i cells eo
    cases e:leavesD st os cells with
    | none=>rw [e] at hp;cases hp
    | some ds =>
     rw [e] at hp
     cases hp
     rw [show (st.ctx w β φ).ob o=_ from eo] at hpp hob
     obtain ⟨b,hb,rfl⟩:=hpp
     obtain ⟨b',T,vs,hb',hφ,hheap,hL⟩:=hob
     rw [hb] at hb'
     cases hb'
     obtain ⟨hlen,S,hr,hS⟩:=leavesD_sound h e hL
     refine ⟨b,0,vs.toList,S,by simp,lt_of_heap hheap,by simp,by show RepL w _ _ _;simpa using hr,fun k u hk=>?_,fun x hx=>?_⟩
     ·rw [Nat.zero_add]
      refine (cell_of_heap (w:=w) hheap).trans ?_
      rw [<- Array.getElem?_toList]
      exact hk
     ·cases hx with
      | head=>exact subM (notOs_of_other h (by rw [hφ];simp) ho)
      | tail _ hx=>exact subM (hS x hx)
   ·cases hp

theorem viewPs_sound (h:SR B N st β φ a w):∀ {ps qs:List Ptr},viewPs st os ps=some qs -> qs.length=ps.length /\ ∀ (k:Nat) (q:Ptr),qs[k]?=some q -> ∃ p,ps[k]?=some p /\ viewP st os p=some q
 | [],_,hp=>by cases hp;exact ⟨rfl,fun k q hk=>by simp at hk⟩
 | p :: ps,_,hp=>by
  simp only [viewPs] at hp
  split at hp
  ·rename_i q qs e1 e2
   cases hp
   obtain ⟨h1,h2⟩:=viewPs_sound h e2
   refine ⟨by simp [h1],fun k q' hk=>?_⟩
   cases k with
   | zero=>simp at hk;subst hk;exact ⟨p,rfl,e1⟩
   | succ k=>simp at hk;simpa using h2 k q' (by simpa using hk)
  ·cases hp

theorem viewL_sound (h:SR B N st β φ a w) (hos:∀ o ∈ os,o < st.next /\ Given (st.obj o)) {l m:Leaf} (hl:viewL st os l=some m) {v:Value} (hv:LeafRel (st.ctx w β φ) l v):LeafRel (subCtx st w β φ os) m v:=by
 have hdat:∀ {d:D},leafD st os l=some d -> LeafRel (subCtx st w β φ os) (.dat d) v:=fun hd=>by
  obtain ⟨S,hr,hS⟩:=leafD_sound h hd hv
  exact ⟨S,hr,fun x hx=>subM (hS x hx)⟩
 cases l with
 | dat d=>cases hl;exact hdat rfl
 | emp=>cases hl;exact hv
 | own o =>
  simp only [viewL] at hl
  split at hl
  ·rename_i ho
   cases hl
   have hlt:os.idxOf o < os.length:=List.idxOf_lt_length_of_mem ho
   have hget:os.getD (os.idxOf o) 0=o:=by
    rw [List.getD_eq_getElem?_getD,List.getElem?_eq_getElem hlt,Option.getD_some,List.getElem_idxOf]
   obtain ⟨hn,hp⟩:=hv
   obtain ⟨_,hgv⟩:=hos o ho
   refine ⟨by show _ < (os.map st.obj).length;simpa using hlt,?_⟩
   have hob:(subCtx st w β φ os).ob (os.idxOf o)=st.obj o:=by
    show (os.map st.obj).getD (os.idxOf o) .dead=_
    rw [List.getD_eq_getElem?_getD,List.getElem?_map,List.getElem?_eq_getElem hlt,List.getElem_idxOf]
    rfl
   rw [hob]
   rcases hgv with ⟨sz,rows,eo⟩ | ⟨sz,eo⟩
   ·rw [eo]
    rw [show (st.ctx w β φ).ob o=_ from eo] at hp
    show v=.slice (β (os.getD (os.idxOf o) 0)).base rows.length (β (os.getD (os.idxOf o) 0)).cap
    rw [hget]
    exact hp
   ·rw [eo]
    rw [show (st.ctx w β φ).ob o=_ from eo] at hp
    show v=.slice (β (os.getD (os.idxOf o) 0)).base 0 (β (os.getD (os.idxOf o) 0)).cap
    rw [hget]
    exact hp
  ·rename_i ho
   cases e:leafD st os (.own o) with
   | none=>rw [e] at hl;cases hl
   | some d=>rw [e] at hl;cases hl;exact hdat e
 | part o i n =>
  simp only [viewL] at hl
  cases e:leafD st os (.part o i n) with
  | none=>rw [e] at hl;cases hl
  | some d=>rw [e] at hl;cases hl;exact hdat e
 | ptr p =>
  simp only [viewL] at hl
  cases e:viewP st os p with
  | none=>rw [e] at hl;cases hl
  | some q=>rw [e] at hl;cases hl;exact viewP_sound h e hv
 | fn f caps =>
  simp only [viewL] at hl
  cases e:viewPs st os caps with
  | none=>rw [e] at hl;cases hl
  | some qs =>
   rw [e] at hl
   cases hl
   obtain ⟨h1,h2⟩:=viewPs_sound h e
   obtain ⟨cvs,hv,hs,hk⟩:=hv
   refine ⟨cvs,hv,by omega,fun k q hq=>?_⟩
   obtain ⟨p,hp,hpq⟩:=h2 k q hq
   obtain ⟨x,hx,hr⟩:=hk k p hp
   exact ⟨x,hx,viewP_sound h hpq hr⟩

theorem viewLs_sound (h:SR B N st β φ a w) (hos:∀ o ∈ os,o < st.next /\ Given (st.obj o)):∀ {ls ms:List Leaf},viewLs st os ls=some ms -> ∀ {vs:List Value},Leaves (st.ctx w β φ) ls vs -> Leaves (subCtx st w β φ os) ms vs
 | [],_,hl,vs,hv=>by cases hl;exact ⟨hv.1,fun j l hj=>by simp at hj⟩
 | l :: ls,_,hl,vs,hv=>by
  simp only [viewLs] at hl
  split at hl
  ·rename_i m ms e1 e2
   cases hl
   cases vs with
   | nil=>have:=hv.1;simp at this
   | cons v vs =>
    obtain ⟨v',hv',hr⟩:=hv.2 0 _ rfl
    cases hv'
    exact (Leaves.single (viewL_sound h hos e1 hr)).append (viewLs_sound h hos e2 (vs:=vs) ⟨by have:=hv.1;simpa using this,fun j l' hj=>by simpa using hv.2 (j + 1) l' (by simpa using hj)⟩)
  ·cases hl

theorem viewA_sound (h:SR B N st β φ a w) (hos:∀ o ∈ os,o < st.next /\ Given (st.obj o)) {u u':AV} (hu:viewA st os u=some u') {v:Value} (hv:AVRel (st.ctx w β φ) u v):AVRel (subCtx st w β φ os) u' v:=by
 cases u with
 | one l =>
  simp only [viewA] at hu
  cases e:viewL st os l with
  | none=>rw [e] at hu;cases hu
  | some m=>rw [e] at hu;cases hu;exact viewL_sound h hos e hv
 | agg ls =>
  simp only [viewA] at hu
  cases e:viewLs st os ls with
  | none=>rw [e] at hu;cases hu
  | some ms =>
   rw [e] at hu
   cases hu
   obtain ⟨vs,rfl,hl⟩:=hv
   exact ⟨vs,rfl,viewLs_sound h hos e hl⟩
 | tup vs=>cases hu
 | ifg b v=>cases hu

theorem idsOf_nodup (hos:∀ o ∈ os,o < st.next) (hn:os.Nodup) (m:Nat):(idsOf os st.next m).Nodup :=
 List.nodup_append.2 ⟨hn,fresh_nodup _ _,fun x hx y hy e=>by
  have:=hos x hx
  have:=(fresh_mem _ _ _).1 hy
  omega⟩

theorem idsOf_length {n m:Nat} (h:os.length <= m):(idsOf os n m).length=m:=by
 unfold idsOf
 rw [List.length_append,fresh_length];omega

theorem getD_of_some {α:Type} {l:List α} {k:Nat} {x:α} (d:α) (h:l[k]?=some x):l.getD k d=x:=by
 rw [List.getD_eq_getElem?_getD,h,Option.getD_some]

theorem SR.after (h:SR B N st β φ a w) {objs':List AObj} (hos:∀ o ∈ os,o < st.next /\ Given (st.obj o)) (hn:os.Nodup) (hlen:os.length <= objs'.length)
  (hsep:∀ x ∈ objs',x.Sep) (hcomp:∀ k,k < os.length -> Compat (Objs (os.map st.obj) k) (Objs objs' k)) {β1:Nat -> Info} {φ1:Nat -> List Nat}
  (hOR:OR w' β1 φ1 objs') (hβ:∀ k,k < os.length -> β1 k=β (os.getD k 0)) (hφ:∀ k,∀ b ∈ φ1 k,w.heap.size <= b \/ ∃ k1,b ∈ (if k1 < os.length then φ (os.getD k1 0) else []))
  (hfrm:Frm w (fun b=>∃ k,b ∈ (if k < os.length then φ (os.getD k 0) else [])) w') :
  ∃ β' φ',(st.ctx w β φ).Le ((st.after os objs').ctx w' β' φ') /\ SR B N (st.after os objs') β' φ' a w' /\
   ∀ {r:AV} {v:Value},r.Clean -> AVRel (lctx w' β1 φ1 objs') r v -> AVRel ((st.after os objs').ctx w' β' φ') (r.ren (idsOf os st.next objs'.length)) v:=by
 let ids:=idsOf os st.next objs'.length
 have hlt:∀ o ∈ os,o < st.next:=fun o ho=>(hos o ho).1
 have hnd:ids.Nodup:=idsOf_nodup hlt hn _
 have hl:ids.length=objs'.length:=idsOf_length hlen
 have hmem:∀ o,o ∈ ids ↔ o ∈ os \/ (st.next <= o /\ o < st.next + (objs'.length - os.length)):=fun o=>by
  show o ∈ os ++ _ ↔ _
  rw [List.mem_append,fresh_mem]
 have hidx:∀ o ∈ ids,ids.idxOf o < objs'.length:=fun o ho=>by rw [<- hl];exact List.idxOf_lt_length_of_mem ho
 have hobI:∀ o ∈ ids,(st.after os objs').obj o=Objs objs' (ids.idxOf o):=fun o ho=>by
  have hk:=hidx o ho
  have:=find_zip_in ids objs' st.objs (ids.idxOf o) (objs'[ids.idxOf o]'hk) hnd (List.getElem?_eq_getElem hk) o (by
   rw [List.getElem?_eq_getElem (by rw [hl];exact hk),List.getElem_idxOf])
  show (find (ids.zip objs' ++ st.objs) o).getD .dead=objs'.getD (ids.idxOf o) .dead
  rw [this,List.getD_eq_getElem?_getD,List.getElem?_eq_getElem hk]
 have hobO:∀ o,o ∉ ids -> (st.after os objs').obj o=st.obj o:=fun o ho=>by
  show (find (ids.zip objs' ++ st.objs) o).getD .dead=_
  rw [find_zip_out _ _ _ _ ho]
  rfl
 have hos_idx:∀ o ∈ os,ids.idxOf o < os.length /\ os.getD (ids.idxOf o) 0=o:=fun o ho=>by
  have h1:ids.idxOf o=os.idxOf o:=by
   show (os ++ _).idxOf o=_
   rw [List.idxOf_append,if_pos ho]
  have h2:os.idxOf o < os.length:=List.idxOf_lt_length_of_mem ho
  rw [h1]
  exact ⟨h2,by rw [List.getD_eq_getElem?_getD,List.getElem?_eq_getElem h2,Option.getD_some,List.getElem_idxOf]⟩
 have hgetmem:∀ k,k < os.length -> os.getD k 0 ∈ os:=fun k hk=>by
  rw [List.getD_eq_getElem?_getD,List.getElem?_eq_getElem hk,Option.getD_some];exact List.getElem_mem _
 let β':Nat -> Info:=fun o=>if o ∈ ids then β1 (ids.idxOf o) else β o
 let φ':Nat -> List Nat:=fun o=>if o ∈ ids then φ1 (ids.idxOf o) else φ o
 have hβI:∀ o ∈ ids,β' o=β1 (ids.idxOf o):=fun o ho=>if_pos ho
 have hφI:∀ o ∈ ids,φ' o=φ1 (ids.idxOf o):=fun o ho=>if_pos ho
 have hφO:∀ o,o ∉ ids -> φ' o=φ o:=fun o ho=>if_neg ho
 have hβold:∀ o,o < st.next -> β' o=β o:=fun o ho=>by
  by_cases hi:o ∈ ids
  ·have ho':o ∈ os:=((hmem o).1 hi).resolve_right (by omega)
   rw [hβI o hi,hβ _ (hos_idx o ho').1,(hos_idx o ho').2]
  ·exact if_neg hi
 have hvec:∀ k,Objs objs' k=.dead \/ (∃ sz rows,Objs objs' k=.vec sz true rows) \/ ∃ sz,Objs objs' k=.frz sz []:=fun k=>by
  unfold Objs
  by_cases hk:k < objs'.length
  ·rw [List.getD_eq_getElem?_getD,List.getElem?_eq_getElem hk,Option.getD_some]
   have hs:=hsep _ (List.getElem_mem hk)
   cases e:objs'[k] with
   | dead=>exact .inl rfl
   | vec sz sep rows=>rw [e] at hs;exact .inr (.inl ⟨sz,rows,by rw [show sep=true from hs]⟩)
   | hole=>rw [e] at hs;exact hs.elim
   | pin _ _=>rw [e] at hs;exact hs.elim
   | ballast _=>rw [e] at hs;exact hs.elim
   | box c=>rw [e] at hs;exact hs.elim
   | frz sz rows=>rw [e] at hs;exact .inr (.inr ⟨sz,by rw [show rows=[] from hs]⟩)
   | wide sz n rows=>rw [e] at hs;exact hs.elim
  ·rw [List.getD_eq_getElem?_getD,List.getElem?_eq_none (by omega)]
   exact .inl rfl
 have hfp:∀ k,∀ b ∈ φ1 k,w.heap.size <= b \/ ∃ o1,o1 ∈ os /\ b ∈ φ o1:=fun k b hb=>by
  rcases hφ k b hb with h1 | ⟨k1,h1⟩
  ·exact .inl h1
  ·split at h1
   ·rename_i hk;exact .inr ⟨_,hgetmem k1 hk,h1⟩
   ·cases h1
 obtain ⟨le,sr⟩:=h.change (st':=st.after os objs') (β':=β') (φ':=φ') (w':=w') (fun o=>o ∈ ids) rfl (by show st.next <= st.next + _;omega) hobO hβold hφO
  (fun o ho=>by
    have ho':st.next + (objs'.length - os.length) <= o:=ho
    have hni:o ∉ ids:=fun hi=>((hmem o).1 hi).elim (fun h1=>by have:=hlt o h1;omega) (fun h1=>by omega)
    rw [hobO o hni]
    exact h.dead o (by omega))
  (fun o hi ho=>by
    have ho':o ∈ os:=((hmem o).1 hi).resolve_right (by omega)
    obtain ⟨i1,i2⟩:=hos_idx o ho'
    have hc:=hcomp _ i1
    refine ⟨?_,fun _=>hβold o ho⟩
    rw [hobI o hi]
    have:Objs (os.map st.obj) (ids.idxOf o)=st.obj o:=by
     unfold Objs
     rw [List.getD_eq_getElem?_getD,List.getElem?_map,List.getElem?_eq_getElem i1]
     rw [List.getD_eq_getElem?_getD,List.getElem?_eq_getElem i1] at i2
     simp only [Option.getD_some,Option.map_some] at i2 ⊢
     rw [i2]
    rw [this] at hc
    exact hc)
  (hfrm.mono (fun b hb ⟨k,hk⟩=>by
    split at hk
    ·rename_i hkl;exact ⟨_,(hmem _).2 (.inl (hgetmem k hkl)),hk⟩
    ·cases hk))
  (fun le o hi=>by
    have hob:=hOR.objs (ids.idxOf o)
    unfold ObjRel at hob ⊢
    rw [show ((st.after os objs').ctx w' β' φ').ob o=_ from hobI o hi]
    rcases hvec (ids.idxOf o) with hd | ⟨sz,rows,hd⟩ | ⟨sz,hd⟩
    ·rw [hd]
     rw [show (lctx w' β1 φ1 objs').ob (ids.idxOf o)=_ from hd] at hob
     show φ' o=[]
     rw [hφI o hi]
     exact hob
    rotate_left
    ·rw [hd]
     rw [show (lctx w' β1 φ1 objs').ob (ids.idxOf o)=_ from hd] at hob
     obtain ⟨a1,_,_⟩:=hob
     exact ⟨by rw [hφI o hi];exact a1,fun hne=>absurd rfl hne,[],.nil _ _ _,by simp⟩
    ·rw [hd]
     rw [show (lctx w' β1 φ1 objs').ob (ids.idxOf o)=_ from hd] at hob
     have hβo:((st.after os objs').ctx w' β' φ').β o=(lctx w' β1 φ1 objs').β (ids.idxOf o):=hβI o hi
     obtain ⟨a1,a2,a3⟩:=hob
     refine ⟨a1,by rw [hβo];exact a2,?_⟩
     rw [hβo,hφI o hi]
     rcases a3 with a3 | ⟨b,T,S,E,vs,b1,b2,b3,b4,b5,b6⟩
     ·exact .inl a3
     ·exact .inr ⟨b,T,S,E,vs,b1,b2,b3,b4,b5,b6⟩)
  (fun o hi=>by rw [hφI o hi];exact hOR.nodup _)
  (fun o hi b hb=>by
    rw [hφI o hi] at hb
    refine ⟨hOR.fp _ b hb,(hfp _ b hb).imp id (fun ⟨o1,h1,h2⟩=>⟨o1,(hmem o1).2 (.inl h1),h2⟩)⟩)
  (fun o o' hi hi' hne b hb hb'=>by
    rw [hφI o hi] at hb
    rw [hφI o' hi'] at hb'
    refine hOR.disj _ _ (fun e=>hne ?_) b hb hb'
    have e1:ids[ids.idxOf o]?=some o:=by rw [List.getElem?_eq_getElem (by rw [hl];exact hidx o hi),List.getElem_idxOf]
    have e2:ids[ids.idxOf o']?=some o':=by rw [List.getElem?_eq_getElem (by rw [hl];exact hidx o' hi'),List.getElem_idxOf]
    rw [e,e2] at e1
    exact (Option.some.inj e1).symm)
 refine ⟨β',φ',le,sr,fun {r v} hcl hr=>?_⟩
 have hleaf:∀ {l:Leaf} {v:Value},l.Clean -> LeafRel (lctx w' β1 φ1 objs') l v -> LeafRel ((st.after os objs').ctx w' β' φ') (l.ren ids) v:=by
  intro l v hc hv
  cases l with
  | dat d =>
   obtain ⟨S,hr,_⟩:=hv
   have hr':Rep w' d v S:=hr
   have:S=[]:=by
    have hc':d.flat=true:=hc
    cases hr' <;> first | rfl | (simp [D.flat] at hc')
   subst this
   exact ⟨[],hr',by simp⟩
  | emp=>exact hv
  | own o =>
   obtain ⟨hn',hp⟩:=hv
   have hn':o < objs'.length:=hn'
   have hio:ids[o]?=some (ids.getD o 0):=by
    rw [List.getD_eq_getElem?_getD,List.getElem?_eq_getElem (by rw [hl];exact hn')];rfl
   have hmi:ids.getD o 0 ∈ ids:=List.mem_of_getElem? hio
   have hidx':ids.idxOf (ids.getD o 0)=o:=by
    have hlt':o < ids.length:=by rw [hl];exact hn'
    rw [List.getD_eq_getElem?_getD,List.getElem?_eq_getElem hlt',Option.getD_some]
    exact hnd.idxOf_getElem o hlt'
   refine ⟨?_,?_⟩
   ·show ids.getD o 0 < st.next + _
    rcases (hmem _).1 hmi with h1 | h1
    ·have:=hlt _ h1;omega
    ·exact h1.2
   ·rw [show ((st.after os objs').ctx w' β' φ').ob (ids.getD o 0)=_ from hobI _ hmi,hidx']
    rcases hvec o with hd | ⟨sz,rows,hd⟩ | ⟨sz,hd⟩
    ·rw [hd]
     rw [show (lctx w' β1 φ1 objs').ob o=_ from hd] at hp
     exact hp
    rotate_left
    ·rw [hd]
     rw [show (lctx w' β1 φ1 objs').ob o=_ from hd] at hp
     show v=.slice (β' (ids.getD o 0)).base 0 (β' (ids.getD o 0)).cap
     rw [hβI _ hmi,hidx']
     exact hp
    ·rw [hd]
     rw [show (lctx w' β1 φ1 objs').ob o=_ from hd] at hp
     show v=.slice (β' (ids.getD o 0)).base rows.length (β' (ids.getD o 0)).cap
     rw [hβI _ hmi,hidx']
     exact hp
  | part o i n=>exact hc.elim
  | ptr p=>exact hc.elim
  | fn f c=>exact hc.elim
 have hpv:∀ {r:AV} {v:Value},r.Clean1 -> PVRel (lctx w' β1 φ1 objs') r v -> PVRel ((st.after os objs').ctx w' β' φ') (r.ren1 ids) v:=by
  intro r v hc hv
  cases r with
  | one l=>exact hleaf hc hv
  | agg ls =>
   obtain ⟨vs,rfl,hl1,hl2⟩:=hv
   refine ⟨vs,rfl,by rw [List.length_map];exact hl1,fun j l hj=>?_⟩
   rw [List.getElem?_map] at hj
   cases e:ls[j]? with
   | none=>rw [e] at hj;cases hj
   | some l' =>
    rw [e] at hj
    cases hj
    obtain ⟨x,hx,hr⟩:=hl2 j l' e
    exact ⟨x,hx,hleaf (hc l' (List.mem_of_getElem? e)) hr⟩
  | tup vs=>exact hc.elim
  | ifg b v=>exact hc.elim
 cases r with
 | one l=>exact hpv (r:=.one l) hcl hr
 | agg ls=>exact hpv (r:=.agg ls) hcl hr
 | tup vs =>
  obtain ⟨xs,rfl,hl1,hl2⟩:=hr
  refine ⟨xs,rfl,by rw [List.length_map];exact hl1,fun j a hj=>?_⟩
  rw [List.getElem?_map] at hj
  cases e:vs[j]? with
  | none=>rw [e] at hj;cases hj
  | some a' =>
   rw [e] at hj
   cases hj
   obtain ⟨x,hx,hr⟩:=hl2 j a' e
   exact ⟨x,hx,hpv (hcl a' (List.mem_of_getElem? e)) hr⟩
 | ifg b v=>exact hcl.elim
end
end Go.Abs
