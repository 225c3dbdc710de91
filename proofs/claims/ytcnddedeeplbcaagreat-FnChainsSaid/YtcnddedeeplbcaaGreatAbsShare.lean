/- Contracts whose results share blocks with their arguments. -/
import Derived.Test.YtcnddedeeplbcaaGreatAbsCall
namespace Go.Abs
set_option linter.unusedVariables false

def Leaf.isDat:Leaf -> Bool
 | .dat _=>true
 | .emp=>true
 | _=>false

def AV.isDat:AV -> Bool
 | .one l=>l.isDat
 | .agg ls=>ls.all Leaf.isDat
 | _=>false

def Leaf.Sh:Leaf -> Prop
 | .dat _=>True
 | .emp=>True
 | .own _=>True
 | _=>False

def AV.Sh1:AV -> Prop
 | .one l=>l.Sh
 | .agg ls=>∀ l ∈ ls,l.Sh
 | _=>False

def AV.Sh:AV -> Prop
 | .tup vs=>∀ v ∈ vs,v.Sh1
 | a=>a.Sh1

def AObj.IsVec:AObj -> Prop
 | .vec _ _ _=>True
 | .dead=>True
 | _=>False

def bctx (w:World) (β:Nat -> Info) (φ:Nat -> List Nat) (objs:List AObj) (Y:List Nat):Ctx:=⟨w,β,Objs objs,fun b=>b ∈ Y \/ ∃ o,b ∈ φ o,objs.length⟩

structure CtrB (P:Program) (f:FuncId) (as:List AV) (r:AV) (objs':List AObj):Prop where
 sh:r.Sh
 vecs:∀ x ∈ objs',x.IsVec
 calls:∀ (w:World) (Y:List Nat) (vs:Array Value),Y.Nodup -> (∀ b ∈ Y,b < w.heap.size) -> GlobOk w (fun b=>b ∈ Y) -> ArgsRel ⟨w,fun _=>⟨none,0⟩,fun _=>.dead,fun b=>b ∈ Y,0⟩ as vs ->
  Calls P f vs w fun e w'=>∃ v β' φ',e=.returned v /\ (∀ o,ObjRel (bctx w' β' φ' objs' Y) φ' o) /\ (∀ o,(φ' o).Nodup) /\ (∀ o o',o ≠ o' -> ∀ b ∈ φ' o,b ∉ φ' o') /\
   (∀ o,∀ b ∈ φ' o,b < w'.heap.size /\ w.heap.size <= b) /\ AVRel (bctx w' β' φ' objs' Y) r v /\ Frm w (fun _=>False) w'

theorem nodup_of (L:List Nat):∃ Y:List Nat,Y.Nodup /\ ∀ b,b ∈ Y ↔ b ∈ L:=by
 induction L with
 | nil=>exact ⟨[],List.nodup_nil,by simp⟩
 | cons x L ih =>
  obtain ⟨Y,h1,h2⟩:=ih
  by_cases hx:x ∈ L
  ·exact ⟨Y,h1,fun b=>by rw [h2];simp only [List.mem_cons];exact ⟨.inr,fun h=>h.elim (fun e=>e ▸ hx) id⟩⟩
  ·exact ⟨x :: Y,List.nodup_cons.2 ⟨fun hm=>hx ((h2 x).1 hm),h1⟩,fun b=>by simp only [List.mem_cons,h2]⟩

theorem dat_leaf {C C':Ctx} (hw:C'.w=C.w) (hM:∀ b,C'.M b -> C.M b) {l:Leaf} (hd:l.isDat=true) {v:Value} (h:LeafRel C l v):LeafRel C' l v:=by
 cases l with
 | dat d =>
  obtain ⟨S,h1,h2⟩:=h
  exact ⟨S,by rw [hw];exact h1,fun b hb hm=>h2 b hb (hM b hm)⟩
 | emp=>exact h
 | own o=>cases hd
 | part o i n=>cases hd
 | ptr p=>cases hd
 | fn f c=>cases hd

theorem dat_av {C C':Ctx} (hw:C'.w=C.w) (hM:∀ b,C'.M b -> C.M b) {u:AV} (hd:u.isDat=true) {v:Value} (h:AVRel C u v):AVRel C' u v:=by
 cases u with
 | one l=>exact dat_leaf hw hM hd h
 | agg ls =>
  obtain ⟨vs,rfl,h1,h2⟩:=h
  refine ⟨vs,rfl,h1,fun j l hj=>?_⟩
  obtain ⟨x,hx,hr⟩:=h2 j l hj
  have hl:l.isDat=true:=(List.all_eq_true.1 hd) l (List.mem_of_getElem? hj)
  exact ⟨x,hx,dat_leaf hw hM hl hr⟩
 | tup vs=>cases hd
 | ifg b v=>cases hd

section
variable {P:Program} {B:Base} {N:Nat} {st st':St} {β:Nat -> Info} {φ:Nat -> List Nat} {a:Act} {w w':World}

theorem SR.afterB (h:SR B N st β φ a w) {objs':List AObj} {Y:List Nat} (hY:∀ b,b ∈ Y ↔ ∃ o,b ∈ φ o) (hv:∀ x ∈ objs',x.IsVec) {β1:Nat -> Info} {φ1:Nat -> List Nat}
  (hobj:∀ o,ObjRel (bctx w' β1 φ1 objs' Y) φ1 o) (hnd1:∀ o,(φ1 o).Nodup) (hdj1:∀ o o',o ≠ o' -> ∀ b ∈ φ1 o,b ∉ φ1 o') (hfp1:∀ o,∀ b ∈ φ1 o,b < w'.heap.size /\ w.heap.size <= b)
  (hfrm:Frm w (fun _=>False) w') :
  ∃ β' φ',(st.ctx w β φ).Le ((st.after [] objs').ctx w' β' φ') /\ SR B N (st.after [] objs') β' φ' a w' /\
   ∀ {r:AV} {v:Value},r.Sh -> AVRel (bctx w' β1 φ1 objs' Y) r v -> AVRel ((st.after [] objs').ctx w' β' φ') (r.ren (idsOf [] st.next objs'.length)) v:=by
 have hids:∀ k,k < objs'.length -> (idsOf [] st.next objs'.length)[k]?=some (st.next + k):=fun k hk=>by
  show (([]:List Nat) ++ fresh st.next (objs'.length - 0))[k]?=_
  exact fresh_get _ _ _ (by omega)
 have hobN:∀ k,(st.after [] objs').obj (st.next + k)=Objs objs' k:=fun k=>by
  by_cases hk:k < objs'.length
  ·have:=find_zip_in (idsOf [] st.next objs'.length) objs' st.objs k (objs'[k]) (by show (([]:List Nat) ++ fresh st.next (objs'.length - 0)).Nodup;exact fresh_nodup _ _) (List.getElem?_eq_getElem hk) (st.next + k) (hids k hk)
   show (find ((idsOf [] st.next objs'.length).zip objs' ++ st.objs) (st.next + k)).getD .dead=objs'.getD k .dead
   rw [this,List.getD_eq_getElem?_getD,List.getElem?_eq_getElem hk]
  ·show (find ((idsOf [] st.next objs'.length).zip objs' ++ st.objs) (st.next + k)).getD .dead=objs'.getD k .dead
   rw [find_zip_out _ _ _ _ (fun hm=>by
    have hm:st.next + k ∈ (([]:List Nat) ++ fresh st.next (objs'.length - 0)):=hm
    have:=(fresh_mem _ _ _).1 hm
    omega),List.getD_eq_getElem?_getD,List.getElem?_eq_none (by omega)]
   exact h.dead _ (by omega)
 have hobO:∀ o,o < st.next -> (st.after [] objs').obj o=st.obj o:=fun o ho=>by
  show (find ((idsOf [] st.next objs'.length).zip objs' ++ st.objs) o).getD .dead=_
  rw [find_zip_out _ _ _ _ (fun hm=>by
    have hm:o ∈ (([]:List Nat) ++ fresh st.next (objs'.length - 0)):=hm
    have:=(fresh_mem _ _ _).1 hm
    omega)]
  rfl
 have hφ0:∀ o,st.next <= o -> φ o=[]:=fun o ho=>by
  have:=h.objs o
  unfold ObjRel at this
  rw [show (st.ctx w β φ).ob o=_ from h.dead o ho] at this
  exact this
 let β':Nat -> Info:=fun o=>if o < st.next then β o else β1 (o - st.next)
 let φ':Nat -> List Nat:=fun o=>if o < st.next then φ o else φ1 (o - st.next)
 have hβN:∀ k,β' (st.next + k)=β1 k:=fun k=>by show (if _ then _ else _)=_;rw [if_neg (by omega)];congr 1;omega
 have hφN:∀ k,φ' (st.next + k)=φ1 k:=fun k=>by show (if _ then _ else _)=_;rw [if_neg (by omega)];congr 1;omega
 have hM:∀ b,(∃ o,b ∈ φ' o) -> b ∈ Y \/ ∃ o,b ∈ φ1 o:=fun b ⟨o,hb⟩=>by
  by_cases ho:o < st.next
  ·rw [show φ' o=φ o from if_pos ho] at hb;exact .inl ((hY b).2 ⟨o,hb⟩)
  ·rw [show φ' o=φ1 (o - st.next) from if_neg ho] at hb;exact .inr ⟨_,hb⟩
 have hvec:∀ k,Objs objs' k=.dead \/ ∃ sz sep rows,Objs objs' k=.vec sz sep rows:=fun k=>by
  unfold Objs
  by_cases hk:k < objs'.length
  ·rw [List.getD_eq_getElem?_getD,List.getElem?_eq_getElem hk,Option.getD_some]
   have hs:=hv _ (List.getElem_mem hk)
   cases e:objs'[k] with
   | dead=>exact .inl rfl
   | vec sz sep rows=>exact .inr ⟨sz,sep,rows,rfl⟩
   | hole=>rw [e] at hs;exact hs.elim
   | pin _ _=>rw [e] at hs;exact hs.elim
   | ballast _=>rw [e] at hs;exact hs.elim
   | box c=>rw [e] at hs;exact hs.elim
   | frz sz rows=>rw [e] at hs;exact hs.elim
   | wide sz n rows=>rw [e] at hs;exact hs.elim
  ·rw [List.getD_eq_getElem?_getD,List.getElem?_eq_none (by omega)]
   exact .inl rfl
 obtain ⟨le,sr⟩:=h.change (st':=st.after [] objs') (β':=β') (φ':=φ') (w':=w') (fun o=>st.next <= o) rfl (by show st.next <= st.next + _;omega)
  (fun o ho=>hobO o (by omega)) (fun o ho=>if_pos ho) (fun o ho=>if_pos (by omega))
  (fun o ho=>by
    have ho':st.next + (objs'.length - 0) <= o:=ho
    obtain ⟨k,rfl⟩:=Nat.exists_eq_add_of_le (show st.next <= o by omega)
    rw [hobN]
    unfold Objs
    rw [List.getD_eq_getElem?_getD,List.getElem?_eq_none (by omega)]
    rfl)
  (fun o hi ho=>absurd ho (by omega))
  (hfrm.mono (fun b hb hf=>hf.elim))
  (fun le o hi=>by
    obtain ⟨k,rfl⟩:=Nat.exists_eq_add_of_le (show st.next <= o from hi)
    have hob:=hobj k
    unfold ObjRel at hob ⊢
    rw [show ((st.after [] objs').ctx w' β' φ').ob (st.next + k)=_ from hobN k]
    rcases hvec k with hd | ⟨sz,sep,rows,hd⟩
    ·rw [hd]
     rw [show (bctx w' β1 φ1 objs' Y).ob k=_ from hd] at hob
     show φ' (st.next + k)=[]
     rw [hφN]
     exact hob
    ·rw [hd]
     rw [show (bctx w' β1 φ1 objs' Y).ob k=_ from hd] at hob
     have hβo:((st.after [] objs').ctx w' β' φ').β (st.next + k)=(bctx w' β1 φ1 objs' Y).β k:=hβN k
     obtain ⟨a1,a2,a3⟩:=hob
     refine ⟨a1,by rw [hβo];exact a2,?_⟩
     rw [hβo,hφN]
     rcases a3 with a3 | ⟨b,T,S,E,vs,b1,b2,b3,b4,b5,b6⟩
     ·exact .inl a3
     ·refine .inr ⟨b,T,S,E,vs,b1,b2,b3,b4,b5,?_⟩
      cases sep with
      | true=>exact b6
      | false=>exact fun x hx hm=>b6 x hx (hM x hm))
  (fun o hi=>by
    obtain ⟨k,rfl⟩:=Nat.exists_eq_add_of_le (show st.next <= o from hi)
    rw [hφN];exact hnd1 k)
  (fun o hi b hb=>by
    obtain ⟨k,rfl⟩:=Nat.exists_eq_add_of_le (show st.next <= o from hi)
    rw [hφN] at hb
    exact ⟨(hfp1 k b hb).1,.inl (hfp1 k b hb).2⟩)
  (fun o o' hi hi' hne b hb hb'=>by
    obtain ⟨k,rfl⟩:=Nat.exists_eq_add_of_le (show st.next <= o from hi)
    obtain ⟨k',rfl⟩:=Nat.exists_eq_add_of_le (show st.next <= o' from hi')
    rw [hφN] at hb hb'
    exact hdj1 k k' (fun e=>hne (by rw [e])) b hb hb')
 refine ⟨β',φ',le,sr,fun {r v} hcl hr=>?_⟩
 have hleaf:∀ {l:Leaf} {v:Value},l.Sh -> LeafRel (bctx w' β1 φ1 objs' Y) l v -> LeafRel ((st.after [] objs').ctx w' β' φ') (l.ren (idsOf [] st.next objs'.length)) v:=by
  intro l v hc hv
  cases l with
  | dat d =>
   obtain ⟨S,hr,hS⟩:=hv
   exact ⟨S,hr,fun b hb hm=>hS b hb (hM b hm)⟩
  | emp=>exact hv
  | own o =>
   obtain ⟨hn',hp⟩:=hv
   have hn':o < objs'.length:=hn'
   have hg:(idsOf [] st.next objs'.length).getD o 0=st.next + o:=by rw [List.getD_eq_getElem?_getD,hids o hn'];rfl
   show LeafRel _ (.own ((idsOf [] st.next objs'.length).getD o 0)) v
   rw [hg]
   refine ⟨by show st.next + o < st.next + (objs'.length - 0);omega,?_⟩
   rw [show ((st.after [] objs').ctx w' β' φ').ob (st.next + o)=_ from hobN o]
   rw [show (bctx w' β1 φ1 objs' Y).ob o=Objs objs' o from rfl] at hp
   rcases hvec o with hd | ⟨sz,sep,rows,hd⟩
   ·rw [hd] at hp ⊢;exact hp
   ·rw [hd] at hp ⊢
    show v=.slice (β' (st.next + o)).base rows.length (β' (st.next + o)).cap
    rw [hβN]
    exact hp
  | part o i n=>exact hc.elim
  | ptr p=>exact hc.elim
  | fn f c=>exact hc.elim
 have hpv:∀ {r:AV} {v:Value},r.Sh1 -> PVRel (bctx w' β1 φ1 objs' Y) r v -> PVRel ((st.after [] objs').ctx w' β' φ') (r.ren1 (idsOf [] st.next objs'.length)) v:=by
  intro r v hc hv
  cases r with
  | one l=>exact hleaf hc hv
  | agg ls =>
   obtain ⟨vs,rfl,hl1,hl2⟩:=hv
   refine ⟨vs,rfl,by rw [List.length_map];exact hl1,fun j l hj=>?_⟩
   rw [List.getElem?_map] at hj
   cases e:ls[j]? with
   | none=>rw [e] at hj;cases hj
   | some l' =>
    rw [e] at hj
    cases hj
    obtain ⟨x,hx,hr⟩:=hl2 j l' e
    exact ⟨x,hx,hleaf (hc l' (List.mem_of_getElem? e)) hr⟩
  | tup vs=>exact hc.elim
  | ifg b v=>exact hc.elim
 cases r with
 | one l=>exact hpv (r:=.one l) hcl hr
 | agg ls=>exact hpv (r:=.agg ls) hcl hr
 | tup vs =>
  obtain ⟨xs,rfl,hl1,hl2⟩:=hr
  refine ⟨xs,rfl,by rw [List.length_map];exact hl1,fun j a hj=>?_⟩
  rw [List.getElem?_map] at hj
  cases e:vs[j]? with
  | none=>rw [e] at hj;cases hj
  | some a' =>
   rw [e] at hj
   cases hj
   obtain ⟨x,hx,hr⟩:=hl2 j a' e
   exact ⟨x,hx,hpv (hcl a' (List.mem_of_getElem? e)) hr⟩
 | ifg b v=>exact hcl.elim
end

def frzAll (st:St):List Nat -> St
 | []=>st
 | o :: os=>frzAll (match st.obj o with | .vec sz _ rows=>st.setObj o (.frz sz rows) | _=>st) os

def datL (st:St):Leaf -> Option Leaf
 | .dat d=>some (.dat d)
 | .emp=>some .emp
 | .own o=>match st.obj o with
  | .frz sz rows=>some (.dat (.sl sz rows))
  | _=>none
 | _=>none

def datLs (st:St):List Leaf -> Option (List Leaf)
 | []=>some []
 | l :: ls=>match datL st l,datLs st ls with
  | some d,some ds=>some (d :: ds)
  | _,_=>none

def datA (st:St):AV -> Option AV
 | .one l=>(datL st l).map .one
 | .agg ls=>(datLs st ls).map .agg
 | _=>none

def datAs (st:St):List AV -> Option (List AV)
 | []=>some []
 | a :: as=>match datA st a,datAs st as with
  | some b,some bs=>some (b :: bs)
  | _,_=>none

section
variable {P:Program} {B:Base} {N:Nat} {st:St} {β:Nat -> Info} {φ:Nat -> List Nat} {a:Act} {w:World}

theorem frzAll_next (os:List Nat):∀ st:St,(frzAll st os).next=st.next:=by
 induction os with
 | nil=>exact fun _=>rfl
 | cons o os ih =>
  intro st
  rw [frzAll,ih]
  split <;> rfl

theorem frzAll_env (os:List Nat):∀ st:St,(frzAll st os).env=st.env:=by
 induction os with
 | nil=>exact fun _=>rfl
 | cons o os ih =>
  intro st
  rw [frzAll,ih]
  split <;> rfl

theorem frzAll_hole (os:List Nat) (k:Nat):∀ {st:St},(frzAll st os).obj k=.hole -> st.obj k=.hole:=by
 induction os with
 | nil=>exact fun h=>h
 | cons o os ih =>
  intro st h
  rw [frzAll] at h
  have h:=ih h
  split at h
  ·rename_i sz sep rows eo
   by_cases e:k=o
   ·subst e;rw [St.obj_setObj_same] at h;cases h
   ·rw [St.obj_setObj_ne st _ e] at h;exact h
  ·exact h

theorem Compat.frz_trans {x y z:AObj} (h:Compat x y) (h':Compat y z):Compat x z:=by
 cases x <;> cases y <;> cases z <;> simp_all [Compat]
 all_goals omega

theorem Ctx.Le.frz_trans {C C' C'':Ctx} (h:C.Le C') (h':C'.Le C'') (hh:∀ o,C'.ob o=.hole -> C.ob o=.hole):C.Le C'' where
 size:=Nat.le_trans h.size h'.size
 keep:=fun b hb hm=>by
  exact (h'.keep b (Nat.lt_of_lt_of_le hb h.size) (fun hm'=>(h.new b hm').elim hm (fun hx=>absurd hb (by omega)))).trans (h.keep b hb hm)
 new:=fun b hb=>by
  rcases h'.new b hb with h1 | h1
  ·exact h.new b h1
  ·exact .inr (Nat.le_trans h.size h1)
 obj:=fun o ho hne=>by
  obtain ⟨c1,b1⟩:=h.obj o ho hne
  obtain ⟨c2,b2⟩:=h'.obj o (Nat.lt_of_lt_of_le ho h.next) (fun e=>hne (hh o e))
  refine ⟨c1.frz_trans c2,fun hd=>?_⟩
  refine (b2 hd).trans (b1 fun e=>hd ?_)
  rw [e] at c2
  revert c2
  cases C''.ob o <;> simp [Compat]
 next:=Nat.le_trans h.next h'.next

theorem SR.frzAll (os:List Nat):∀ {st:St} {φ:Nat -> List Nat},SR B N st β φ a w -> ∃ φ',(st.ctx w β φ).Le ((frzAll st os).ctx w β φ') /\ SR B N (frzAll st os) β φ' a w:=by
 induction os with
 | nil=>exact fun h=>⟨_,le_refl _,h⟩
 | cons o os ih =>
  intro st φ h
  rw [Abs.frzAll]
  split
  ·rename_i sz sep rows eo
   obtain ⟨le,sr⟩:=h.freeze eo
   obtain ⟨φ',le',sr'⟩:=ih sr
   exact ⟨φ',le.frz_trans le' (fun k hk=>by
    by_cases e:k=o
    ·subst e;rw [show ((st.setObj k (.frz sz rows)).ctx w β (upd φ k [])).ob k=_ from St.obj_setObj_same st k _] at hk;cases hk
    ·rw [show ((st.setObj o (.frz sz rows)).ctx w β (upd φ o [])).ob k=_ from St.obj_setObj_ne st _ e] at hk;exact hk),sr'⟩
  ·exact ih h

theorem datL_sound (h:SR B N st β φ a w) {l l':Leaf} (e:datL st l=some l') {v:Value} (hr:LeafRel (st.ctx w β φ) l v):l'.isDat=true /\ LeafRel (st.ctx w β φ) l' v:=by
 cases l with
 | dat d=>cases e;exact ⟨rfl,hr⟩
 | emp=>cases e;exact ⟨rfl,hr⟩
 | own o =>
  have e:(match st.obj o with | .frz sz rows=>some (Leaf.dat (.sl sz rows)) | _=>none)=some l':=e
  split at e
  ·rename_i sz rows eo
   cases e
   refine ⟨rfl,?_⟩
   have ho:=h.objs o
   unfold ObjRel at ho
   rw [show (st.ctx w β φ).ob o=_ from eo] at ho
   obtain ⟨_,_,S,h1,h2⟩:=ho
   obtain ⟨_,hr'⟩:=hr
   rw [show (st.ctx w β φ).ob o=_ from eo] at hr'
   have hr':v=_:=hr'
   subst hr'
   exact ⟨S,h1,h2⟩
  ·cases e
 | part o i n=>cases e
 | ptr p=>cases e
 | fn f c=>cases e

theorem datLs_sound (h:SR B N st β φ a w):∀ {ls ls':List Leaf},datLs st ls=some ls' -> ls'.length=ls.length /\ ls'.all Leaf.isDat=true /\
  ∀ {v:Value} (j:Nat) (l':Leaf),ls'[j]?=some l' -> ∃ l,ls[j]?=some l /\ datL st l=some l':=by
 intro ls
 induction ls with
 | nil=>intro ls' e;cases e;exact ⟨rfl,rfl,fun j l' hj=>by simp at hj⟩
 | cons l ls ih =>
  intro ls' e
  unfold datLs at e
  split at e
  ·rename_i d ds e1 e2
   cases e
   obtain ⟨i1,i2,i3⟩:=ih e2
   have hd:d.isDat=true:=by
    unfold datL at e1
    split at e1 <;> try cases e1
    ·rfl
    ·rfl
    ·split at e1 <;> cases e1;rfl
   refine ⟨by simp [i1],by simp [hd];simpa using i2,fun {v} j l' hj=>?_⟩
   cases j with
   | zero=>simp only [List.getElem?_cons_zero,Option.some.injEq] at hj;subst hj;exact ⟨l,rfl,e1⟩
   | succ j=>exact i3 (v:=v) j l' hj
  ·cases e

theorem datA_sound (h:SR B N st β φ a w) {u u':AV} (e:datA st u=some u'):u'.isDat=true /\ ∀ {v:Value},AVRel (st.ctx w β φ) u v -> AVRel (st.ctx w β φ) u' v:=by
 cases u with
 | one l =>
  have e:(datL st l).map AV.one=some u':=e
  cases el:datL st l with
  | none=>rw [el] at e;cases e
  | some l' =>
   rw [el] at e;cases e
   refine ⟨?_,fun {v} hr=>(datL_sound h el hr).2⟩
   show l'.isDat=true
   unfold datL at el
   split at el <;> try cases el
   ·rfl
   ·rfl
   ·split at el <;> cases el;rfl
 | agg ls =>
  have e:(datLs st ls).map AV.agg=some u':=e
  cases el:datLs st ls with
  | none=>rw [el] at e;cases e
  | some ls' =>
   rw [el] at e;cases e
   obtain ⟨i1,i2,i3⟩:=datLs_sound h el
   refine ⟨i2,fun {v} hr=>?_⟩
   obtain ⟨vs,rfl,h1,h2⟩:=hr
   refine ⟨vs,rfl,h1.trans i1.symm,fun j l' hj=>?_⟩
   obtain ⟨l,hl,ed⟩:=i3 (v:=.agg vs) j l' hj
   obtain ⟨x,hx,hr⟩:=h2 j l hl
   exact ⟨x,hx,(datL_sound h ed hr).2⟩
 | tup vs=>cases e
 | ifg b v=>cases e

theorem datAs_sound (h:SR B N st β φ a w):∀ {us us':List AV},datAs st us=some us' -> us'.length=us.length /\ us'.all AV.isDat=true /\
  ∀ (j:Nat) (u':AV),us'[j]?=some u' -> ∃ u,us[j]?=some u /\ ∀ {v:Value},AVRel (st.ctx w β φ) u v -> AVRel (st.ctx w β φ) u' v:=by
 intro us
 induction us with
 | nil=>intro us' e;cases e;exact ⟨rfl,rfl,fun j u' hj=>by simp at hj⟩
 | cons u us ih =>
  intro us' e
  unfold datAs at e
  split at e
  ·rename_i d ds e1 e2
   cases e
   obtain ⟨i1,i2,i3⟩:=ih e2
   obtain ⟨k1,k2⟩:=datA_sound h e1
   refine ⟨by simp [i1],by simp [k1];simpa using i2,fun j u' hj=>?_⟩
   cases j with
   | zero=>simp only [List.getElem?_cons_zero,Option.some.injEq] at hj;subst hj;exact ⟨u,rfl,k2⟩
   | succ j=>exact i3 j u' hj
  ·cases e
end

end Go.Abs
