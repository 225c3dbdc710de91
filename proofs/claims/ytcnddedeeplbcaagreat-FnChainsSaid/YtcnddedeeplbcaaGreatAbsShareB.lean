/- A contract with shared results, from a body. -/
import Derived.Test.YtcnddedeeplbcaaGreatAbsCode
import Derived.Test.YtcnddedeeplbcaaGreatAbsShare
namespace Go.Abs
set_option linter.unusedVariables false
variable {P:Program}

def Leaf.up:Leaf -> Leaf
 | .own o=>.own (o + 1)
 | l=>l
def AV.up1:AV -> AV
 | .one l=>.one l.up
 | .agg ls=>.agg (ls.map Leaf.up)
 | a=>a
def AV.up:AV -> AV
 | .tup vs=>.tup (vs.map AV.up1)
 | a=>a.up1

theorem leaf_up {w:World} {β:Nat -> Info} {φ:Nat -> List Nat} {objs':List AObj} {l0:List (Nat × Obj)} {Y:List Nat} (hM:∀ b,(b ∈ Y \/ ∃ o,b ∈ φ (o + 1)) -> ∃ o,b ∈ φ o) {l:Leaf} (hs:l.Sh) {v:Value}
  (h:LeafRel (lctx w β φ (.ballast l0 :: objs')) l.up v):LeafRel (bctx w (fun k=>β (k + 1)) (fun k=>φ (k + 1)) objs' Y) l v:=by
 cases l with
 | dat d =>
  obtain ⟨S,h1,h2⟩:=h
  exact ⟨S,h1,fun b hb hm=>h2 b hb (hM b hm)⟩
 | emp=>exact h
 | own o =>
  obtain ⟨h1,h2⟩:=h
  have h1':o + 1 < objs'.length + 1:=h1
  refine ⟨by show o < objs'.length;omega,?_⟩
  exact h2
 | part o i n=>exact hs.elim
 | ptr p=>exact hs.elim
 | fn f c=>exact hs.elim

theorem av_up1 {w:World} {β:Nat -> Info} {φ:Nat -> List Nat} {objs':List AObj} {l0:List (Nat × Obj)} {Y:List Nat} (hM:∀ b,(b ∈ Y \/ ∃ o,b ∈ φ (o + 1)) -> ∃ o,b ∈ φ o) {r:AV} (hs:r.Sh1) {v:Value}
  (h:PVRel (lctx w β φ (.ballast l0 :: objs')) r.up1 v):PVRel (bctx w (fun k=>β (k + 1)) (fun k=>φ (k + 1)) objs' Y) r v:=by
 cases r with
 | one l=>exact leaf_up hM hs h
 | agg ls =>
  obtain ⟨vs,rfl,h1,h2⟩:=h
  refine ⟨vs,rfl,by rw [List.length_map] at h1;exact h1,fun j l hj=>?_⟩
  obtain ⟨x,hx,hr⟩:=h2 j l.up (by rw [List.getElem?_map,hj];rfl)
  exact ⟨x,hx,leaf_up hM (hs l (List.mem_of_getElem? hj)) hr⟩
 | tup vs=>exact hs.elim
 | ifg b v=>exact hs.elim

theorem av_up {w:World} {β:Nat -> Info} {φ:Nat -> List Nat} {objs':List AObj} {l0:List (Nat × Obj)} {Y:List Nat} (hM:∀ b,(b ∈ Y \/ ∃ o,b ∈ φ (o + 1)) -> ∃ o,b ∈ φ o) {r:AV} (hs:r.Sh) {v:Value}
  (h:AVRel (lctx w β φ (.ballast l0 :: objs')) r.up v):AVRel (bctx w (fun k=>β (k + 1)) (fun k=>φ (k + 1)) objs' Y) r v:=by
 cases r with
 | one l=>exact av_up1 (r:=.one l) hM hs h
 | agg ls=>exact av_up1 (r:=.agg ls) hM hs h
 | tup vs =>
  obtain ⟨xs,rfl,h1,h2⟩:=h
  refine ⟨xs,rfl,by rw [List.length_map] at h1;exact h1,fun j a hj=>?_⟩
  obtain ⟨x,hx,hr⟩:=h2 j a.up1 (by rw [List.getElem?_map,hj];rfl)
  exact ⟨x,hx,av_up1 hM (hs a (List.mem_of_getElem? hj)) hr⟩
 | ifg b v=>exact hs.elim

theorem isVec_objs {objs':List AObj} (hv:∀ x ∈ objs',x.IsVec) (k:Nat):Objs objs' k=.dead \/ ∃ sz sep rows,Objs objs' k=.vec sz sep rows:=by
 unfold Objs
 by_cases hk:k < objs'.length
 ·rw [List.getD_eq_getElem?_getD,List.getElem?_eq_getElem hk,Option.getD_some]
  have hs:=hv _ (List.getElem_mem hk)
  cases e:objs'[k] with
  | dead=>exact .inl rfl
  | vec sz sep rows=>exact .inr ⟨sz,sep,rows,rfl⟩
  | hole=>rw [e] at hs;exact hs.elim
  | pin _ _=>rw [e] at hs;exact hs.elim
  | ballast _=>rw [e] at hs;exact hs.elim
  | box c=>rw [e] at hs;exact hs.elim
  | frz sz rows=>rw [e] at hs;exact hs.elim
  | wide sz n rows=>rw [e] at hs;exact hs.elim
 ·rw [List.getD_eq_getElem?_getD,List.getElem?_eq_none (by omega)]
  exact .inl rfl

theorem CtrB.of_body {f:FuncId} {fn:Func} {c:Code} {as:List AV} {r:AV} {objs':List AObj} (hm:P.follows .mixedOrders=true) (hf:P.funcs[f]?=some fn) (hb:fn.body=some c) (hok:codeOk fn.ntmps c=true)
  (hn:as.length <= fn.ntmps) (hdat:∀ a ∈ as,a.isDat=true) (hsh:r.Sh) (hvec:∀ x ∈ objs',x.IsVec) (hlowr:r.up.Low (objs'.length + 1))
  (hbody:∀ l:List (Nat × Obj),wpA P 1 c (fun e st=>(e=.normal \/ e=.ret) /\ Fin P fn 1 r.up (.ballast l :: objs') st) (mkSt (argEnv 0 as) [.ballast l])):CtrB P f as r objs':=by
 refine ⟨hsh,hvec,fun w Y vs hY hYs hgl hargs=>?_⟩
 let l:List (Nat × Obj):=Y.map fun b=>(b,w.heap[b]!)
 have hl1:l.map Prod.fst=Y:=by
  show (Y.map _).map _=Y
  rw [List.map_map]
  exact List.map_id Y
 have hl2:∀ x ∈ l,w.heap[x.1]?=some x.2:=fun x hx=>by
  obtain ⟨b,hb,rfl⟩:=List.mem_map.1 hx
  have:=hYs b hb
  simp [this]
 let φ0:Nat -> List Nat:=fun o=>if o=0 then Y else []
 let β0:Nat -> Info:=fun _=>⟨none,0⟩
 have hφ00:φ0 0=Y:=if_pos rfl
 have hφ0s:∀ o,φ0 (o + 1)=[]:=fun o=>if_neg (Nat.succ_ne_zero o)
 have hmem0:∀ b,(∃ o,b ∈ φ0 o) -> b ∈ Y:=fun b ⟨o,hb⟩=>by
  cases o with
  | zero=>rw [hφ00] at hb;exact hb
  | succ o=>rw [hφ0s] at hb;cases hb
 have hOR:OR w β0 φ0 [.ballast l]:=by
  refine ⟨fun o=>?_,fun o=>?_,fun o o' hne b hb hb'=>?_,fun o b hb=>hYs b (hmem0 b ⟨o,hb⟩),hgl.sub hmem0⟩
  ·unfold ObjRel
   cases o with
   | zero=>exact ⟨by rw [hφ00,hl1],hl2⟩
   | succ o=>exact hφ0s o
  ·cases o with
   | zero=>rw [hφ00];exact hY
   | succ o=>rw [hφ0s];exact List.nodup_nil
  ·cases o with
   | zero =>
    cases o' with
    | zero=>exact hne rfl
    | succ o'=>rw [hφ0s] at hb';cases hb'
   | succ o=>rw [hφ0s] at hb;cases hb
 have hargs':ArgsRel (lctx w β0 φ0 [.ballast l]) as vs:=by
  refine ⟨hargs.1,fun j a hj=>?_⟩
  obtain ⟨v,hv,hr⟩:=hargs.2 j a hj
  exact ⟨v,hv,dat_av (C:=⟨w,fun _=>⟨none,0⟩,fun _=>.dead,fun b=>b ∈ Y,0⟩) (C':=lctx w β0 φ0 [.ballast l]) rfl (fun b hb=>hmem0 b hb) (hdat a (List.mem_of_getElem? hj)) hr⟩
 have hlow:LowAll [] (.ballast l :: objs'):=⟨by simp,fun x hx=>by
  rcases List.mem_cons.1 hx with rfl | hx
  ·trivial
  ·have:=hvec x hx
   cases x with
   | dead=>trivial
   | vec sz sep rows=>trivial
   | hole=>exact this.elim
   | pin _ _=>exact this.elim
   | ballast _=>exact this.elim
   | box c=>exact this.elim
   | frz sz rows=>exact this.elim
   | wide sz n rows=>exact this.elim⟩
 refine (calls_of_body (objs:=[.ballast l]) (objs':=.ballast l :: objs') hm hf hb hok hn hlow hlowr (hbody l) w β0 φ0 vs hOR hargs').mono ?_
 rintro e w' ⟨v,β1,φ1,he,hOR1,_,hφ1,hr,hfrm⟩
 have hb0:=hOR1.objs 0
 unfold ObjRel at hb0
 obtain ⟨hbφ,hbh⟩:=(show φ1 0=l.map Prod.fst /\ ∀ x ∈ l,w'.heap[x.1]?=some x.2 from hb0)
 rw [hl1] at hbφ
 have hM:∀ b,(b ∈ Y \/ ∃ o,b ∈ φ1 (o + 1)) -> ∃ o,b ∈ φ1 o:=fun b hb=>hb.elim (fun h=>⟨0,by rw [hbφ];exact h⟩) (fun ⟨o,h⟩=>⟨o + 1,h⟩)
 refine ⟨v,fun k=>β1 (k + 1),fun k=>φ1 (k + 1),he,fun k=>?_,fun k=>hOR1.nodup _,fun k k' hne=>hOR1.disj _ _ (by omega),fun k b hb=>⟨hOR1.fp _ b hb,?_⟩,av_up hM hsh hr,?_⟩
 ·have hob:=hOR1.objs (k + 1)
  unfold ObjRel at hob ⊢
  have he1:(lctx w' β1 φ1 (.ballast l :: objs')).ob (k + 1)=Objs objs' k:=rfl
  rw [he1] at hob
  rw [show (bctx w' (fun k=>β1 (k + 1)) (fun k=>φ1 (k + 1)) objs' Y).ob k=Objs objs' k from rfl]
  rcases isVec_objs hvec k with hd | ⟨sz,sep,rows,hd⟩
  ·rw [hd] at hob ⊢
   exact hob
  ·rw [hd] at hob ⊢
   obtain ⟨a1,a2,a3⟩:=hob
   refine ⟨a1,a2,?_⟩
   rcases a3 with a3 | ⟨b,T,S,E,vs,b1,b2,b3,b4,b5,b6⟩
   ·exact .inl a3
   ·refine .inr ⟨b,T,S,E,vs,b1,b2,b3,b4,b5,?_⟩
    cases sep with
    | true=>exact b6
    | false=>exact fun x hx hm=>b6 x hx (hM x hm)
 ·rcases hφ1 (k + 1) b hb with h1 | ⟨o,h1⟩
  ·exact h1
  ·have:=hmem0 b ⟨o,h1⟩
   rw [<- hbφ] at this
   exact absurd this (hOR1.disj _ _ (by omega) b hb)
 ·refine ⟨hfrm.os,hfrm.tape,hfrm.output,hfrm.size,fun b hb _=>?_⟩
  by_cases hbY:b ∈ Y
  ·have hm1:(b,w.heap[b]!) ∈ l:=List.mem_map_of_mem hbY
   rw [hbh _ hm1,hl2 _ hm1]
  ·exact hfrm.block b hb (fun hx=>hbY (hmem0 b hx))

section
variable {B:Base} {N:Nat} {st:St} {β:Nat -> Info} {φ:Nat -> List Nat} {a:Act} {w:World}
theorem SR.unsep (h:SR B N st β φ a w) {o sz:Nat} {rows:List (List D)} (eo:st.obj o=.vec sz true rows) :
  ∃ φ',SR B N (st.setObj o (.vec sz false rows)) β φ' a w:=by
 have ho:=h.objs o
 unfold ObjRel at ho
 rw [show (st.ctx w β φ).ob o=_ from eo] at ho
 obtain ⟨h1,h2,h3⟩:=ho
 let φ':Nat -> List Nat:=upd φ o ((φ o).take 1)
 have hsub:∀ b ∈ (φ o).take 1,b ∈ φ o:=fun b hb=>List.mem_of_mem_take hb
 refine ⟨φ',(h.change (st':=st.setObj o (.vec sz false rows)) (β':=β) (φ':=φ') (w':=w) (fun k=>k=o) rfl (Nat.le_refl _) (fun k hk=>St.obj_setObj_ne st _ hk) (fun _ _=>rfl) (fun k hk=>upd_ne _ _ hk) (fun k hk=>?_) (fun k hk _=>?_) (Frm.refl w _) (fun le k hk=>?_) (fun k hk=>?_)
  (fun k hk b' hb'=>?_) (fun k k' hk hk' hne=>absurd (hk.trans hk'.symm) hne)).2⟩
 ·have hk':st.next <= k:=hk
  have hon:o < st.next:=lt_next h (by rw [eo];simp)
  rw [St.obj_setObj_ne st _ (by omega)]
  exact h.dead k hk
 ·subst hk
  rw [St.obj_setObj_same,eo]
  exact ⟨⟨rfl,rfl⟩,fun _=>rfl⟩
 ·subst hk
  unfold ObjRel
  rw [show ((st.setObj k (.vec sz false rows)).ctx w β φ').ob k=_ from St.obj_setObj_same st k _]
  refine ⟨h1,h2,?_⟩
  rcases h3 with ⟨e1,e2⟩ | ⟨b,T,S,E,vs,e1,e2,e3,e4,e5,e6⟩
  ·refine .inl ⟨?_,e2⟩
   show upd φ k _ k=[]
   rw [upd_same,e1];rfl
  ·simp only [if_true] at e6
   obtain ⟨_,hSE,_⟩:=e6
   refine .inr ⟨b,T,S,[],vs,e1,e2,e3,e4,?_,?_⟩
   ·show upd φ k _ k=[b]
    rw [upd_same,e5];rfl
   ·simp only [Bool.false_eq_true,if_false]
    intro x hx ⟨k',hm⟩
    have hm:x ∈ φ' k':=hm
    have hxo:x ∈ φ k:=by rw [e5];exact List.mem_cons_of_mem _ (hSE x hx)
    by_cases e:k'=k
    ·subst e
     rw [show φ' k'=[b] by show upd φ k' _ k'=[b];rw [upd_same,e5];rfl] at hm
     have hxb:=List.mem_singleton.1 hm
     have hnd:=h.nodup k'
     rw [e5] at hnd
     exact (List.nodup_cons.1 hnd).1 (hxb ▸ hSE x hx)
    ·rw [show φ' k'=φ k' from upd_ne _ _ e] at hm
     exact h.disj k' k e x hm hxo
 ·subst hk
  show (upd φ k _ k).Nodup
  rw [upd_same]
  exact (h.nodup k).sublist (List.take_sublist _ _)
 ·subst hk
  have hb':b' ∈ upd φ k _ k:=hb'
  rw [upd_same] at hb'
  exact ⟨(h.fp k b' (hsub b' hb')).1,.inr ⟨k,rfl,hsub b' hb'⟩⟩

theorem Ent.unsep {nf o sz:Nat} {rows:List (List D)} (eo:st.obj o=.vec sz true rows):Ent nf st (st.setObj o (.vec sz false rows)):=fun B N β φ a w hB h=>by
 obtain ⟨φ',sr⟩:=h.unsep eo
 exact ⟨β,φ',sr⟩
end

end Go.Abs
