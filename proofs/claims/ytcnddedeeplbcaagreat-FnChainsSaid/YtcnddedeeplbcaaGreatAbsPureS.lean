/- Soundness of the operations that leave memory alone. -/
import Derived.Test.YtcnddedeeplbcaaGreatAbsPure
namespace Go.Abs
set_option linter.unusedVariables false

section
variable {P:Program} {B:Base} {N:Nat} {st st':St} {β:Nat -> Info} {φ:Nat -> List Nat} {a:Act} {w:World}

def Res (P:Program) (C:Ctx) (st st':St) (r:Option AV) (m:Sem Value):Prop :=
 st'=st /\ ∃ r' z,r=some r' /\ m.run P C.w=.ok z C.w /\ AVRel C r' z

theorem leaf_flat {C:Ctx} {d:D} {v:Value} (h:Rep C.w d v []):AVRel C (.one (.dat d)) v:=⟨[],h,by simp⟩

theorem binS_sound {C:Ctx} {op:BinOp} {t:TypeId} {x y:Operand} {u v:AV} {q:Prop} {r:Option AV} {p1 p2:Value} (h:binS P st op t u v=some (q,r,st')) (hq:q)
  (hu:AVRel C u p1) (hv:AVRel C v p2):Res P C st st' r (do eqGuard op t x y p1 p2;binOp op t p1 p2):=by
 unfold binS at h
 split at h
 ·rename_i d e
  split at h
  ·rename_i q' r' e1
   simp only [Option.some.injEq,Prod.mk.injEq] at h
   obtain ⟨rfl,rfl,rfl⟩:=h
   obtain ⟨S,h1,_⟩:=hu
   obtain ⟨S',h2,_⟩:=hv
   obtain ⟨z,hz,hr⟩:=binD_sound (P:=P) (w:=C.w) (x:=x) (y:=y) e1 hq h1 h2
   exact ⟨rfl,_,z,rfl,hz,leaf_flat hr⟩
  ·cases h
 ·rename_i ls ms
  obtain ⟨xs,rfl,hl⟩:=hu
  obtain ⟨ys,rfl,hm⟩:=hv
  split at h
  ·rename_i ks hks
   split at h
   ·rename_i q' b e1
    simp only [Option.some.injEq,Prod.mk.injEq] at h
    obtain ⟨rfl,rfl,rfl⟩:=h
    exact ⟨rfl,_,_,rfl,(eqAgg_run hks (x:=x) (y:=y) (eqD_some e1 hq) hq hl hm).1,leaf_flat (.bool _)⟩
   ·cases h
  ·rename_i ks hks
   split at h
   ·rename_i q' b e1
    simp only [Option.some.injEq,Prod.mk.injEq] at h
    obtain ⟨rfl,rfl,rfl⟩:=h
    exact ⟨rfl,_,_,rfl,(eqAgg_run hks (x:=x) (y:=y) (eqD_some e1 hq) hq hl hm).2,leaf_flat (.bool _)⟩
   ·cases h
  ·cases h
 ·cases h

theorem unS_sound {C:Ctx} {op:UnOp} {u:AV} {q:Prop} {r:Option AV} {p:Value} (h:unS st op u=some (q,r,st')) (hq:q) (hu:AVRel C u p):Res P C st st' r (Op.unary op p):=by
 unfold unS at h
 split at h
 ·split at h
  ·simp only [Option.some.injEq,Prod.mk.injEq] at h
   obtain ⟨rfl,rfl,rfl⟩:=h
   obtain ⟨S,h1,_⟩:=hu
   cases h1
   exact ⟨rfl,_,_,rfl,rfl,leaf_flat (.bool _)⟩
  ·cases h
 ·split at h
  ·simp only [Option.some.injEq,Prod.mk.injEq] at h
   obtain ⟨rfl,rfl,rfl⟩:=h
   obtain ⟨S,h1,_⟩:=hu
   cases h1
   exact ⟨rfl,_,_,rfl,rfl,leaf_flat (.int _ _)⟩
  ·cases h
 ·cases h

theorem conv_rep {C:Ctx} {src dst:TypeId} {rows:List (List D)} {ns:List Int} {p:Value} {S:List Nat} (ht:tbs P src dst=true) (hn:byteNs rows=some ns) (hr:Rep C.w (.sl 1 rows) p S):(convert src dst p).run P C.w=.ok (.string (bytesOf ns)) C.w:=by
 obtain ⟨h1,e,h2,h3⟩:=tbs_spec ht
 rw [byteNs_eq hn] at hr
 have hc:=conv_bytes (P:=P) hr
 generalize byteRows ns=R at hr
 cases hr with
 | nil _ a cap=>simp [convert,run_underlying h2,run_underlying h3,run_underlying (tstr_spec h1),hc]
 | sl _ _ b off cap vs S' hb hsz hl hcc hcap=>simp [convert,run_underlying h2,run_underlying h3,run_underlying (tstr_spec h1),hc]

theorem vec_rep0 (h:SR B N st β φ a w) {o sz:Nat} {sep:Bool} {rows:List (List D)} (e:st.obj o=.vec sz sep rows):∃ S,Rep w (.sl sz rows) (.slice (β o).base rows.length (β o).cap) S:=by
 have ho:=h.objs o
 unfold ObjRel at ho
 rw [show (st.ctx w β φ).ob o=_ from e] at ho
 obtain ⟨hsz,hcap,ho⟩:=ho
 rcases ho with ⟨hφ,h0⟩ | ⟨b,T,S,E,vs,hb,hheap,hvs,hrep,hφ,hS⟩
 ·have h0':(β o).cap=0:=h0
  have hr:rows=[]:=List.eq_nil_of_length_eq_zero (by have:rows.length <= (β o).cap:=hcap;omega)
  subst hr
  exact ⟨[],.nil ..⟩
 ·have hb':(β o).base=some ⟨b,0,none⟩:=hb
  have hheap':w.heap[b]?=_:=hheap
  refine ⟨b :: S,?_⟩
  rw [hb']
  refine .sl sz rows b 0 _ _ S (lt_of_heap hheap') hsz hrep (fun j v hj=>?_) hcap
  rw [Nat.zero_add]
  refine (cell_of_heap hheap').trans ?_
  rw [<- Array.getElem?_toList]
  rw [List.getElem?_take] at hj
  split at hj
  ·exact hj
  ·cases hj

theorem convS_sound (h0:SR B N st β φ a w) {src dst:TypeId} {u:AV} {q:Prop} {r:Option AV} {p:Value} (h:convS P st src dst u=some (q,r,st')) (hq:q) (hu:AVRel (st.ctx w β φ) u p):Res P (st.ctx w β φ) st st' r (convert src dst p):=by
 unfold convS at h
 split at h
 ·split at h
  ·rename_i k n e1 e2 hs hd
   simp only [Option.some.injEq,Prod.mk.injEq] at h
   obtain ⟨rfl,rfl,rfl⟩:=h
   obtain ⟨S,h1,_⟩:=hu
   cases h1
   refine ⟨rfl,_,_,rfl,?_,leaf_flat (.int _ _)⟩
   simp [convert,run_underlying (tkind_spec hs),run_underlying (tkind_spec hd),Conv.intToInt]
  ·cases h
 ·split at h
  ·rename_i hs
   simp only [Bool.and_eq_true] at hs
   simp only [Option.some.injEq,Prod.mk.injEq] at h
   obtain ⟨rfl,rfl,rfl⟩:=h
   obtain ⟨S,h1,_⟩:=hu
   cases h1
   refine ⟨rfl,_,_,rfl,?_,leaf_flat (.str _)⟩
   simp [convert,run_underlying (tstr_spec hs.1),run_underlying (tstr_spec hs.2)]
  ·cases h
 ·split at h
  ·rename_i sz rows hs
   simp only [Bool.and_eq_true,decide_eq_true_eq] at hs
   obtain ⟨rfl,ht⟩:=hs
   rw [Option.map_eq_some_iff] at h
   obtain ⟨ns,hn,he⟩:=h
   cases he
   obtain ⟨S,h1,_⟩:=hu
   exact ⟨rfl,_,_,rfl,conv_rep ht hn h1,leaf_flat (.str _)⟩
  ·cases h
 ·rename_i o
  split at h
  ·rename_i sz sep rows eo
   split at h
   ·rename_i hs
    simp only [Bool.and_eq_true,decide_eq_true_eq] at hs
    obtain ⟨rfl,ht⟩:=hs
    rw [Option.map_eq_some_iff] at h
    obtain ⟨ns,hn,he⟩:=h
    cases he
    obtain ⟨_,hp⟩:=hu
    rw [show (st.ctx w β φ).ob o=_ from eo] at hp
    simp only at hp
    subst hp
    obtain ⟨S,hr⟩:=vec_rep0 h0 eo
    exact ⟨rfl,_,_,rfl,conv_rep (C:=st.ctx w β φ) ht hn hr,leaf_flat (.str _)⟩
   ·cases h
  ·cases h
 ·cases h

theorem fieldAt_run {t:TypeId} {f off s:Nat} {b:Bool} {bk o:Nat} (ht:tf P t f=some (off,b,s)):(Instr.fieldAt t (.pointer (some ⟨bk,o,none⟩)) f).run P w=.ok (.pointer (some ⟨bk,o + off,none⟩)) w:=by
 obtain ⟨fs,fd,h1,h2,h3,h4,h5⟩:=tf_spec ht
 obtain ⟨_,h6,_⟩:=tl_spec (P:=P) (w:=w) h4
 simp [Instr.fieldAt,run_underlying h1,h2,Instr.sureAddr,fieldPlace,h6,h5,h3,Addr.add_lit]

theorem faddrS_sound (h:SR B N st β φ a w) {t:TypeId} {f:Nat} {u:AV} {q:Prop} {r:Option AV} {p:Value} (hs:faddrS P st t f u=some (q,r,st')) (hq:q) (hu:AVRel (st.ctx w β φ) u p) :
  Res P (st.ctx w β φ) st st' r (Instr.fieldAt t p f):=by
 unfold faddrS at hs
 split at hs
 ·rename_i o i j
  split at hs
  ·cases hs
  ·rename_i hd
   cases e:tf P t f with
   | none=>rw [e] at hs;cases hs
   | some x =>
    obtain ⟨off,b,s⟩:=x
    rw [e] at hs
    simp only [Option.map_some,Option.some.injEq,Prod.mk.injEq] at hs
    obtain ⟨rfl,rfl,rfl⟩:=hs
    obtain ⟨hn,hp⟩:=hu
    refine ⟨rfl,.one (.ptr (.own o i (j + off))),?_⟩
    cases eo:st.obj o with
    | dead=>exact absurd eo hd
    | hole=>rw [show (st.ctx w β φ).ob o=_ from eo] at hp;exact hp.elim
    | pin _ _=>rw [show (st.ctx w β φ).ob o=_ from eo] at hp;exact hp.elim
    | ballast _=>rw [show (st.ctx w β φ).ob o=_ from eo] at hp;exact hp.elim
    | box cells =>
     rw [show (st.ctx w β φ).ob o=_ from eo] at hp
     obtain ⟨bk,hb,rfl⟩:=hp
     refine ⟨_,rfl,fieldAt_run e,⟨hn,?_⟩⟩
     rw [show (st.ctx w β φ).ob o=_ from eo]
     exact ⟨bk,hb,rfl⟩
    | vec sz sep rows =>
     rw [show (st.ctx w β φ).ob o=_ from eo] at hp
     obtain ⟨bk,hb,rfl⟩:=hp
     refine ⟨_,rfl,fieldAt_run e,⟨hn,?_⟩⟩
     rw [show (st.ctx w β φ).ob o=_ from eo]
     exact ⟨bk,hb,by rw [Nat.add_assoc]⟩
    | frz sz rows =>
     rw [show (st.ctx w β φ).ob o=_ from eo] at hp
     obtain ⟨bk,hb,rfl⟩:=hp
     refine ⟨_,rfl,fieldAt_run e,⟨hn,?_⟩⟩
     rw [show (st.ctx w β φ).ob o=_ from eo]
     exact ⟨bk,hb,by rw [Nat.add_assoc]⟩
    | wide sz n rows =>
     rw [show (st.ctx w β φ).ob o=_ from eo] at hp
     obtain ⟨bk,hb,rfl⟩:=hp
     refine ⟨_,rfl,fieldAt_run e,⟨hn,?_⟩⟩
     rw [show (st.ctx w β φ).ob o=_ from eo]
     exact ⟨bk,hb,by rw [Nat.add_assoc]⟩
 ·rename_i sz rows i j
  cases e:tf P t f with
  | none=>rw [e] at hs;cases hs
  | some x =>
   obtain ⟨off,b,s⟩:=x
   rw [e] at hs
   simp only [Option.map_some,Option.some.injEq,Prod.mk.injEq] at hs
   obtain ⟨rfl,rfl,rfl⟩:=hs
   obtain ⟨bk,o,vs,S,rfl,h1⟩:=hu
   exact ⟨rfl,_,_,rfl,fieldAt_run e,⟨bk,o,vs,S,by rw [Nat.add_assoc o,Nat.add_assoc],h1⟩⟩
 ·cases hs

theorem indexAt_slice {t e:TypeId} {s y:Nat} {k:IntKind} {n:Int} {bk o len cap:Nat} (ht:te P t=some (e,s,y)) (h0:0 <= n) (h1:n < len) :
  (Instr.indexAt t (.slice (some ⟨bk,o,none⟩) len cap) (.int k n)).run P w=.ok (.pointer (some ⟨bk,o + n.toNat * s,none⟩)) w:=by
 obtain ⟨hu,i,hi,hs,_⟩:=te_spec ht
 simp [Instr.indexAt,asIntOf,run_underlying hu,h0,h1,sizeOf,typeInfo,hi,hs,Addr.add_lit]

theorem indexAt_array {t e:TypeId} {s len:Nat} {k:IntKind} {n:Int} {bk o:Nat} (ht:ta P t=some (len,e,s)) (h0:0 <= n) (h1:n < len) :
  (Instr.indexAt t (.pointer (some ⟨bk,o,none⟩)) (.int k n)).run P w=.ok (.pointer (some ⟨bk,o + n.toNat * s,none⟩)) w:=by
 obtain ⟨hu,i,hi,hs⟩:=ta_spec ht
 simp [Instr.indexAt,asIntOf,run_underlying hu,h0,h1,sizeOf,typeInfo,hi,hs,Addr.add_lit,Instr.sureAddr]

theorem iaddrS_sound (h:SR B N st β φ a w) {t:TypeId} {u v:AV} {q:Prop} {r:Option AV} {p1 p2:Value} (hs:iaddrS P st t u v=some (q,r,st')) (hq:q)
  (hu:AVRel (st.ctx w β φ) u p1) (hv:AVRel (st.ctx w β φ) v p2):Res P (st.ctx w β φ) st st' r (Instr.indexAt t p1 p2):=by
 unfold iaddrS at hs
 split at hs
 ·rename_i o k n
  obtain ⟨S,h1,_⟩:=hv
  cases h1
  obtain ⟨hn,hp⟩:=hu
  split at hs
  ·rename_i e s y ht
   have ho:=h.objs o
   unfold ObjRel at ho
   split at hs
   ·rename_i sz sep rows eo
    rw [show (st.ctx w β φ).ob o=_ from eo] at hp ho
    simp only [Option.some.injEq,Prod.mk.injEq] at hs
    obtain ⟨rfl,rfl,rfl⟩:=hs
    obtain ⟨rfl,h0,h1⟩:=hq
    obtain ⟨hsz,hcap,ho⟩:=ho
    rcases ho with ⟨_,hz⟩ | ⟨b,T,S,E,vs,hb,_⟩
    ·omega
    ·simp only at hp
     rw [hb] at hp
     subst hp
     refine ⟨rfl,_,_,rfl,indexAt_slice ht h0 h1,⟨hn,?_⟩⟩
     rw [show (st.ctx w β φ).ob o=_ from eo]
     exact ⟨b,hb,by simp⟩
   ·rename_i sz rows eo
    rw [show (st.ctx w β φ).ob o=_ from eo] at hp ho
    simp only [Option.some.injEq,Prod.mk.injEq] at hs
    obtain ⟨rfl,rfl,rfl⟩:=hs
    obtain ⟨rfl,h0,h1⟩:=hq
    obtain ⟨_,hb0,S,hrep,hM⟩:=ho
    obtain ⟨b,hb⟩:=hb0 (by intro he;simp [he] at h1;omega)
    simp only at hp
    rw [hb] at hp
    subst hp
    cases hrep':rows with
    | nil=>simp [hrep'] at h1;omega
    | cons r rs =>
     rw [hrep'] at hrep h1
     rw [hb] at hrep
     generalize hln:(r :: rs).length=ln at hrep
     cases hrep with
     | sl _ _ _ _ _ vs S hb' hsz hl hc =>
      refine ⟨rfl,_,_,rfl,indexAt_slice ht h0 h1,⟨hn,?_⟩⟩
      rw [show (st.ctx w β φ).ob o=_ from eo]
      exact ⟨b,hb,by simp⟩
   ·cases hs
  ·cases hs
 ·rename_i o i m k n
  obtain ⟨S,h1,_⟩:=hv
  cases h1
  obtain ⟨hn,hp⟩:=hu
  split at hs
  ·rename_i e s y ht
   have ho:=h.objs o
   unfold ObjRel at ho
   split at hs
   ·rename_i sz sep rows eo
    rw [show (st.ctx w β φ).ob o=_ from eo] at hp ho
    simp only [Option.some.injEq,Prod.mk.injEq] at hs
    obtain ⟨rfl,rfl,rfl⟩:=hs
    obtain ⟨rfl,h0,h1⟩:=hq
    obtain ⟨hsz,hcap,ho⟩:=ho
    obtain ⟨h2,bs,rfl,hbs⟩:=hp
    rcases ho with ⟨_,hz⟩ | ⟨b,T,S,E,vs,hb,_⟩
    ·omega
    ·have hbs':=hbs (by omega)
     rw [hb] at hbs'
     subst hbs'
     refine ⟨rfl,_,_,rfl,(by rw [Option.map_some,Addr.add_lit];exact indexAt_slice ht h0 h1),⟨hn,?_⟩⟩
     rw [show (st.ctx w β φ).ob o=_ from eo]
     exact ⟨b,hb,by rw [Nat.zero_add,Nat.add_zero,Nat.add_mul]⟩
   ·cases hs
  ·cases hs
 ·rename_i sz rows k n
  obtain ⟨S,h1,_⟩:=hv
  cases h1
  obtain ⟨S,hrep,hM⟩:=hu
  split at hs
  ·rename_i e s y ht
   simp only [Option.some.injEq,Prod.mk.injEq] at hs
   obtain ⟨rfl,rfl,rfl⟩:=hs
   obtain ⟨rfl,h0,h1⟩:=hq
   cases hrep with
   | nil=>simp at h1;omega
   | sl _ _ b off cap vs S hb hsz hl hc =>
    exact ⟨rfl,_,_,rfl,indexAt_slice ht h0 h1,⟨b,off,vs,S,by simp,hb,hsz,hl,hc,hM⟩⟩
  ·cases hs
 ·rename_i o i j k n
  obtain ⟨S,h1,_⟩:=hv
  cases h1
  obtain ⟨hn,hp⟩:=hu
  split at hs
  ·rename_i len e s ht
   cases eo:st.obj o with
   | dead=>rw [eo] at hs;cases hs
   | hole=>rw [show (st.ctx w β φ).ob o=_ from eo] at hp;exact hp.elim
   | pin _ _=>rw [show (st.ctx w β φ).ob o=_ from eo] at hp;exact hp.elim
   | ballast _=>rw [show (st.ctx w β φ).ob o=_ from eo] at hp;exact hp.elim
   | box cells =>
    rw [eo] at hs
    rw [show (st.ctx w β φ).ob o=_ from eo] at hp
    obtain ⟨bk,hb,rfl⟩:=hp
    simp only [Option.some.injEq,Prod.mk.injEq] at hs
    obtain ⟨rfl,rfl,rfl⟩:=hs
    refine ⟨rfl,_,_,rfl,indexAt_array ht hq.1 hq.2,⟨hn,?_⟩⟩
    rw [show (st.ctx w β φ).ob o=_ from eo]
    exact ⟨bk,hb,rfl⟩
   | vec sz sep rows =>
    rw [eo] at hs
    rw [show (st.ctx w β φ).ob o=_ from eo] at hp
    obtain ⟨bk,hb,rfl⟩:=hp
    simp only [Option.some.injEq,Prod.mk.injEq] at hs
    obtain ⟨rfl,rfl,rfl⟩:=hs
    refine ⟨rfl,_,_,rfl,indexAt_array ht hq.1 hq.2,⟨hn,?_⟩⟩
    rw [show (st.ctx w β φ).ob o=_ from eo]
    exact ⟨bk,hb,by rw [Nat.add_assoc]⟩
   | frz sz rows =>
    rw [eo] at hs
    rw [show (st.ctx w β φ).ob o=_ from eo] at hp
    obtain ⟨bk,hb,rfl⟩:=hp
    simp only [Option.some.injEq,Prod.mk.injEq] at hs
    obtain ⟨rfl,rfl,rfl⟩:=hs
    refine ⟨rfl,_,_,rfl,indexAt_array ht hq.1 hq.2,⟨hn,?_⟩⟩
    rw [show (st.ctx w β φ).ob o=_ from eo]
    exact ⟨bk,hb,by rw [Nat.add_assoc]⟩
   | wide sz m rows =>
    rw [eo] at hs
    rw [show (st.ctx w β φ).ob o=_ from eo] at hp
    obtain ⟨bk,hb,rfl⟩:=hp
    simp only [Option.some.injEq,Prod.mk.injEq] at hs
    obtain ⟨rfl,rfl,rfl⟩:=hs
    refine ⟨rfl,_,_,rfl,indexAt_array ht hq.1 hq.2,⟨hn,?_⟩⟩
    rw [show (st.ctx w β φ).ob o=_ from eo]
    exact ⟨bk,hb,by rw [Nat.add_assoc]⟩
  ·cases hs
 ·rename_i sz rows i j k n
  obtain ⟨S,h1,_⟩:=hv
  cases h1
  obtain ⟨bk,o,vs,S,rfl,h1⟩:=hu
  split at hs
  ·rename_i len e s ht
   simp only [Option.some.injEq,Prod.mk.injEq] at hs
   obtain ⟨rfl,rfl,rfl⟩:=hs
   exact ⟨rfl,_,_,rfl,indexAt_array ht hq.1 hq.2,⟨bk,o,vs,S,by rw [Nat.add_assoc o,Nat.add_assoc],h1⟩⟩
  ·cases hs
 ·cases hs

theorem indexS_sound (h:SR B N st β φ a w) {t:TypeId} {u v:AV} {q:Prop} {r:Option AV} {p1 p2:Value} (hs:indexS P st t u v=some (q,r,st')) (hq:q)
  (hu:AVRel (st.ctx w β φ) u p1) (hv:AVRel (st.ctx w β φ) v p2):Res P (st.ctx w β φ) st st' r (Instr.index t p1 p2):=by
 unfold indexS at hs
 split at hs
 ·rename_i s k n
  split at hs
  ·rename_i ht
   simp only [Option.some.injEq,Prod.mk.injEq] at hs
   obtain ⟨rfl,rfl,rfl⟩:=hs
   obtain ⟨S,h1,_⟩:=hu
   obtain ⟨S',h2,_⟩:=hv
   cases h1
   cases h2
   obtain ⟨h0,h1⟩:=hq
   have hlt:n.toNat < s.size:=by omega
   refine ⟨rfl,_,_,rfl,?_,leaf_flat (.int _ _)⟩
   have e1:s[n.toNat]?=some (s.data.toList.getD n.toNat 0):=by
    rw [getElem?_pos s n.toNat hlt]
    have:n.toNat < s.data.toList.length:=by simpa using hlt
    simp only [List.getD_eq_getElem?_getD,List.getElem?_eq_getElem this,Option.getD_some]
    rfl
   simp [Instr.index,asIntOf,run_underlying (tstr_spec ht),h0,e1]
  ·cases hs
 ·rename_i ls k n
  split at hs
  ·rename_i len e ht
   split at hs
   ·rename_i hl
    simp only [Option.some.injEq,Prod.mk.injEq] at hs
    obtain ⟨rfl,rfl,rfl⟩:=hs
    obtain ⟨S',h2,_⟩:=hv
    cases h2
    obtain ⟨vs,rfl,hL⟩:=hu
    obtain ⟨h0,h1,h2⟩:=hq
    obtain ⟨hu,i,hi,hsz⟩:=ta_spec ht
    have hlt:n.toNat < ls.length:=by omega
    obtain ⟨x,hx,hr⟩:=hL.2 n.toNat (ls[n.toNat]) (List.getElem?_eq_getElem hlt)
    obtain ⟨t1,t2,_⟩:=tl_spec (P:=P) (w:=w) hl
    refine ⟨rfl,_,x,rfl,?_,?_⟩
    ·have e1:vs[n.toNat]?=some x:=by rw [<- Array.getElem?_toList];exact hx
     have t1':(isAgg e).run P (st.ctx w β φ).w=.ok false (st.ctx w β φ).w:=t1
     simp [Instr.index,asIntOf,run_underlying hu,h0,h1,sizeOf,typeInfo,hi,hsz,part,t1',e1]
    ·show LeafRel _ _ _
     simpa [List.getD_eq_getElem?_getD,List.getElem?_eq_getElem hlt] using hr
   ·cases hs
  ·cases hs
 ·cases hs

theorem fieldS_sound (h:SR B N st β φ a w) {t:TypeId} {f:Nat} {u:AV} {q:Prop} {r:Option AV} {p:Value} (hs:fieldS P st t f u=some (q,r,st')) (hq:q)
  (hu:AVRel (st.ctx w β φ) u p):Res P (st.ctx w β φ) st st' r (Instr.field t p f):=by
 unfold fieldS at hs
 split at hs
 ·rename_i ls
  obtain ⟨vs,rfl,hL⟩:=hu
  split at hs
  ·rename_i off ht
   simp only [Option.some.injEq,Prod.mk.injEq] at hs
   obtain ⟨rfl,rfl,rfl⟩:=hs
   obtain ⟨fs,fd,h1,h2,h3,h4,h5⟩:=tf_spec ht
   obtain ⟨t1,t2,_⟩:=tl_spec (P:=P) (w:=(st.ctx w β φ).w) h4
   obtain ⟨x,hx,hr⟩:=hL.2 off (ls[off]'hq) (List.getElem?_eq_getElem hq)
   have e1:vs[off]?=some x:=by rw [<- Array.getElem?_toList];exact hx
   refine ⟨rfl,_,x,rfl,?_,by show LeafRel _ _ _;simpa [List.getD_eq_getElem?_getD,List.getElem?_eq_getElem hq] using hr⟩
   simp [Instr.field,run_underlying h1,h2,asAgg,part,t1,h3,e1]
  ·rename_i off s ht
   simp only [Option.some.injEq,Prod.mk.injEq] at hs
   obtain ⟨rfl,rfl,rfl⟩:=hs
   obtain ⟨fs,fd,h1,h2,h3,h4,h5⟩:=tf_spec ht
   obtain ⟨t1,t2,_⟩:=tl_spec (P:=P) (w:=(st.ctx w β φ).w) h4
   refine ⟨rfl,_,.agg (vs.extract off (off + s)),rfl,?_,⟨_,rfl,?_⟩⟩
   ·simp [Instr.field,run_underlying h1,h2,asAgg,part,t1,t2,h3]
   ·have:=leaves_take hL hq
    rw [Array.toList_extract,List.extract_eq_take_drop]
    simpa using this
  ·cases hs
 ·cases hs

theorem extractS_sound {C:Ctx} {k:Nat} {u:AV} {q:Prop} {r:Option AV} {p:Value} (hs:extractS st k u=some (q,r,st')) (hq:q) (hu:AVRel C u p):Res P C st st' r (Instr.extract p k):=by
 unfold extractS at hs
 split at hs
 ·rename_i vs
  obtain ⟨xs,rfl,hsz,hk⟩:=hu
  split at hs
  ·rename_i l e
   simp only [Option.some.injEq,Prod.mk.injEq] at hs
   obtain ⟨rfl,rfl,rfl⟩:=hs
   obtain ⟨x,hx,hr⟩:=hk k _ e
   exact ⟨rfl,_,x,rfl,by simp [Instr.extract,hx],hr⟩
  ·rename_i l e
   simp only [Option.some.injEq,Prod.mk.injEq] at hs
   obtain ⟨rfl,rfl,rfl⟩:=hs
   obtain ⟨x,hx,hr⟩:=hk k _ e
   exact ⟨rfl,_,x,rfl,by simp [Instr.extract,hx],hr⟩
  ·cases hs
 ·cases hs

theorem loadS_sound (h:SR B N st β φ a w) {t:TypeId} {u:AV} {q:Prop} {r:Option AV} {p:Value} (hs:loadS P st t u=some (q,r,st')) (hq:q)
  (hu:AVRel (st.ctx w β φ) u p):Res P (st.ctx w β φ) st st' r (Instr.loadAt t p):=by
 unfold loadS at hs
 split at hs
 ·rename_i pt
  split at hs
  ·cases hs
  split at hs
  ·rename_i agg s ht
   split at hs
   ·rename_i hc
    cases e:ldp st agg s pt with
    | none=>rw [e] at hs;cases hs
    | some x =>
     obtain ⟨q',r'⟩:=x
     rw [e] at hs
     simp only [Option.map_some,Option.some.injEq,Prod.mk.injEq] at hs
     obtain ⟨rfl,rfl,rfl⟩:=hs
     obtain ⟨x,rfl,hat⟩:=ldp_sound h hu (fun ha=>by subst ha;simpa using hc) e hq
     obtain ⟨z,hz,hr⟩:=run_at ht hat
     refine ⟨rfl,r',z,rfl,by simp [Instr.loadAt,Instr.sureAddr,hz],?_⟩
     cases r' with
     | one l=>exact hr
     | agg ls=>exact hr
     | tup vs=>exact hr.elim
     | ifg b v=>exact hr.elim
   ·cases hs
  ·cases hs
 ·cases hs

theorem lenS_sound {t ty:TypeId} {C:Ctx} (hob:C.ob=st.obj) (ht:(∃ e,P.underlying t=some (.slice e)) \/ P.underlying t=some .string) {u:AV} {q:Prop} {r:Option AV} {p:Value} (hs:lenS st u=some (q,r,st')) (hq:q) (hu:AVRel C u p)
  (hstr:(∃ s,u=.one (.dat (.str s))) ↔ P.underlying t=some .string):Res P C st st' r (Builtin.len_ #[t] ty #[p]):=by
 have hslice:(¬ ∃ s,u=.one (.dat (.str s))) -> ∃ e,P.underlying t=some (.slice e):=fun hn=>ht.resolve_right (fun h=>hn (hstr.2 h))
 unfold lenS at hs
 split at hs
 ·rename_i o
  obtain ⟨e,he⟩:=hslice (by simp)
  obtain ⟨hn,hp⟩:=hu
  rw [hob] at hp
  split at hs
  ·rename_i eo
   simp only [Option.some.injEq,Prod.mk.injEq] at hs
   obtain ⟨rfl,rfl,rfl⟩:=hs
   simp only [eo] at hp
   subst hp
   exact ⟨rfl,_,_,rfl,by simp [Builtin.len_,run_underlying he,goInt],leaf_flat (.int _ _)⟩
  ·rename_i eo
   simp only [Option.some.injEq,Prod.mk.injEq] at hs
   obtain ⟨rfl,rfl,rfl⟩:=hs
   simp only [eo] at hp
   subst hp
   exact ⟨rfl,_,_,rfl,by simp [Builtin.len_,run_underlying he,goInt],leaf_flat (.int _ _)⟩
  ·rename_i eo
   simp only [Option.some.injEq,Prod.mk.injEq] at hs
   obtain ⟨rfl,rfl,rfl⟩:=hs
   simp only [eo] at hp
   subst hp
   exact ⟨rfl,_,_,rfl,by simp [Builtin.len_,run_underlying he,goInt],leaf_flat (.int _ _)⟩
  ·cases hs
 ·rename_i o i n
  obtain ⟨e,he⟩:=hslice (by simp)
  obtain ⟨hn,hp⟩:=hu
  rw [hob] at hp
  split at hs
  ·rename_i eo
   simp only [Option.some.injEq,Prod.mk.injEq] at hs
   obtain ⟨rfl,rfl,rfl⟩:=hs
   simp only [eo] at hp
   obtain ⟨_,bs,rfl,_⟩:=hp
   exact ⟨rfl,_,_,rfl,by simp [Builtin.len_,run_underlying he,goInt],leaf_flat (.int _ _)⟩
  ·rename_i eo
   simp only [Option.some.injEq,Prod.mk.injEq] at hs
   obtain ⟨rfl,rfl,rfl⟩:=hs
   simp only [eo] at hp
   obtain ⟨_,bs,rfl,_⟩:=hp
   exact ⟨rfl,_,_,rfl,by simp [Builtin.len_,run_underlying he,goInt],leaf_flat (.int _ _)⟩
  ·cases hs
 ·obtain ⟨e,he⟩:=hslice (by simp)
  simp only [Option.some.injEq,Prod.mk.injEq] at hs
  obtain ⟨rfl,rfl,rfl⟩:=hs
  obtain ⟨b,rfl⟩:=hu
  exact ⟨rfl,_,_,rfl,by simp [Builtin.len_,run_underlying he,goInt],leaf_flat (.int _ _)⟩
 ·obtain ⟨e,he⟩:=hslice (by simp)
  simp only [Option.some.injEq,Prod.mk.injEq] at hs
  obtain ⟨rfl,rfl,rfl⟩:=hs
  obtain ⟨S,h1,_⟩:=hu
  cases h1 with
  | nil=>exact ⟨rfl,_,_,rfl,by simp [Builtin.len_,run_underlying he,goInt],leaf_flat (.int _ _)⟩
  | sl=>exact ⟨rfl,_,_,rfl,by simp [Builtin.len_,run_underlying he,goInt],leaf_flat (.int _ _)⟩
 ·have he:=hstr.1 ⟨_,rfl⟩
  simp only [Option.some.injEq,Prod.mk.injEq] at hs
  obtain ⟨rfl,rfl,rfl⟩:=hs
  obtain ⟨S,h1,_⟩:=hu
  cases h1
  exact ⟨rfl,_,_,rfl,by simp [Builtin.len_,run_underlying he,goInt],leaf_flat (.int _ _)⟩
 ·cases hs
end
end Go.Abs
