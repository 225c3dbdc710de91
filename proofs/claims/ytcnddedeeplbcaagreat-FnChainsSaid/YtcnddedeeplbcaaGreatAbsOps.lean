/- All single operations but calls of functions. -/
import Derived.Test.YtcnddedeeplbcaaGreatAbsSlice
namespace Go.Abs
set_option linter.unusedVariables false
set_option linter.unusedSimpArgs false

def un? (st:St) (x:Option Operand) (k:Option AV -> Out):Out :=
 match x with
 | none=>k none
 | some x=>un st x fun v=>k (some v)

def capS (st:St):List Operand -> Option (Prop × List Ptr)
 | []=>some (True,[])
 | x :: r=>match opA st x,capS st r with
  | some (p,.one (.ptr c)),some (q,cs)=>some (p /\ q,c :: cs)
  | _,_=>none

def minmaxS (st:St) (mx:Bool):AV -> AV -> Out
 | .one (.dat (.int k x)),.one (.dat (.int _ y))=>some (True,some (.one (.dat (.int k (if mx then (if y > x then y else x) else (if y < x then y else x))))),st)
 | _,_=>none

def builtinS (P:Program) (st:St) (b:Builtin) (ts:List TypeId):List Operand -> Out
 | [x]=>match b,ts with
  | .len,[t]=>un st x fun v=>match v with
   | .one (.dat (.str _))=>if tstr P t then lenS st v else none
   | _=>if (te P t).isSome then lenS st v else none
  | .clear,[t]=>un st x fun v=>clearS P st t v
  | .cap,[t]=>un st x fun v=>match v with
   | .one .emp=>if (te P t).isSome then some (True,some (.one (.dat (.int .i64 0))),st) else none
   | _=>none
  | _,_=>none
 | [x,y]=>match b,ts with
  | .append,[t,t']=>if t=t' then un st x fun u=>un st y fun v=>appendS P st t u v else if (tkind P t').isSome then un st x fun u=>un st y fun v=>appMakeS P st t u v else none
  | .copy,[t,_]=>un st x fun u=>un st y fun v=>copyS P st t u v
  | .min,_=>un st x fun u=>un st y fun v=>minmaxS st false u v
  | .max,_=>un st x fun u=>un st y fun v=>minmaxS st true u v
  | _,_=>none
 | _=>none

def nilS (st:St):AV -> Out
 | .one (.ptr (.own o i j))=>match st.obj o with
  | .box _=>some (True,some (.one (.ptr (.own o i j))),st)
  | .vec ..=>some (True,some (.one (.ptr (.own o i j))),st)
  | _=>none
 | _=>none

def opS (P:Program) (st:St) (o:Oper):Out :=
 match o.op with
 | .move x=>un st x fun v=>some (True,some v,st)
 | .assign x=>un st x fun v=>some (True,some v,st)
 | .pick c a b=>pickS st c a b
 | .alloc t=>allocS P st t
 | .box t x=>un st x fun v=>boxS P st t v
 | .build t parts=>buildS P st t parts
 | .buildSlice t len parts=>buildSliceS P st t len parts
 | .load t x=>un st x fun v=>loadS P st t v
 | .store t x y=>un st x fun u=>un st y fun v=>storeS P st t u v
 | .binOp op t x y _=>un st x fun u=>un st y fun v=>binS P st op t u v
 | .unOp op _ x=>un st x fun v=>unS st op v
 | .convert s d x=>un st x fun v=>convS P st s d v
 | .makeFunc (.func f) first caps=>if first.isEmpty then (capS st caps.toList).map fun x=>(x.1,some (.one (.fn f x.2)),st) else none
 | .makeSlice t l c=>un st l fun u=>un st c fun v=>makeS P st t u v
 | .slice t x lo hi mx=>un st x fun v=>un? st lo fun l=>un? st hi fun h=>un? st mx fun m=>sliceS P st t v l h m
 | .fieldAddr t x f=>un st x fun v=>faddrS P st t f v
 | .field t x f=>un st x fun v=>fieldS P st t f v
 | .indexAddr t x i=>un st x fun u=>un st i fun v=>iaddrS P st t u v
 | .index t x i=>un st x fun u=>un st i fun v=>indexS P st t u v
 | .extract x k=>un st x fun v=>extractS st k v
 | .nilCheck x=>un st x fun v=>nilS st v
 | .call { callee:=.builtin b,args,argTypes }=>builtinS P st b argTypes.toList args.toList
 | _=>none

section
variable {P:Program} {B:Base} {N:Nat} {st st':St} {β:Nat -> Info} {φ:Nat -> List Nat} {a:Act} {w w':World}

def OpOk (P:Program) (B:Base) (N:Nat) (st st':St) (β:Nat -> Info) (φ:Nat -> List Nat) (a:Act) (w:World) (r:Option AV) (m:Sem Next):Prop :=
 ∃ β' φ' w',(st.ctx w β φ).Le (st'.ctx w' β' φ') /\ SR B N st' β' φ' a w' /\ st'.env=st.env /\
  ((∃ r' z,r=some r' /\ m.run P w=.ok (.value z) w' /\ AVRel (st'.ctx w' β' φ') r' z) \/ (r=none /\ m.run P w=.ok .skip w'))

theorem le_refl (C:Ctx):C.Le C:=⟨Nat.le_refl _,fun _ _ _=>rfl,fun _ h=>.inl h,fun o _ _=>⟨.refl _,fun _=>rfl⟩,Nat.le_refl _⟩

theorem OpOk.of_res (h:SR B N st β φ a w) {r:Option AV} {m:Sem Value} (hr:Res P (st.ctx w β φ) st st' r m):OpOk P B N st st' β φ a w r (do pure (.value (<- m))):=by
 obtain ⟨rfl,r',z,hr',hz,hv⟩:=hr
 have hz':m.run P w=.ok z w:=hz
 exact ⟨β,φ,w,le_refl _,h,rfl,.inl ⟨r',z,hr',by simp [hz'],hv⟩⟩

theorem OpOk.of_resM {r:Option AV} {m:Sem Value} (hr:ResM P B N st st' β φ a w r m):OpOk P B N st st' β φ a w r (do pure (.value (<- m))):=by
 obtain ⟨β',φ',w',le,sr,he,r',z,hr',hz,hv⟩:=hr
 exact ⟨β',φ',w',le,sr,he,.inl ⟨r',z,hr',by simp [hz],hv⟩⟩

theorem OpOk.of_resU {r:Option AV} {m:Sem Unit} (hr:ResU P B N st st' β φ a w r m):OpOk P B N st st' β φ a w r (do m;pure .skip):=by
 obtain ⟨β',φ',w',le,sr,he,hr',hz⟩:=hr
 exact ⟨β',φ',w',le,sr,he,.inr ⟨hr',by simp [hz]⟩⟩

theorem OpOk.of_value (h:SR B N st β φ a w) {r':AV} {z:Value} (hv:AVRel (st.ctx w β φ) r' z):OpOk P B N st st β φ a w (some r') (pure (.value z)) :=
 ⟨β,φ,w,le_refl _,h,rfl,.inl ⟨r',z,rfl,by simp,hv⟩⟩

theorem un?_inv (h:SR B N st β φ a w) {x:Option Operand} {k:Option AV -> Out} {q:Prop} {r:Option AV} {s:St} (hu:un? st x k=some (q,r,s)) (hq:q) :
  ∃ (v:Option AV) (q':Prop),k v=some (q',r,s) /\ q' /\ OptRel (st.ctx w β φ) v (x.map a.eval):=by
 cases x with
 | none=>exact ⟨none,q,hu,hq,trivial⟩
 | some x =>
  obtain ⟨p,v,q',h1,h2,hp,hq'⟩:=un_inv hu hq
  exact ⟨some v,q',h2,hq',opA_sound h h1 hp⟩

theorem capS_sound (h:SR B N st β φ a w):∀ {xs:List Operand} {q:Prop} {cs:List Ptr},capS st xs=some (q,cs) -> q -> (xs.map a.eval).length=cs.length /\
  ∀ (k:Nat) (c:Ptr),cs[k]?=some c -> ∃ x,(xs.map a.eval)[k]?=some x /\ PtrRel (st.ctx w β φ) c x
 | [],_,_,hs,_=>by
  simp only [capS,Option.some.injEq,Prod.mk.injEq] at hs
  obtain ⟨rfl,rfl⟩:=hs
  exact ⟨rfl,fun k c hc=>by simp at hc⟩
 | x :: xs,_,_,hs,hq=>by
  simp only [capS] at hs
  split at hs
  ·rename_i p c q cs e1 e2
   simp only [Option.some.injEq,Prod.mk.injEq] at hs
   obtain ⟨rfl,rfl⟩:=hs
   obtain ⟨h1,h2⟩:=capS_sound h e2 hq.2
   refine ⟨by simpa using h1,fun k c' hc=>?_⟩
   cases k with
   | zero=>simp at hc;subst hc;exact ⟨_,rfl,opA_sound h e1 hq.1⟩
   | succ k=>simp at hc;simpa using h2 k c' (by simpa using hc)
  ·cases hs

theorem pickS_sound (h:SR B N st β φ a w) {c x y:Operand} {q:Prop} {r:Option AV} (hs:pickS st c x y=some (q,r,st')) (hq:q) :
  OpOk P B N st st' β φ a w r (do pure (.value (if <- asBool (a.eval c) then a.eval x else a.eval y))):=by
 unfold pickS at hs
 split at hs
 ·rename_i pc b pa y' pb z e1 e2 e3
  simp only [Option.some.injEq,Prod.mk.injEq] at hs
  obtain ⟨rfl,rfl,rfl⟩:=hs
  obtain ⟨S,hc,_⟩:=opA_sound h e1 hq.1
  generalize a.eval c=vc at hc ⊢
  cases hc
  cases b with
  | true =>
   obtain ⟨S,hx,_⟩:=opA_sound h e2 (hq.2.1 rfl)
   generalize a.eval x=vx at hx ⊢
   cases hx
   exact ⟨β,φ,w,le_refl _,h,rfl,.inl ⟨_,_,rfl,by simp [asBool],leaf_flat (.bool _)⟩⟩
  | false =>
   obtain ⟨S,hx,_⟩:=opA_sound h e3 (hq.2.2 rfl)
   generalize a.eval y=vx at hx ⊢
   cases hx
   exact ⟨β,φ,w,le_refl _,h,rfl,.inl ⟨_,_,rfl,by simp [asBool],leaf_flat (.bool _)⟩⟩
 ·cases hs

theorem lenS_ok (h:SR B N st β φ a w) {t ty:TypeId} {v:AV} {q:Prop} {r:Option AV} {p:Value}
  (hs:(match v with | .one (.dat (.str _))=>if tstr P t then lenS st v else none | _=>if (te P t).isSome then lenS st v else none)=some (q,r,st')) (hq:q) (hv:AVRel (st.ctx w β φ) v p) :
  Res P (st.ctx w β φ) st st' r (Builtin.len_ #[t] ty #[p]):=by
 split at hs
 ·rename_i s
  split at hs
  ·rename_i ht
   exact lenS_sound rfl (.inr (tstr_spec ht)) hs hq hv ⟨fun _=>tstr_spec ht,fun _=>⟨_,rfl⟩⟩
  ·cases hs
 ·rename_i hn
  split at hs
  ·rename_i ht
   obtain ⟨x,hx⟩:=Option.isSome_iff_exists.1 ht
   obtain ⟨hte,_⟩:=te_spec (P:=P) (t:=t) (e:=x.1) (s:=x.2.1) (y:=x.2.2) hx
   exact lenS_sound rfl (.inl ⟨_,hte⟩) hs hq hv ⟨fun ⟨s,he⟩=>(hn s he).elim,fun he=>by rw [hte] at he;cases he⟩
  ·cases hs

theorem minmaxS_sound (h:SR B N st β φ a w) {ts:Array TypeId} {ty:TypeId} {mx:Bool} {u v:AV} {q:Prop} {r:Option AV} {p1 p2:Value} (hs:minmaxS st mx u v=some (q,r,st')) (hq:q)
  (hu:AVRel (st.ctx w β φ) u p1) (hv:AVRel (st.ctx w β φ) v p2):Res P (st.ctx w β φ) st st' r (if mx then Builtin.max_ ts ty #[p1,p2] else Builtin.min_ ts ty #[p1,p2]):=by
 unfold minmaxS at hs
 split at hs
 ·simp only [Option.some.injEq,Prod.mk.injEq] at hs
  obtain ⟨rfl,rfl,rfl⟩:=hs
  obtain ⟨S,h1,_⟩:=hu
  obtain ⟨S',h2,_⟩:=hv
  cases h1
  cases h2
  cases mx with
  | true=>exact ⟨rfl,_,_,rfl,run_max_int2 _ ts ty _ _ _ _,leaf_flat (.int _ _)⟩
  | false=>exact ⟨rfl,_,_,rfl,run_min_int2 _ ts ty _ _ _ _,leaf_flat (.int _ _)⟩
 ·cases hs

theorem resolve_builtin (ρ:Operand -> Value) (b:Builtin) (args:Array Operand) (argTypes:Array TypeId) (type:TypeId) :
  (do let d <- resolve ρ { callee:=.builtin b,args,argTypes } type;invoke d.target d.args)=builtin b argTypes type (args.map fun | .const _=>true | _=>false) (args.map ρ):=rfl

theorem capE_ok {C:Ctx} {t ty e:TypeId} (he:P.underlying t=some (.slice e)) {ad:Option Addr}:Res P C st st (some (.one (.dat (.int .i64 0)))) (Builtin.cap_ #[t] ty #[.slice ad 0 0]) :=
 ⟨rfl,_,_,rfl,by simp [Builtin.cap_,run_underlying he,goInt],leaf_flat (.int _ _)⟩

theorem builtinS_sound (h:SR B N st β φ a w) {b:Builtin} {args:Array Operand} {argTypes:Array TypeId} {ty:TypeId} {bs:Array Bool} {q:Prop} {r:Option AV} (hs:builtinS P st b argTypes.toList args.toList=some (q,r,st')) (hq:q) :
  OpOk P B N st st' β φ a w r (builtin b argTypes ty bs (args.map a.eval)):=by
 unfold builtinS at hs
 split at hs
 ·rename_i x hx
  have hax:args=#[x]:=by rw [<- Array.toArray_toList (xs:=args),hx]
  subst hax
  have hm:(#[x]:Array Operand).map a.eval=#[a.eval x]:=by simp
  rw [hm]
  split at hs
  ·rename_i t ht
   have hat:argTypes=#[t]:=by rw [<- Array.toArray_toList (xs:=argTypes),ht]
   subst hat
   obtain ⟨p,v,q',h1,h2,hp,hq'⟩:=un_inv hs hq
   have:=OpOk.of_res h (lenS_ok (ty:=ty) h h2 hq' (opA_sound h h1 hp))
   simp only [builtin]
   exact this
  ·rename_i t ht
   have hat:argTypes=#[t]:=by rw [<- Array.toArray_toList (xs:=argTypes),ht]
   subst hat
   obtain ⟨p,v,q',h1,h2,hp,hq'⟩:=un_inv hs hq
   have:=OpOk.of_resM (clearS_sound (ty:=ty) h h2 hq' (opA_sound h h1 hp))
   simp only [builtin]
   exact this
  ·rename_i t ht
   have hat:argTypes=#[t]:=by rw [<- Array.toArray_toList (xs:=argTypes),ht]
   subst hat
   obtain ⟨p,v,q',h1,h2,hp,hq'⟩:=un_inv hs hq
   split at h2
   ·split at h2
    ·rename_i hk
     simp only [Option.some.injEq,Prod.mk.injEq] at h2
     obtain ⟨rfl,rfl,rfl⟩:=h2
     obtain ⟨⟨e,s,y⟩,hte⟩:=Option.isSome_iff_exists.1 hk
     obtain ⟨ad,had⟩:=opA_sound h h1 hp
     have:=OpOk.of_res h (capE_ok (P:=P) (st:=st) (C:=st.ctx w β φ) (ty:=ty) (te_spec hte).1 (ad:=ad))
     simp only [builtin]
     rw [had]
     exact this
    ·cases h2
   ·cases h2
  ·cases hs
 ·rename_i x y hx
  have hax:args=#[x,y]:=by rw [<- Array.toArray_toList (xs:=args),hx]
  subst hax
  have hm:(#[x,y]:Array Operand).map a.eval=#[a.eval x,a.eval y]:=by simp
  rw [hm]
  split at hs
  ·rename_i t t' ht
   have hat:argTypes=#[t,t']:=by rw [<- Array.toArray_toList (xs:=argTypes),ht]
   subst hat
   split at hs
   ·rename_i htt
    subst htt
    obtain ⟨p,v,q',h1,h2,hp,hq'⟩:=un_inv hs hq
    obtain ⟨p2,v2,q2,h3,h4,hp2,hq2⟩:=un_inv h2 hq'
    have:=OpOk.of_resM (appendS_sound (ty:=ty) h h4 hq2 (opA_sound h h1 hp) (opA_sound h h3 hp2))
    simp only [builtin]
    exact this
   ·split at hs
    ·rename_i hk
     obtain ⟨k2,hk2⟩:=Option.isSome_iff_exists.1 hk
     obtain ⟨p,v,q',h1,h2,hp,hq'⟩:=un_inv hs hq
     obtain ⟨p2,v2,q2,h3,h4,hp2,hq2⟩:=un_inv h2 hq'
     have:=OpOk.of_resM (appMakeS_sound (ty:=ty) h (tkind_spec hk2) h4 hq2 (opA_sound h h1 hp) (opA_sound h h3 hp2))
     simp only [builtin]
     exact this
    ·cases hs
  ·rename_i t t2 ht
   have hat:argTypes=#[t,t2]:=by rw [<- Array.toArray_toList (xs:=argTypes),ht]
   subst hat
   obtain ⟨p,v,q',h1,h2,hp,hq'⟩:=un_inv hs hq
   obtain ⟨p2,v2,q2,h3,h4,hp2,hq2⟩:=un_inv h2 hq'
   have:=OpOk.of_resM (copyS_sound (t2:=t2) (ty:=ty) h h4 hq2 (opA_sound h h1 hp) (opA_sound h h3 hp2))
   simp only [builtin]
   exact this
  ·obtain ⟨p,v,q',h1,h2,hp,hq'⟩:=un_inv hs hq
   obtain ⟨p2,v2,q2,h3,h4,hp2,hq2⟩:=un_inv h2 hq'
   have:=OpOk.of_res (P:=P) h (minmaxS_sound (ts:=argTypes) (ty:=ty) (mx:=false) h h4 hq2 (opA_sound h h1 hp) (opA_sound h h3 hp2))
   simp only [builtin]
   exact this
  ·obtain ⟨p,v,q',h1,h2,hp,hq'⟩:=un_inv hs hq
   obtain ⟨p2,v2,q2,h3,h4,hp2,hq2⟩:=un_inv h2 hq'
   have:=OpOk.of_res (P:=P) h (minmaxS_sound (ts:=argTypes) (ty:=ty) (mx:=true) h h4 hq2 (opA_sound h h1 hp) (opA_sound h h3 hp2))
   simp only [builtin]
   exact this
  ·cases hs
 ·cases hs

set_option maxHeartbeats 1000000 in
theorem opS_sound (h:SR B N st β φ a w) {o:Oper} {q:Prop} {r:Option AV} (hs:opS P st o=some (q,r,st')) (hq:q) :
  OpOk P B N st st' β φ a w r (execOp a.eval o):=by
 unfold opS at hs
 unfold execOp
 split at hs <;> rename_i eo <;> simp only [eo]
 ·obtain ⟨p,v,q',h1,h2,hp,hq'⟩:=un_inv hs hq
  simp only [Option.some.injEq,Prod.mk.injEq] at h2
  obtain ⟨rfl,rfl,rfl⟩:=h2
  exact OpOk.of_value h (opA_sound h h1 hp)
 ·obtain ⟨p,v,q',h1,h2,hp,hq'⟩:=un_inv hs hq
  simp only [Option.some.injEq,Prod.mk.injEq] at h2
  obtain ⟨rfl,rfl,rfl⟩:=h2
  exact OpOk.of_value h (opA_sound h h1 hp)
 ·exact pickS_sound h hs hq
 ·exact OpOk.of_resM (allocS_sound h hs hq)
 ·obtain ⟨p,v,q',h1,h2,hp,hq'⟩:=un_inv hs hq
  exact OpOk.of_resM (boxS_sound h h2 hq' (opA_sound h h1 hp))
 ·exact OpOk.of_res h (buildS_sound h hs hq)
 ·exact OpOk.of_resM (buildSliceS_sound h hs hq)
 ·obtain ⟨p,v,q',h1,h2,hp,hq'⟩:=un_inv hs hq
  exact OpOk.of_res h (loadS_sound h h2 hq' (opA_sound h h1 hp))
 ·obtain ⟨p,v,q',h1,h2,hp,hq'⟩:=un_inv hs hq
  obtain ⟨p2,v2,q2,h3,h4,hp2,hq2⟩:=un_inv h2 hq'
  exact OpOk.of_resU (storeS_sound h h4 hq2 (opA_sound h h1 hp) (opA_sound h h3 hp2))
 ·obtain ⟨p,v,q',h1,h2,hp,hq'⟩:=un_inv hs hq
  obtain ⟨p2,v2,q2,h3,h4,hp2,hq2⟩:=un_inv h2 hq'
  exact OpOk.of_res h (binS_sound h4 hq2 (opA_sound h h1 hp) (opA_sound h h3 hp2))
 ·obtain ⟨p,v,q',h1,h2,hp,hq'⟩:=un_inv hs hq
  exact OpOk.of_res h (unS_sound h2 hq' (opA_sound h h1 hp))
 ·obtain ⟨p,v,q',h1,h2,hp,hq'⟩:=un_inv hs hq
  exact OpOk.of_res h (convS_sound h h2 hq' (opA_sound h h1 hp))
 ·rename_i f first caps
  split at hs
  ·rename_i hf
   cases e:capS st caps.toList with
   | none=>rw [e] at hs;cases hs
   | some x =>
    obtain ⟨q',cs⟩:=x
    rw [e] at hs
    simp only [Option.map_some,Option.some.injEq,Prod.mk.injEq] at hs
    obtain ⟨rfl,rfl,rfl⟩:=hs
    obtain ⟨h1,h2⟩:=capS_sound h e hq
    have hfe:first=#[]:=by simpa using hf
    subst hfe
    refine ⟨β,φ,w,le_refl _,h,rfl,.inl ⟨_,.func (.func f) #[] (caps.map a.eval),rfl,by simp [Instr.makeFunc],⟨caps.map a.eval,rfl,by simpa using h1,fun k c hc=>?_⟩⟩⟩
    obtain ⟨x,hx,hp⟩:=h2 k c hc
    refine ⟨x,?_,hp⟩
    rw [<- Array.getElem?_toList,Array.toList_map]
    exact hx
  ·cases hs
 ·obtain ⟨p,v,q',h1,h2,hp,hq'⟩:=un_inv hs hq
  obtain ⟨p2,v2,q2,h3,h4,hp2,hq2⟩:=un_inv h2 hq'
  exact OpOk.of_resM (makeS_sound h h4 hq2 (opA_sound h h1 hp) (opA_sound h h3 hp2))
 ·obtain ⟨p,v,q',h1,h2,hp,hq'⟩:=un_inv hs hq
  obtain ⟨l,q2,h3,hq2,r2⟩:=un?_inv h h2 hq'
  obtain ⟨hh,q3,h4,hq3,r3⟩:=un?_inv h h3 hq2
  obtain ⟨m,q4,h5,hq4,r4⟩:=un?_inv h h4 hq3
  exact OpOk.of_resM (sliceS_sound h h5 hq4 (opA_sound h h1 hp) r2 r3 r4)
 ·obtain ⟨p,v,q',h1,h2,hp,hq'⟩:=un_inv hs hq
  exact OpOk.of_res h (faddrS_sound h h2 hq' (opA_sound h h1 hp))
 ·obtain ⟨p,v,q',h1,h2,hp,hq'⟩:=un_inv hs hq
  exact OpOk.of_res h (fieldS_sound h h2 hq' (opA_sound h h1 hp))
 ·obtain ⟨p,v,q',h1,h2,hp,hq'⟩:=un_inv hs hq
  obtain ⟨p2,v2,q2,h3,h4,hp2,hq2⟩:=un_inv h2 hq'
  exact OpOk.of_res h (iaddrS_sound h h4 hq2 (opA_sound h h1 hp) (opA_sound h h3 hp2))
 ·obtain ⟨p,v,q',h1,h2,hp,hq'⟩:=un_inv hs hq
  obtain ⟨p2,v2,q2,h3,h4,hp2,hq2⟩:=un_inv h2 hq'
  exact OpOk.of_res h (indexS_sound h h4 hq2 (opA_sound h h1 hp) (opA_sound h h3 hp2))
 ·obtain ⟨p,v,q',h1,h2,hp,hq'⟩:=un_inv hs hq
  exact OpOk.of_res h (extractS_sound h2 hq' (opA_sound h h1 hp))
 ·rename_i x
  obtain ⟨p,v,q',h1,h2,hp,hq'⟩:=un_inv hs hq
  have hv:=opA_sound h h1 hp
  generalize a.eval x=z at hv ⊢
  unfold nilS at h2
  split at h2
  ·rename_i o i j
   have hv0:=hv
   obtain ⟨_,hv⟩:=hv
   split at h2
   ·rename_i cells eo
    rw [show (st.ctx w β φ).ob o=_ from eo] at hv
    obtain ⟨b,_,hz⟩:=hv
    subst hz
    cases h2
    exact OpOk.of_value h hv0
   ·rename_i sz sep rows eo
    rw [show (st.ctx w β φ).ob o=_ from eo] at hv
    obtain ⟨b,_,hz⟩:=hv
    subst hz
    cases h2
    exact OpOk.of_value h hv0
   ·cases h2
  ·cases h2
 ·rename_i b args argTypes
  exact builtinS_sound h hs hq
 ·cases hs
end
end Go.Abs
