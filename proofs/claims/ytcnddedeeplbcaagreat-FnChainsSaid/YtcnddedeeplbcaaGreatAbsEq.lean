/- Two structures of flat parts, compared. Own work; generic over the program. -/
import Derived.Test.YtcnddedeeplbcaaGreatAbsMem
import Derived.Laws.StructEq
namespace Go.Abs
def kindNo (P:Program) (t:TypeId):Option Nat:=match P.underlying t with
 | some (.int _)=>some 0
 | some .bool=>some 1
 | some .string=>some 2
 | _=>none
def eqFs (P:Program) (e:TypeId -> Option (List Nat)):List Field -> Nat -> Option (List Nat)
 | [],_=>some []
 | f :: fs,o=>match e f.type with
  | some k=>match eqFs P e fs (o + k.length) with
   | some ks => if f.offset = o /\ f.name ≠ "_" /\ 0 < k.length /\ ((P.info? f.type).map fun i => i.size) = some k.length then some (k ++ ks) else none
   | none=>none
  | none=>none
def eqTy (P:Program):Nat -> TypeId -> Option (List Nat)
 | 0,_=>none
 | n + 1,t=>match kindNo P t with
  | some k=>some [k]
  | none=>match P.underlying t with
   | some (.struct fs)=>if P.stoodInHeld t=false then eqFs P (eqTy P n) fs.toList 0 else none
   | _=>none
def teq (P:Program) (t:TypeId):Option (List Nat):=match P.underlying t with
 | some (.struct _)=>if P.eqGuardType P.depth t=false then eqTy P 5 t else none
 | _=>none
def eqLeaves:List Nat -> List Leaf -> List Leaf -> Option (Prop × Bool)
 | [],[],[]=>some (True,true)
 | 0 :: ks,.dat (.int k a) :: ls,.dat (.int k' b) :: ms=>(eqLeaves ks ls ms).map fun x=>(k=k' /\ x.1,(a == b) && x.2)
 | 1 :: ks,.dat (.bool a) :: ls,.dat (.bool b) :: ms=>(eqLeaves ks ls ms).map fun x=>(x.1,(a == b) && x.2)
 | 2 :: ks,.dat (.str a) :: ls,.dat (.str b) :: ms=>(eqLeaves ks ls ms).map fun x=>(x.1,(a.toList == b.toList) && x.2)
 | _,_,_=>none


theorem eqLeaves_app:∀ {k ks:List Nat} {ls ms:List Leaf} {q:Prop} {b:Bool},eqLeaves (k ++ ks) ls ms=some (q,b) ->
  ∃ q1 b1 q2 b2,eqLeaves k (ls.take k.length) (ms.take k.length)=some (q1,b1) /\ eqLeaves ks (ls.drop k.length) (ms.drop k.length)=some (q2,b2) /\ (q -> q1 /\ q2) /\ b=(b1 && b2)
 | [],ks,ls,ms,q,b,h=>⟨True,true,q,b,rfl,h,fun hq=>⟨trivial,hq⟩,rfl⟩
 | k0 :: k,ks,ls,ms,q,b,h=>by
  rw [List.cons_append] at h
  unfold eqLeaves at h
  split at h
  all_goals first | (cases h;done) | skip
  ·rename_i hk;cases hk
  ·rename_i ks2 kk a ls' kk' a' ms' hk
   simp only [List.cons.injEq] at hk
   obtain ⟨rfl,rfl⟩:=hk
   obtain ⟨⟨q',b'⟩,e5,e6⟩:=Option.map_eq_some_iff.1 h
   simp only [Prod.mk.injEq] at e6
   obtain ⟨rfl,rfl⟩:=e6
   obtain ⟨q1,b1,q2,b2,a1,a2,a3,a4⟩:=eqLeaves_app e5
   refine ⟨kk=kk' /\ q1,(a == a') && b1,q2,b2,?_,a2,fun hq=>⟨⟨hq.1,(a3 hq.2).1⟩,(a3 hq.2).2⟩,by rw [a4,Bool.and_assoc]⟩
   simp only [List.length_cons,List.take_succ_cons,eqLeaves,a1,Option.map_some]
  ·rename_i ks2 a ls' a' ms' hk
   simp only [List.cons.injEq] at hk
   obtain ⟨rfl,rfl⟩:=hk
   obtain ⟨⟨q',b'⟩,e5,e6⟩:=Option.map_eq_some_iff.1 h
   simp only [Prod.mk.injEq] at e6
   obtain ⟨rfl,rfl⟩:=e6
   obtain ⟨q1,b1,q2,b2,a1,a2,a3,a4⟩:=eqLeaves_app e5
   refine ⟨q1,(a == a') && b1,q2,b2,?_,a2,a3,by rw [a4,Bool.and_assoc]⟩
   simp only [List.length_cons,List.take_succ_cons,eqLeaves,a1,Option.map_some]
  ·rename_i ks2 a ls' a' ms' hk
   simp only [List.cons.injEq] at hk
   obtain ⟨rfl,rfl⟩:=hk
   obtain ⟨⟨q',b'⟩,e5,e6⟩:=Option.map_eq_some_iff.1 h
   simp only [Prod.mk.injEq] at e6
   obtain ⟨rfl,rfl⟩:=e6
   obtain ⟨q1,b1,q2,b2,a1,a2,a3,a4⟩:=eqLeaves_app e5
   refine ⟨q1,(a.toList == a'.toList) && b1,q2,b2,?_,a2,a3,by rw [a4,Bool.and_assoc]⟩
   simp only [List.length_cons,List.take_succ_cons,eqLeaves,a1,Option.map_some]

def valOf (P:Program) (t:TypeId) (xs:List Value):Value:=match kindNo P t with
 | some _=>xs.headD undef
 | none=>.agg xs.toArray

theorem run_part {P:Program} {w:World} {t:TypeId} {n:Nat} {ks:List Nat} (hk:eqTy P n t=some ks) (hs:((P.info? t).map fun i=>i.size)=some ks.length) {cs:Array Value} {o:Nat} (ho:o + ks.length <= cs.size) :
  (part t cs o).run P w=.ok (valOf P t ((cs.toList.drop o).take ks.length)) w:=by
 cases n with
 | zero=>cases hk
 | succ n =>
  unfold eqTy at hk
  unfold valOf
  cases e:kindNo P t with
  | some k =>
   rw [e] at hk
   cases hk
   have:(isAgg t).run P w=.ok false w:=by
    unfold kindNo at e
    split at e
    ·rename_i h;simp [isAgg,run_underlying h]
    ·rename_i h;simp [isAgg,run_underlying h]
    ·rename_i h;simp [isAgg,run_underlying h]
    ·cases e
   have ho:o < cs.size:=ho
   simp only [part,Sem.run_bind,this,Result.andThen_ok,Bool.false_eq_true,if_false,Array.getElem?_eq_getElem ho,Sem.run_pure]
   rw [List.drop_eq_getElem_cons (by simpa using ho)]
   simp
  | none =>
   rw [e] at hk
   simp only at hk
   split at hk
   ·rename_i fs hu
    obtain ⟨i,hi,hz⟩:=Option.map_eq_some_iff.1 hs
    have h1:(isAgg t).run P w=.ok true w:=by simp [isAgg,run_underlying hu]
    have h2:(sizeOf t).run P w=.ok ks.length w:=by
     have:(typeInfo t).run P w=.ok i w:=by simp [typeInfo,hi]
     simp only [sizeOf,Sem.run_bind,this,Result.andThen_ok,Sem.run_pure,hz]
    simp only [part,Sem.run_bind,h1,h2,Result.andThen_ok,if_true,Sem.run_pure]
    congr 2
    apply Array.ext'
    simp [List.extract_eq_take_drop]
   ·cases hk

theorem Leaves.take_drop {C:Ctx} {ls:List Leaf} {vs:List Value} (h:Leaves C ls vs) (n:Nat):Leaves C (ls.take n) (vs.take n) /\ Leaves C (ls.drop n) (vs.drop n) :=
 ⟨⟨by rw [List.length_take,List.length_take,h.1],fun j l hj=>by
  rw [List.getElem?_take] at hj
  split at hj
  ·rename_i hlt
   obtain ⟨v,hv,hr⟩:=h.2 j l hj
   exact ⟨v,by rw [List.getElem?_take,if_pos hlt];exact hv,hr⟩
  ·cases hj⟩,⟨by rw [List.length_drop,List.length_drop,h.1],fun j l hj=>by
  rw [List.getElem?_drop] at hj
  obtain ⟨v,hv,hr⟩:=h.2 _ l hj
  exact ⟨v,by rw [List.getElem?_drop];exact hv,hr⟩⟩⟩

theorem eqLeaves_len:∀ {ks:List Nat} {ls ms:List Leaf} {q:Prop} {b:Bool},eqLeaves ks ls ms=some (q,b) -> ls.length=ks.length /\ ms.length=ks.length
 | [],ls,ms,q,b,h=>by
  cases ls <;> cases ms <;> simp only [eqLeaves,Option.some.injEq,Prod.mk.injEq,reduceCtorEq] at h
  exact ⟨rfl,rfl⟩
 | k0 :: k,ls,ms,q,b,h=>by
  unfold eqLeaves at h
  split at h
  all_goals first | (cases h;done) | skip
  ·rename_i hk;cases hk
  all_goals
   rename_i hk
   simp only [List.cons.injEq] at hk
   obtain ⟨rfl,rfl⟩:=hk
   obtain ⟨⟨q',b'⟩,e5,e6⟩:=Option.map_eq_some_iff.1 h
   have:=eqLeaves_len e5
   simp [this]

theorem eqLeaves_nil {ls ms:List Leaf} {q:Prop} {b:Bool} (h:eqLeaves [] ls ms=some (q,b)):b=true:=by
 cases ls <;> cases ms <;> simp only [eqLeaves,Option.some.injEq,Prod.mk.injEq,reduceCtorEq] at h
 exact h.2.symm

theorem headD_get {xs:List Value} {u:Value} (h:xs[0]?=some u):xs.headD undef=u:=by
 cases xs with
 | nil=>cases h
 | cons x xs=>cases h;rfl

def EqAt (P:Program) (C:Ctx) (d:Nat) (e:TypeId -> Option (List Nat)):Prop:=∀ (t:TypeId) (ks:List Nat),e t=some ks -> ∀ {ls ms:List Leaf} {q:Prop} {b:Bool},eqLeaves ks ls ms=some (q,b) -> q -> ∀ {xs ys:List Value},Leaves C ls xs -> Leaves C ms ys ->
 (Op.equalIn d t (valOf P t xs) (valOf P t ys)).run P C.w=.ok b C.w

theorem eqFs_run {P:Program} {C:Ctx} {d n:Nat} (hd:EqAt P C d (eqTy P n)) {xs ys:Array Value}:∀ {fs:List Field} {o:Nat} {ks:List Nat} {ls ms:List Leaf} {q:Prop} {b:Bool},eqFs P (eqTy P n) fs o=some ks -> eqLeaves ks ls ms=some (q,b) -> q ->
  Leaves C ls (xs.toList.drop o) -> Leaves C ms (ys.toList.drop o) -> (Op.eqFields d xs ys fs).run P C.w=.ok b C.w
 | [],o,ks,ls,ms,q,b,h1,h2,hq,_,_=>by
  simp only [eqFs,Option.some.injEq] at h1
  subst h1
  cases ls <;> cases ms <;> simp only [eqLeaves,Option.some.injEq,Prod.mk.injEq,reduceCtorEq] at h2
  obtain ⟨_,rfl⟩:=h2
  simp [Op.eqFields]
 | f :: fs,o,ks,ls,ms,q,b,h1,h2,hq,hl,hm=>by
  simp only [eqFs] at h1
  split at h1
  ·rename_i k e1
   split at h1
   ·rename_i ks' e2
    split at h1
    ·rename_i e3
     cases h1
     obtain ⟨rfl,hn,hkl,hs⟩:=e3
     obtain ⟨q1,b1,q2,b2,a1,a2,a3,rfl⟩:=eqLeaves_app h2
     obtain ⟨hl1,hl2⟩:=hl.take_drop k.length
     obtain ⟨hm1,hm2⟩:=hm.take_drop k.length
     obtain ⟨n1,n2⟩:=eqLeaves_len h2
     have hx:f.offset + k.length <= xs.size:=by
      have:=hl.1
      rw [List.length_drop,n1,List.length_append,Array.length_toList] at this
      omega
     have hy:f.offset + k.length <= ys.size:=by
      have:=hm.1
      rw [List.length_drop,n2,List.length_append,Array.length_toList] at this
      omega
     have hc:=hd f.type k e1 a1 (a3 hq).1 hl1 hm1
     rw [List.drop_drop] at hl2 hm2
     have hb:=eqFs_run hd e2 a2 (a3 hq).2 hl2 hm2
     simp only [Op.eqFields,if_pos hn,Sem.run_bind,run_part e1 hs hx,run_part e1 hs hy,hc,Result.andThen_ok]
     cases b1
     ·simp
     ·simpa using hb
    ·cases h1
   ·cases h1
  ·cases h1

theorem eqTy_run {P:Program} {C:Ctx}:∀ (n d:Nat),n <= d -> EqAt P C d (eqTy P n)
 | 0,d,_=>fun t ks hk=>by cases hk
 | n + 1,0,h=>absurd h (Nat.not_succ_le_zero n)
 | n + 1,d + 1,h=>fun t ks hk {ls ms q b} he hq {xs ys} hl hm=>by
  unfold eqTy at hk
  unfold valOf
  cases e:kindNo P t with
  | some k =>
   rw [e] at hk
   cases hk
   unfold eqLeaves at he
   split at he
   all_goals first | (cases he;done) | skip
   ·rename_i hks;cases hks
   all_goals
    rename_i hks
    simp only [List.cons.injEq] at hks
    obtain ⟨rfl,rfl⟩:=hks
    obtain ⟨⟨q',b'⟩,e5,e6⟩:=Option.map_eq_some_iff.1 he
    simp only [Prod.mk.injEq] at e6
    obtain ⟨rfl,rfl⟩:=e6
    obtain ⟨u,hu,⟨S,ru,_⟩⟩:=hl.2 0 _ rfl
    obtain ⟨v,hv,⟨S',rv,_⟩⟩:=hm.2 0 _ rfl
    cases ru;cases rv
    have hb':b'=true:=eqLeaves_nil e5
    subst hb'
    have hx:=headD_get hu
    have hy:=headD_get hv
    simp only [hx,hy,Bool.and_true]
    unfold kindNo at e
    split at e <;> first | (simp at e;done) | skip
    all_goals rename_i hu0
   ·obtain ⟨rfl,_⟩:=hq
    exact run_equalIn_int _ d t _ _ _ _ hu0
   ·exact run_equalIn_bool' _ d t _ _ hu0
   ·exact run_equalIn_string _ d t _ _ hu0
  | none =>
   rw [e] at hk
   simp only at hk
   split at hk
   ·rename_i fs hu
    split at hk
    ·rename_i hsi
     have hf:P.fieldsOf t=fs:=by unfold Program.fieldsOf;rw [hu]
     have h3:=run_equalIn_struct (P:=P) C.w d t xs.toArray ys.toArray (by rw [hf];exact hu) hsi
     rw [hf,eqFs_run (eqTy_run n d (by omega)) hk he hq (by simpa using hl) (by simpa using hm)] at h3
     exact h3
    ·cases hk
   ·cases hk

theorem eqAgg_run {P:Program} {C:Ctx} {t:TypeId} {ks:List Nat} (ht:teq P t=some ks) {x y:Operand} {xs ys:Array Value} {ls ms:List Leaf} {q:Prop} {b:Bool} (he:eqLeaves ks ls ms=some (q,b)) (hq:q)
  (hl:Leaves C ls xs.toList) (hm:Leaves C ms ys.toList) :
  (do eqGuard .eql t x y (.agg xs) (.agg ys);binOp .eql t (.agg xs) (.agg ys):Sem Value).run P C.w=.ok (.bool b) C.w /\
  (do eqGuard .neq t x y (.agg xs) (.agg ys);binOp .neq t (.agg xs) (.agg ys):Sem Value).run P C.w=.ok (.bool (!b)) C.w:=by
 unfold teq at ht
 split at ht
 ·rename_i fs hu
  split at ht
  ·rename_i h2
   have hkn:kindNo P t=none:=by unfold kindNo;rw [hu]
   have h3:=eqTy_run (C:=C) 5 10000 (by decide) t ks ht he hq hl hm
   unfold valOf at h3
   rw [hkn] at h3
   simp only [Array.toArray_toList] at h3
   constructor
   ·rw [Sem.run_bind,run_eqGuard_agg C.w .eql t x y xs ys h2,Result.andThen_ok,run_eql_struct,h3];rfl
   ·rw [Sem.run_bind,run_eqGuard_agg C.w .neq t x y xs ys h2,Result.andThen_ok,run_neq_struct,h3];rfl
  ·cases ht
 ·cases ht
end Go.Abs
