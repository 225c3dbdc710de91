/- Abstract states over the model's memory: data trees, owned objects, and their relation to a world. Own work; generic over the program. -/
import Derived.Test.YtcnddedeeplbcaaGreatAbsTabs
import Derived.Laws.CopyRow
import Derived.Laws.MakeOwn
import Derived.Orders
namespace Go.Abs

inductive Ptr where
 | own (o i j:Nat)
 | ro (sz:Nat) (rows:List (List D)) (i j:Nat)

inductive Leaf where
 | dat (d:D)
 | emp
 | own (o:Nat)
 | part (o i n:Nat)
 | ptr (p:Ptr)
 | fn (f:FuncId) (caps:List Ptr)

instance:Inhabited Leaf:=⟨.emp⟩

inductive AV where
 | one (l:Leaf)
 | agg (ls:List Leaf)
 | tup (vs:List AV)
 | ifg (b:Bool) (v:AV)

inductive AObj where
 | dead
 | hole
 | box (cells:List Leaf)
 | vec (sz:Nat) (sep:Bool) (rows:List (List D))
 | frz (sz:Nat) (rows:List (List D))
 | wide (sz n:Nat) (rows:List (List D))
 | pin (o:Nat) (v:Value)
 | ballast (l:List (Nat × Obj))

structure Info where
 base:Option Addr
 cap:Nat

mutual
inductive Rep (w:World):D -> Value -> List Nat -> Prop
 | int (k:IntKind) (n:Int):Rep w (.int k n) (.int k n) []
 | bool (b:Bool):Rep w (.bool b) (.bool b) []
 | str (s:ByteArray):Rep w (.str s) (.string s) []
 | hdr (v:Value) (h:v.oneCell'=true):Rep w (.hdr v) v []
 | nil (sz:Nat) (a:Option Addr) (cap:Nat):Rep w (.sl sz []) (.slice a 0 cap) []
 | sl (sz:Nat) (rows:List (List D)) (b off cap:Nat) (vs:List Value) (S:List Nat) (hb:b < w.heap.size)
   (hsz:∀ r ∈ rows,r.length=sz) (hl:RepL w rows.flatten vs S)
   (hc:∀ (j:Nat) (v:Value),vs[j]?=some v -> w.cell? ⟨b,off + j,none⟩=some v) (hcap:rows.length <= cap) :
   Rep w (.sl sz rows) (.slice (some ⟨b,off,none⟩) rows.length cap) (b :: S)
inductive RepL (w:World):List D -> List Value -> List Nat -> Prop
 | nil:RepL w [] [] []
 | cons {d:D} {v:Value} {S:List Nat} {ds:List D} {vs:List Value} {Ss:List Nat}:Rep w d v S -> RepL w ds vs Ss -> RepL w (d :: ds) (v :: vs) (S ++ Ss)
end

structure Frm (w:World) (X:Nat -> Prop) (w':World):Prop where
 os:w'.os=w.os
 tape:w'.tape=w.tape
 output:w'.output=w.output
 size:w.heap.size <= w'.heap.size
 block:∀ b,b < w.heap.size -> ¬ X b -> w'.heap[b]?=w.heap[b]?

theorem Frm.refl (w:World) (X:Nat -> Prop):Frm w X w:=⟨rfl,rfl,rfl,Nat.le_refl _,fun _ _ _=>rfl⟩

theorem Frm.trans {w w' w'':World} {X Y:Nat -> Prop} (h:Frm w X w') (h':Frm w' Y w'') (hY:∀ b,b < w.heap.size -> Y b -> X b):Frm w X w'' :=
 ⟨h'.os.trans h.os,h'.tape.trans h.tape,h'.output.trans h.output,Nat.le_trans h.size h'.size,fun b hb hx =>
  (h'.block b (Nat.lt_of_lt_of_le hb h.size) (fun hy=>hx (hY b hb hy))).trans (h.block b hb hx)⟩

theorem Frm.mono {w w':World} {X Y:Nat -> Prop} (h:Frm w X w') (hY:∀ b,b < w.heap.size -> X b -> Y b):Frm w Y w' :=
 ⟨h.os,h.tape,h.output,h.size,fun b hb hy=>h.block b hb (fun hx=>hy (hY b hb hx))⟩

theorem Frm.drew {w w':World} {X:Nat -> Prop} (h:Frm w X w'):Frm w X w'.drew:=⟨h.os,h.tape,h.output,h.size,h.block⟩

theorem Frm.alloc {w w':World} {X:Nat -> Prop} (h:Frm w X w') (o:Obj):Frm w X (w'.alloc o) :=
 ⟨h.os,h.tape,h.output,Nat.le_trans h.size (by simp),fun b hb hx=>by
  have h1:b < w'.heap.size:=Nat.lt_of_lt_of_le hb h.size
  rw [show (w'.alloc o).heap[b]?=w'.heap[b]? from by show (w'.heap.push o)[b]?=_;rw [Array.getElem?_push,if_neg (Nat.ne_of_lt h1)]]
  exact h.block b hb hx⟩

theorem Frm.setRow {w w':World} {X:Nat -> Prop} (h:Frm w X w') (g:Nat) (hg:g < w.heap.size -> X g) (cs:Array Value):Frm w X (w'.setRow g cs) :=
 ⟨h.os,h.tape,h.output,by simpa using h.size,fun b hb hx=>by
  have:b ≠ g:=fun e=>hx (e ▸ hg (e ▸ hb))
  rw [setRow_other _ _ _ _ this]
  exact h.block b hb hx⟩

theorem heap_alloc_new (w:World) (o:Obj):(w.alloc o).heap[w.heap.size]?=some o:=by show (w.heap.push o)[w.heap.size]?=_;simp
theorem heap_alloc_old (w:World) (o:Obj) {b:Nat} (h:b < w.heap.size):(w.alloc o).heap[b]?=w.heap[b]?:=by
 show (w.heap.push o)[b]?=_
 rw [Array.getElem?_push,if_neg (Nat.ne_of_lt h)]

theorem cell_of_heap {w:World} {b j:Nat} {c:Array Value} {T:TypeId} {fr:Nat × Nat} (h:w.heap[b]?=some (.cells c T fr)):w.cell? ⟨b,j,none⟩=c[j]?:=by
 simp [World.cell?,h]
theorem frozen_of_heap {w:World} {b j:Nat} {c:Array Value} {T:TypeId} (h:w.heap[b]?=some (.cells c T (0,0))):w.frozen? ⟨b,j,none⟩=false:=by
 simp [World.frozen?,h]
theorem cell_congr {w w':World} {b j:Nat} (h:w'.heap[b]?=w.heap[b]?):w'.cell? ⟨b,j,none⟩=w.cell? ⟨b,j,none⟩:=by
 simp [World.cell?,h]
theorem lt_of_heap {w:World} {b:Nat} {o:Obj} (h:w.heap[b]?=some o):b < w.heap.size:=(Array.getElem?_eq_some_iff.1 h).1

mutual
theorem Rep.frm {w w':World} (hs:w.heap.size <= w'.heap.size):∀ {d v S},Rep w d v S -> (∀ b ∈ S,w'.heap[b]?=w.heap[b]?) -> Rep w' d v S
 | _,_,_,.int k n,_=>.int k n
 | _,_,_,.bool b,_=>.bool b
 | _,_,_,.str s,_=>.str s
 | _,_,_,.hdr v h0,_=>.hdr v h0
 | _,_,_,.nil sz a cap,_=>.nil sz a cap
 | _,_,_,.sl sz rows b off cap vs S hb hsz hl hc hcap,h =>
  .sl sz rows b off cap vs S (Nat.lt_of_lt_of_le hb hs) hsz (RepL.frm hs hl (fun x hx=>h x (List.mem_cons_of_mem _ hx)))
   (fun j v hj=>by rw [cell_congr (h b (List.mem_cons_self ..))];exact hc j v hj) hcap
theorem RepL.frm {w w':World} (hs:w.heap.size <= w'.heap.size):∀ {ds vs S},RepL w ds vs S -> (∀ b ∈ S,w'.heap[b]?=w.heap[b]?) -> RepL w' ds vs S
 | _,_,_,.nil,_=>.nil
 | _,_,_,.cons h1 h2,h=>.cons (Rep.frm hs h1 (fun b hb=>h b (List.mem_append_left _ hb))) (RepL.frm hs h2 (fun b hb=>h b (List.mem_append_right _ hb)))
end

mutual
theorem Rep.lt {w:World}:∀ {d v S},Rep w d v S -> ∀ b ∈ S,b < w.heap.size
 | _,_,_,.int ..,_,h=>by cases h
 | _,_,_,.bool _,_,h=>by cases h
 | _,_,_,.str _,_,h=>by cases h
 | _,_,_,.hdr ..,_,h=>by cases h
 | _,_,_,.nil ..,_,h=>by cases h
 | _,_,_,.sl _ _ b _ _ _ S hb _ hl _ _,x,h=>by
  cases h with
  | head=>exact hb
  | tail _ h=>exact RepL.lt hl x h
theorem RepL.lt {w:World}:∀ {ds vs S},RepL w ds vs S -> ∀ b ∈ S,b < w.heap.size
 | _,_,_,.nil,_,h=>by cases h
 | _,_,_,.cons h1 h2,b,h=>by
  rcases List.mem_append.1 h with h | h
  ·exact Rep.lt h1 b h
  ·exact RepL.lt h2 b h
end

theorem Rep.one {w:World} {d v S} (h:Rep w d v S):v.oneCell'=true:=by cases h <;> first | rfl | assumption

theorem RepL.length {w:World}:∀ {ds vs S},RepL w ds vs S -> vs.length=ds.length
 | _,_,_,.nil=>rfl
 | _,_,_,.cons _ h=>by simp [RepL.length h]

theorem RepL.one {w:World}:∀ {ds vs S},RepL w ds vs S -> ∀ v ∈ vs,v.oneCell'=true
 | _,_,_,.nil,_,h=>by cases h
 | _,_,_,.cons h1 h2,v,h=>by
  cases h with
  | head=>exact h1.one
  | tail _ h=>exact RepL.one h2 v h

theorem RepL.append {w:World}:∀ {ds vs S ds' vs' S'},RepL w ds vs S -> RepL w ds' vs' S' -> RepL w (ds ++ ds') (vs ++ vs') (S ++ S')
 | _,_,_,_,_,_,.nil,h=>h
 | _,_,_,_,_,_,.cons h1 h2,h=>by simpa [List.append_assoc] using RepL.cons h1 (RepL.append h2 h)

theorem RepL.split {w:World}:∀ (ds:List D) {ds' vs S},RepL w (ds ++ ds') vs S -> ∃ S1 S2,S=S1 ++ S2 /\ RepL w ds (vs.take ds.length) S1 /\ RepL w ds' (vs.drop ds.length) S2
 | [],_,_,S,h=>⟨[],S,rfl,by simpa using RepL.nil,by simpa using h⟩
 | d :: ds,_,_,_,h=>by
  cases h with
  | cons h1 h2 =>
   obtain ⟨S1,S2,rfl,a,b⟩:=RepL.split ds h2
   exact ⟨_,S2,(List.append_assoc ..).symm,by simpa using RepL.cons h1 a,by simpa using b⟩

theorem RepL.get {w:World}:∀ {ds:List D} {vs:List Value} {S:List Nat},RepL w ds vs S -> ∀ {j:Nat} {d:D},ds[j]?=some d -> ∃ v S1,vs[j]?=some v /\ Rep w d v S1 /\ ∀ b ∈ S1,b ∈ S
 | _,_,_,.nil,_,_,h=>by simp at h
 | _,_,_,.cons h1 h2,0,_,h=>by
  simp at h;subst h
  exact ⟨_,_,rfl,h1,fun b hb=>List.mem_append_left _ hb⟩
 | _,_,_,.cons h1 h2,j + 1,_,h=>by
  simp at h
  obtain ⟨v,S1,a,b,c⟩:=RepL.get h2 h
  exact ⟨v,S1,by simpa using a,b,fun x hx=>List.mem_append_right _ (c x hx)⟩

def D.flat:D -> Bool
 | .sl _ _=>false
 | _=>true

theorem RepL.flat {w:World}:∀ {ds vs S},RepL w ds vs S -> (∀ d ∈ ds,d.flat=true) -> S=[]
 | _,_,_,.nil,_=>rfl
 | _,_,_,.cons (d:=d) h1 h2,h=>by
  have e:=RepL.flat h2 (fun d hd=>h d (List.mem_cons_of_mem _ hd))
  have hd:=h d (List.mem_cons_self ..)
  subst e
  cases h1 <;> first | rfl | (simp [D.flat] at hd)

def Room (w:World) (vs:Array Value) (k n:Nat):Prop:=vs.size=n /\ ∃ ds,RepL w ds (vs.toList.drop k) []

mutual
inductive Own (w:World):D -> Value -> List Nat -> Prop
 | flat (d:D) (v:Value) (h:Rep w d v []) (hf:d.flat=true):Own w d v []
 | nil (sz:Nat) (a:Option Addr):Own w (.sl sz []) (.slice a 0 0) []
 | sl (sz:Nat) (rows:List (List D)) (b:Nat) (T:TypeId) (cap:Nat) (cs:Array Value) (S:List Nat) (hh:w.heap[b]?=some (.cells cs T (0,0))) (hsz:∀ r ∈ rows,r.length=sz) (hcap:rows.length <= cap)
   (hroom:Room w cs (rows.length * sz) (cap * sz)) (hl:OwnL w rows.flatten (cs.toList.take (rows.length * sz)) S):Own w (.sl sz rows) (.slice (some ⟨b,0,none⟩) rows.length cap) (b :: S)
inductive OwnL (w:World):List D -> List Value -> List Nat -> Prop
 | nil:OwnL w [] [] []
 | cons {d:D} {v:Value} {S:List Nat} {ds:List D} {vs:List Value} {Ss:List Nat}:Own w d v S -> OwnL w ds vs Ss -> OwnL w (d :: ds) (v :: vs) (S ++ Ss)
end

theorem RepL.frm0 {w w':World} (hs:w.heap.size <= w'.heap.size) {ds vs} (h:RepL w ds vs []):RepL w' ds vs []:=h.frm hs (by simp)
theorem Room.frm {w w':World} (hs:w.heap.size <= w'.heap.size) {vs:Array Value} {k n:Nat} (h:Room w vs k n):Room w' vs k n :=
 let ⟨h1,ds,h2⟩:=h
 ⟨h1,ds,h2.frm0 hs⟩

mutual
theorem Own.frm {w w':World} (hs:w.heap.size <= w'.heap.size):∀ {d v S},Own w d v S -> (∀ b ∈ S,w'.heap[b]?=w.heap[b]?) -> Own w' d v S
 | _,_,_,.flat d v h hf,_=>.flat d v (h.frm hs (by simp)) hf
 | _,_,_,.nil sz a,_=>.nil sz a
 | _,_,_,.sl sz rows b T cap cs S hh hsz hcap hroom hl,h =>
  .sl sz rows b T cap cs S ((h b (List.mem_cons_self ..)).trans hh) hsz hcap (hroom.frm hs) (OwnL.frm hs hl (fun x hx=>h x (List.mem_cons_of_mem _ hx)))
theorem OwnL.frm {w w':World} (hs:w.heap.size <= w'.heap.size):∀ {ds vs S},OwnL w ds vs S -> (∀ b ∈ S,w'.heap[b]?=w.heap[b]?) -> OwnL w' ds vs S
 | _,_,_,.nil,_=>.nil
 | _,_,_,.cons h1 h2,h=>.cons (Own.frm hs h1 (fun b hb=>h b (List.mem_append_left _ hb))) (OwnL.frm hs h2 (fun b hb=>h b (List.mem_append_right _ hb)))
end

mutual
theorem Own.rep {w:World}:∀ {d v S},Own w d v S -> Rep w d v S
 | _,_,_,.flat d v h _=>h
 | _,_,_,.nil sz a=>.nil sz a 0
 | _,_,_,.sl sz rows b T cap cs S hh hsz hcap hroom hl =>
  .sl sz rows b 0 cap _ S (lt_of_heap hh) hsz (OwnL.rep hl) (fun j v hj=>by
   rw [Nat.zero_add]
   refine (cell_of_heap hh).trans ?_
   rw [<- Array.getElem?_toList]
   rw [List.getElem?_take] at hj
   split at hj
   ·exact hj
   ·cases hj) hcap
theorem OwnL.rep {w:World}:∀ {ds vs S},OwnL w ds vs S -> RepL w ds vs S
 | _,_,_,.nil=>.nil
 | _,_,_,.cons h1 h2=>.cons (Own.rep h1) (OwnL.rep h2)
end

theorem OwnL.append {w:World}:∀ {ds vs S ds' vs' S'},OwnL w ds vs S -> OwnL w ds' vs' S' -> OwnL w (ds ++ ds') (vs ++ vs') (S ++ S')
 | _,_,_,_,_,_,.nil,h=>h
 | _,_,_,_,_,_,.cons h1 h2,h=>by simpa [List.append_assoc] using OwnL.cons h1 (OwnL.append h2 h)

theorem OwnL.split {w:World}:∀ (ds:List D) {ds' vs S},OwnL w (ds ++ ds') vs S -> ∃ S1 S2,S=S1 ++ S2 /\ OwnL w ds (vs.take ds.length) S1 /\ OwnL w ds' (vs.drop ds.length) S2
 | [],_,_,S,h=>⟨[],S,rfl,by simpa using OwnL.nil,by simpa using h⟩
 | d :: ds,_,_,_,h=>by
  cases h with
  | cons h1 h2 =>
   obtain ⟨S1,S2,rfl,a,b⟩:=OwnL.split ds h2
   exact ⟨_,S2,(List.append_assoc ..).symm,by simpa using OwnL.cons h1 a,by simpa using b⟩

theorem OwnL.of_flat {w:World}:∀ {ds vs},RepL w ds vs [] -> (∀ d ∈ ds,d.flat=true) -> OwnL w ds vs []
 | [],_,h,_=>by cases h;exact .nil
 | d :: ds,_,h,hf=>by
  generalize hS:([]:List Nat)=S at h
  cases h with
  | cons h1 h2 =>
   obtain ⟨rfl,rfl⟩:=List.append_eq_nil_iff.1 hS.symm
   refine OwnL.cons (S:=[]) (Ss:=[]) ?_ (OwnL.of_flat h2 fun d hd=>hf d (List.mem_cons_of_mem _ hd))
   have hfd:=hf d (List.mem_cons_self ..)
   generalize hS':([]:List Nat)=S' at h1
   cases h1 with
   | int k n=>exact .flat _ _ (.int k n) rfl
   | bool b=>exact .flat _ _ (.bool b) rfl
   | str s=>exact .flat _ _ (.str s) rfl
   | hdr=>rename_i h0;exact .flat _ _ (.hdr _ h0) rfl
   | nil sz a cap=>simp [D.flat] at hfd
   | sl=>cases hS'

theorem OwnL.get {w:World}:∀ {ds:List D} {vs:List Value} {S:List Nat},OwnL w ds vs S -> ∀ {j:Nat} {d:D},ds[j]?=some d ->
  ∃ v S1 S2 S3,vs[j]?=some v /\ S=S1 ++ S2 ++ S3 /\ Own w d v S2 /\ ∀ d' S',Own w d' v S' -> OwnL w (ds.set j d') vs (S1 ++ S' ++ S3)
 | _,_,_,.nil,_,_,h=>by simp at h
 | _,_,_,.cons (S:=S0) (Ss:=Ss) h1 h2,0,_,h=>by
  simp at h;subst h
  exact ⟨_,[],S0,Ss,rfl,by simp,h1,fun d' S' h'=>by simpa using OwnL.cons h' h2⟩
 | _,_,_,.cons (S:=S0) h1 h2,j + 1,_,h=>by
  simp at h
  obtain ⟨v,S1,S2,S3,a,b,c,e⟩:=OwnL.get h2 h
  refine ⟨v,S0 ++ S1,S2,S3,by simpa using a,by simp [b],c,fun d' S' h'=>?_⟩
  have:=OwnL.cons h1 (e d' S' h')
  simpa [List.append_assoc] using this

structure Ctx where
 w:World
 β:Nat -> Info
 ob:Nat -> AObj
 M:Nat -> Prop
 n:Nat

def PtrRel (C:Ctx):Ptr -> Value -> Prop
 | .own o i j,v=>o < C.n /\ match C.ob o with
  | .dead=>v.oneCell'=true
  | .hole | .pin _ _ | .ballast _=>False
  | .box _=>∃ b,(C.β o).base=some ⟨b,0,none⟩ /\ v=.pointer (some ⟨b,j,none⟩)
  | .vec sz _ _ | .frz sz _ | .wide sz _ _=>∃ b,(C.β o).base=some ⟨b,0,none⟩ /\ v=.pointer (some ⟨b,i * sz + j,none⟩)
 | .ro sz rows i j,v=>∃ b off vs S,v=.pointer (some ⟨b,off + (i * sz + j),none⟩) /\ b < C.w.heap.size /\ (∀ r ∈ rows,r.length=sz) /\ RepL C.w rows.flatten vs S /\
   (∀ (j:Nat) (v:Value),vs[j]?=some v -> C.w.cell? ⟨b,off + j,none⟩=some v) /\ ∀ x ∈ b :: S,¬ C.M x

def LeafRel (C:Ctx):Leaf -> Value -> Prop
 | .dat d,v=>∃ S,Rep C.w d v S /\ ∀ b ∈ S,¬ C.M b
 | .emp,v=>∃ a,v=.slice a 0 0
 | .own o,v=>o < C.n /\ match C.ob o with
  | .vec _ _ rows | .frz _ rows=>v=.slice (C.β o).base rows.length (C.β o).cap
  | .wide _ n _=>v=.slice (C.β o).base n (C.β o).cap
  | .hole | .pin _ _ | .ballast _=>False
  | _=>v.oneCell'=true
 | .part o i n,v=>o < C.n /\ match C.ob o with
  | .vec sz _ rows | .wide sz _ rows=>i + n <= rows.length /\ ∃ bs,v=.slice bs n ((C.β o).cap - i) /\ (i < (C.β o).cap -> bs=(C.β o).base.map (·.add (i * sz)))
  | .box _=>(C.β o).cap=n /\ i=0 /\ ∃ b,(C.β o).base=some ⟨b,0,none⟩ /\ v=.slice (some ⟨b,0,none⟩) n n
  | .hole | .pin _ _ | .ballast _=>False
  | _=>v.oneCell'=true
 | .ptr p,v=>PtrRel C p v
 | .fn f caps,v=>∃ cvs:Array Value,v=.func (.func f) #[] cvs /\ cvs.size=caps.length /\ ∀ (k:Nat) (c:Ptr),caps[k]?=some c -> ∃ x,cvs[k]?=some x /\ PtrRel C c x

def Leaves (C:Ctx) (ls:List Leaf) (vs:List Value):Prop :=
 vs.length=ls.length /\ ∀ (j:Nat) (l:Leaf),ls[j]?=some l -> ∃ v,vs[j]?=some v /\ LeafRel C l v

def PVRel (C:Ctx):AV -> Value -> Prop
 | .one l,v=>LeafRel C l v
 | .agg ls,v=>∃ vs:Array Value,v=.agg vs /\ Leaves C ls vs.toList
 | _,_=>False

def AVRel (C:Ctx):AV -> Value -> Prop
 | .tup as,v=>∃ vs:Array Value,v=.tuple vs /\ vs.size=as.length /\ ∀ (j:Nat) (a:AV),as[j]?=some a -> ∃ x,vs[j]?=some x /\ PVRel C a x
 | .ifg b a,v=>(b=true -> PVRel C a v) /\ (b=false -> v=undef)
 | a,v=>PVRel C a v

theorem PtrRel.one {C:Ctx} {p:Ptr} {v:Value} (h:PtrRel C p v):v.oneCell'=true:=by
 cases p with
 | own o i j =>
  obtain ⟨_,h⟩:=h
  cases e:C.ob o <;> simp only [e] at h
  ·exact h
  all_goals obtain ⟨b,_,rfl⟩:=h;rfl
 | ro sz rows i j=>obtain ⟨b,off,vs,S,rfl,_⟩:=h;rfl

theorem LeafRel.one {C:Ctx} {l:Leaf} {v:Value} (h:LeafRel C l v):v.oneCell'=true:=by
 cases l with
 | dat d=>obtain ⟨S,h,_⟩:=h;exact h.one
 | emp=>obtain ⟨a,rfl⟩:=h;rfl
 | own o =>
  obtain ⟨_,h⟩:=h
  cases e:C.ob o <;> simp only [e] at h
  ·exact h
  ·exact h
  all_goals subst h;rfl
 | part o i n =>
  obtain ⟨_,h⟩:=h
  cases e:C.ob o <;> simp only [e] at h
  all_goals first | exact h | (obtain ⟨_,bs,rfl,_⟩:=h;rfl) | (obtain ⟨_,_,b,_,rfl⟩:=h;rfl)
 | ptr p=>exact PtrRel.one (C:=C) (p:=p) h
 | fn f caps=>obtain ⟨cvs,rfl,_⟩:=h;rfl

def Compat:AObj -> AObj -> Prop
 | _,.dead=>True
 | .box _,.box _=>True
 | .vec sz _ rows,.vec sz' _ rows'=>sz=sz' /\ rows.length=rows'.length
 | .vec sz _ rows,.frz sz' rows'=>sz=sz' /\ rows.length=rows'.length
 | .frz sz rows,.frz sz' rows'=>sz=sz' /\ rows.length=rows'.length
 | .vec sz _ rows,.wide sz' n rows'=>sz=sz' /\ rows.length=n /\ n <= rows'.length
 | .wide sz n rows,.wide sz' n' rows'=>sz=sz' /\ n=n' /\ rows.length=rows'.length
 | .hole,.hole=>True
 | .pin o v,.pin o' v'=>o=o' /\ v=v'
 | .ballast l,.ballast l'=>l=l'
 | _,_=>False

theorem Compat.refl:∀ x,Compat x x
 | .dead=>trivial
 | .hole=>trivial
 | .box _=>trivial
 | .vec ..=>⟨rfl,rfl⟩
 | .frz ..=>⟨rfl,rfl⟩
 | .wide ..=>⟨rfl,rfl,rfl⟩
 | .pin ..=>⟨rfl,rfl⟩
 | .ballast _=>rfl

structure Ctx.Le (C C':Ctx):Prop where
 size:C.w.heap.size <= C'.w.heap.size
 keep:∀ b,b < C.w.heap.size -> ¬ C.M b -> C'.w.heap[b]?=C.w.heap[b]?
 new:∀ b,C'.M b -> C.M b \/ C.w.heap.size <= b
 obj:∀ o,o < C.n -> C.ob o ≠ .hole -> Compat (C.ob o) (C'.ob o) /\ (C'.ob o ≠ .dead -> C'.β o=C.β o)
 next:C.n <= C'.n

theorem supp_le {C C':Ctx} (h:C.Le C') {S:List Nat} (hlt:∀ b ∈ S,b < C.w.heap.size) (hS:∀ b ∈ S,¬ C.M b) :
  (∀ b ∈ S,C'.w.heap[b]?=C.w.heap[b]?) /\ ∀ b ∈ S,¬ C'.M b :=
 ⟨fun b hb=>h.keep b (hlt b hb) (hS b hb),fun b hb hm=>(h.new b hm).elim (hS b hb) (fun h'=>absurd (hlt b hb) (by omega))⟩

theorem PtrRel.mono {C C':Ctx} (h:C.Le C') {p:Ptr} {v:Value} (hr:PtrRel C p v):PtrRel C' p v:=by
 cases p with
 | own o i j =>
  obtain ⟨hn,hr'⟩:=hr
  have hone:v.oneCell'=true:=PtrRel.one (C:=C) (p:=.own o i j) ⟨hn,hr'⟩
  obtain ⟨hc,hb⟩:=h.obj o hn (fun e=>by simp only [e] at hr')
  refine ⟨Nat.lt_of_lt_of_le hn h.next,?_⟩
  cases e:C.ob o <;> cases e':C'.ob o <;> simp only [e,e',Compat] at hr' hc hb ⊢ <;> first
   | exact hc.elim
   | exact hone
   | (rw [hb (by simp)];first | exact hr' | (obtain ⟨rfl,_⟩:=hc;exact hr'))
 | ro sz rows i j =>
  obtain ⟨b,off,vs,S,hv,hb,hsz,hl,hc,hM⟩:=hr
  have hlt:∀ x ∈ b :: S,x < C.w.heap.size:=fun x hx=>by
   cases hx with
   | head=>exact hb
   | tail _ hx=>exact hl.lt x hx
  obtain ⟨k,m⟩:=supp_le h hlt hM
  exact ⟨b,off,vs,S,hv,Nat.lt_of_lt_of_le hb h.size,hsz,hl.frm h.size (fun x hx=>k x (List.mem_cons_of_mem _ hx)),
   fun j v hj=>by rw [cell_congr (k b (List.mem_cons_self ..))];exact hc j v hj,m⟩

theorem LeafRel.mono {C C':Ctx} (h:C.Le C') {l:Leaf} {v:Value} (hr:LeafRel C l v):LeafRel C' l v:=by
 cases l with
 | dat d =>
  obtain ⟨S,hr,hM⟩:=hr
  obtain ⟨k,m⟩:=supp_le h hr.lt hM
  exact ⟨S,hr.frm h.size k,m⟩
 | emp=>exact hr
 | own o =>
  have hone:=LeafRel.one hr
  obtain ⟨hn,hr'⟩:=hr
  obtain ⟨hc,hb⟩:=h.obj o hn (fun e=>by simp only [e] at hr')
  refine ⟨Nat.lt_of_lt_of_le hn h.next,?_⟩
  cases e:C.ob o <;> cases e':C'.ob o <;> simp only [e,e',Compat] at hr' hc hb ⊢ <;> first
   | exact hc.elim
   | exact hone
   | (rw [hb (by simp),<- hc.2];exact hr')
   | (rw [hb (by simp),<- hc.2.1];exact hr')
 | part o i n =>
  have hone:=LeafRel.one hr
  obtain ⟨hn,hr'⟩:=hr
  obtain ⟨hc,hb⟩:=h.obj o hn (fun e=>by simp only [e] at hr')
  refine ⟨Nat.lt_of_lt_of_le hn h.next,?_⟩
  cases e:C.ob o <;> cases e':C'.ob o <;> simp only [e,e',Compat] at hr' hc hb ⊢ <;> first
   | exact hc.elim
   | exact hone
   | (rw [hb (by simp)];exact hr')
   | (rw [hb (by simp),<- hc.1];exact ⟨by have:=hr'.1;have:=hc.2;omega,hr'.2⟩)
 | ptr p=>exact PtrRel.mono h hr
 | fn f caps =>
  obtain ⟨cvs,hv,hs,hk⟩:=hr
  exact ⟨cvs,hv,hs,fun k c hc=>let ⟨x,hx,hp⟩:=hk k c hc;⟨x,hx,hp.mono h⟩⟩

theorem Leaves.mono {C C':Ctx} (h:C.Le C') {ls:List Leaf} {vs:List Value} (hr:Leaves C ls vs):Leaves C' ls vs :=
 ⟨hr.1,fun j l hl=>let ⟨v,hv,hp⟩:=hr.2 j l hl;⟨v,hv,hp.mono h⟩⟩

theorem PVRel.mono {C C':Ctx} (h:C.Le C') {a:AV} {v:Value} (hr:PVRel C a v):PVRel C' a v:=by
 cases a with
 | one l=>exact LeafRel.mono h hr
 | agg ls=>obtain ⟨vs,hv,hl⟩:=hr;exact ⟨vs,hv,hl.mono h⟩
 | tup vs=>exact hr.elim
 | ifg b v=>exact hr.elim

theorem AVRel.mono {C C':Ctx} (h:C.Le C') {a:AV} {v:Value} (hr:AVRel C a v):AVRel C' a v:=by
 cases a with
 | one l=>exact PVRel.mono (a:=.one l) h hr
 | agg ls=>exact PVRel.mono (a:=.agg ls) h hr
 | tup vs =>
  obtain ⟨xs,hv,hs,hk⟩:=hr
  exact ⟨xs,hv,hs,fun j a ha=>let ⟨x,hx,hp⟩:=hk j a ha;⟨x,hx,hp.mono h⟩⟩
 | ifg b a=>exact ⟨fun hb=>PVRel.mono h (hr.1 hb),hr.2⟩

theorem Leaves.one {C:Ctx} {ls:List Leaf} {vs:List Value} (hr:Leaves C ls vs):∀ v ∈ vs,v.oneCell'=true:=fun v hv=>by
 obtain ⟨j,hj,rfl⟩:=List.getElem_of_mem hv
 obtain ⟨v',hv',hl⟩:=hr.2 j (ls[j]'(by rw [<- hr.1];exact hj)) (List.getElem?_eq_getElem _)
 rw [List.getElem?_eq_getElem hj] at hv'
 cases hv'
 exact hl.one

def ObjRel (C:Ctx) (φ:Nat -> List Nat) (o:Nat):Prop :=
 match C.ob o with
 | .dead=>φ o=[]
 | .hole=>φ o=[]
 | .box cells=>∃ b T,∃ vs:Array Value,(C.β o).base=some ⟨b,0,none⟩ /\ φ o=[b] /\ C.w.heap[b]?=some (.cells vs T (0,0)) /\ Leaves C cells vs.toList
 | .vec sz sep rows=>(∀ r ∈ rows,r.length=sz) /\ rows.length <= (C.β o).cap /\
   ((φ o=[] /\ (C.β o).cap=0) \/
    ∃ b T S E,∃ vs:Array Value,(C.β o).base=some ⟨b,0,none⟩ /\ C.w.heap[b]?=some (.cells vs T (0,0)) /\ Room C.w vs (rows.length * sz) ((C.β o).cap * sz) /\
     RepL C.w rows.flatten (vs.toList.take (rows.length * sz)) S /\ φ o=b :: E /\ (if sep then S.Nodup /\ (∀ x ∈ S,x ∈ E) /\ OwnL C.w rows.flatten (vs.toList.take (rows.length * sz)) S else ∀ x ∈ S,¬ C.M x))
 | .pin k v=>φ o=[] /\ LeafRel C (.own k) v
 | .ballast l=>φ o=l.map Prod.fst /\ ∀ x ∈ l,C.w.heap[x.1]?=some x.2
 | .wide sz n rows=>(∀ r ∈ rows,r.length=sz) /\ n <= rows.length /\ rows.length=(C.β o).cap /\
   ((φ o=[] /\ (C.β o).cap=0) \/
    ∃ b T,∃ vs:Array Value,(C.β o).base=some ⟨b,0,none⟩ /\ C.w.heap[b]?=some (.cells vs T (0,0)) /\ RepL C.w rows.flatten vs.toList [] /\ ∃ E,φ o=b :: E)
 | .frz sz rows=>φ o=[] /\ (rows ≠ [] -> ∃ b,(C.β o).base=some ⟨b,0,none⟩) /\ ∃ S,Rep C.w (.sl sz rows) (.slice (C.β o).base rows.length (C.β o).cap) S /\ ∀ x ∈ S,¬ C.M x

theorem ObjRel.mono {C C':Ctx} (h:C.Le C') {φ φ':Nat -> List Nat} {o:Nat} (he:C'.ob o=C.ob o) (hb:C'.ob o ≠ .dead -> C'.β o=C.β o) (hφ:φ' o=φ o)
  (hk:∀ b ∈ φ o,C'.w.heap[b]?=C.w.heap[b]?) (hr:ObjRel C φ o):ObjRel C' φ' o:=by
 unfold ObjRel at *
 rw [he,hφ]
 cases e:C.ob o with
 | dead=>simpa only [e] using hr
 | hole=>simpa only [e] using hr
 | box cells =>
  simp only [e] at hr ⊢
  rw [hb (by rw [he,e];simp)]
  obtain ⟨b,T,vs,h1,h2,h3,h4⟩:=hr
  exact ⟨b,T,vs,h1,h2,by rw [hk b (by rw [h2];simp)];exact h3,h4.mono h⟩
 | vec sz sep rows =>
  simp only [e] at hr ⊢
  rw [hb (by rw [he,e];simp)]
  obtain ⟨h1,h2,h3⟩:=hr
  refine ⟨h1,h2,?_⟩
  rcases h3 with h3 | ⟨b,T,S,E,vs,a1,a2,a3,a4,a5,a6⟩
  ·exact .inl h3
  ·refine .inr ⟨b,T,S,E,vs,a1,by rw [hk b (by rw [a5];simp)];exact a2,a3.frm h.size,?_,a5,?_⟩
   ·cases sep with
    | true=>exact a4.frm h.size (fun x hx=>hk x (by rw [a5];exact List.mem_cons_of_mem _ (a6.2.1 x hx)))
    | false=>exact a4.frm h.size (supp_le h a4.lt a6).1
   ·cases sep with
    | true=>exact ⟨a6.1,a6.2.1,a6.2.2.frm h.size (fun x hx=>hk x (by rw [a5];exact List.mem_cons_of_mem _ (a6.2.1 x hx)))⟩
    | false=>exact (supp_le h a4.lt a6).2
 | wide sz n rows =>
  simp only [e] at hr ⊢
  rw [hb (by rw [he,e];simp)]
  obtain ⟨h1,h2,h4,h3⟩:=hr
  refine ⟨h1,h2,h4,?_⟩
  rcases h3 with h3 | ⟨b,T,vs,a1,a2,a3,E,a5⟩
  ·exact .inl h3
  ·exact .inr ⟨b,T,vs,a1,by rw [hk b (by rw [a5];simp)];exact a2,a3.frm0 h.size,E,a5⟩
 | pin k v =>
  simp only [e] at hr ⊢
  exact ⟨hr.1,hr.2.mono h⟩
 | ballast l =>
  simp only [e] at hr ⊢
  exact ⟨hr.1,fun x hx=>by rw [hk x.1 (by rw [hr.1];exact List.mem_map_of_mem hx)];exact hr.2 x hx⟩
 | frz sz rows =>
  simp only [e] at hr ⊢
  rw [hb (by rw [he,e];simp)]
  obtain ⟨h1,hb0,S,h2,h3⟩:=hr
  obtain ⟨k,m⟩:=supp_le h h2.lt h3
  exact ⟨h1,hb0,S,h2.frm h.size k,m⟩

def TabOk (w:World) (X:Nat -> Prop) (g:Nat):Tab -> Prop
 | .rows sz rs=>¬ X g /\ (∀ r ∈ rs,r.length=sz) /\ ∃ (cs:Array Value) (T:TypeId) (fr:Nat × Nat),w.heap[g]?=some (.cells cs T fr) /\ RepL w rs.flatten cs.toList []
 | .cell p=>¬ X g /\ ∃ (cs:Array Value) (T:TypeId) (fr:Nat × Nat),w.heap[g]?=some (.cells cs T fr) /\ p cs

def GlobOk (w:World) (X:Nat -> Prop):Prop:=∀ t ∈ tabs,TabOk w X t.1 t.2

theorem GlobOk.frm {w w':World} {X Y:Nat -> Prop} (h:GlobOk w X) (hf:Frm w X w') (hY:∀ b,Y b -> X b \/ w.heap.size <= b):GlobOk w' Y:=fun t ht=>by
 have key:∀ g,¬ X g -> g < w.heap.size -> ¬ Y g /\ w'.heap[g]?=w.heap[g]?:=fun g hg hl =>
  ⟨fun hy=>(hY g hy).elim hg (fun h'=>absurd hl (by omega)),hf.block g hl hg⟩
 have h1:=h t ht
 obtain ⟨g,t⟩:=t
 cases t with
 | rows sz rs =>
  obtain ⟨a,b,cs,T,fr,d,e⟩:=h1
  obtain ⟨a',k⟩:=key g a (lt_of_heap d)
  exact ⟨a',b,cs,T,fr,k.trans d,e.frm hf.size (by simp)⟩
 | cell p =>
  obtain ⟨a,cs,T,fr,d,e⟩:=h1
  obtain ⟨a',k⟩:=key g a (lt_of_heap d)
  exact ⟨a',cs,T,fr,k.trans d,e⟩

theorem GlobOk.sub {w:World} {X Y:Nat -> Prop} (h:GlobOk w X) (hY:∀ b,Y b -> X b):GlobOk w Y:=h.frm (Frm.refl _ _) fun b hb=>.inl (hY b hb)

def find {α:Type}:List (Nat × α) -> Nat -> Option α
 | [],_=>none
 | (k,v) :: r,t=>if t=k then some v else find r t

structure St where
 env:List (Nat × AV)
 objs:List (Nat × AObj)
 next:Nat

def St.obj (st:St) (o:Nat):AObj:=(find st.objs o).getD .dead
def St.put (st:St) (t:Nat) (v:AV):St:={ st with env:=(t,v) :: st.env }
def St.setObj (st:St) (o:Nat) (x:AObj):St:={ st with objs:=(o,x) :: st.objs }
def St.addObj (st:St) (x:AObj):St:={ st with objs:=(st.next,x) :: st.objs,next:=st.next + 1 }

def St.ctx (st:St) (w:World) (β:Nat -> Info) (φ:Nat -> List Nat):Ctx:=⟨w,β,st.obj,fun b=>∃ o,b ∈ φ o,st.next⟩

structure Base where
 w:World
 X:Nat -> Prop
 n:Nat
 β:Nat -> Info
 gok:GlobOk w X

def markOf (D:Nat):Deferred:={ target:=.collected D,args:=#[] }

def Marks (B:Base) (φ:Nat -> List Nat) (ds:List Deferred) (w:World):Prop :=
 ∃ Ds:List Nat,ds=Ds.map markOf /\ Ds.Nodup /\ ∀ D ∈ Ds,w.heap[D]?=some (.deferred (some [])) /\ B.w.heap.size <= D /\ ∀ o,D ∉ φ o

theorem Marks.nil {B:Base} {φ:Nat -> List Nat} {w:World}:Marks B φ [] w:=⟨[],rfl,.nil,fun D h=>by cases h⟩
theorem Marks.mono {B:Base} {φ φ':Nat -> List Nat} {ds:List Deferred} {w w':World} (h:Marks B φ ds w) (hk:∀ D,D < w.heap.size -> (∀ o,D ∉ φ o) -> w'.heap[D]?=w.heap[D]? /\ ∀ o,D ∉ φ' o):Marks B φ' ds w' :=
 let ⟨Ds,h1,h2,h3⟩:=h
 ⟨Ds,h1,h2,fun D hD=>let ⟨a,b,c⟩:=h3 D hD;let ⟨x,y⟩:=hk D (lt_of_heap a) c;⟨x.trans a,b,y⟩⟩

structure SR (B:Base) (N:Nat) (st:St) (β:Nat -> Info) (φ:Nat -> List Nat) (a:Act) (w:World):Prop where
 size:a.tmps.size=N
 defers:Marks B φ a.defers w
 env:∀ t v,find st.env t=some v -> t < N /\ AVRel (st.ctx w β φ) v (a.tmps.getD t undef)
 dead:∀ o,st.next <= o -> st.obj o=.dead
 objs:∀ o,ObjRel (st.ctx w β φ) φ o
 nodup:∀ o,(φ o).Nodup
 disj:∀ o o',o ≠ o' -> ∀ b ∈ φ o,b ∉ φ o'
 fp:∀ o,∀ b ∈ φ o,b < w.heap.size /\ (B.X b \/ B.w.heap.size <= b)
 frame:Frm B.w B.X w
 init:B.n <= st.next /\ ∀ o,o < B.n -> β o=B.β o

theorem SR.glob {B:Base} {N:Nat} {st:St} {β:Nat -> Info} {φ:Nat -> List Nat} {a:Act} {w:World} (h:SR B N st β φ a w):GlobOk w (fun b=>∃ o,b ∈ φ o) :=
 B.gok.frm h.frame fun b ⟨o,ho⟩=>(h.fp o b ho).2

theorem mem_find {α:Type} {l:List (Nat × α)} {k:Nat} {v:α} (h:find l k=some v):(k,v) ∈ l:=by
 induction l with
 | nil=>cases h
 | cons x r ih =>
  obtain ⟨k',v'⟩:=x
  simp only [find] at h
  split at h
  ·rename_i e;cases h;subst e;exact List.mem_cons_self ..
  ·exact List.mem_cons_of_mem _ (ih h)

end Go.Abs
