import Derived.Test.YtcnddedeeplbcaaGreatRows
import Derived.Test.YtcnddedeeplbcaaGreatSATy
import Derived.Test.YtcnddedeeplbcaaGreatSAbsTac
import Derived.Test.YtcnddedeeplbcaaGreatSAbsData
import Derived.Test.YtcnddedeeplbcaaGreatSAFam
import Derived.WalkKit
import Derived.ProofKit
import Derived.OpenShut
/- Contracts: Fam2. -/
namespace Go.Proofs.YtcnddedeeplbcaaGreat.Mod
open Go.Proofs.Tryz Go.Abs Go.Proofs.YtcnddedeeplbcaaGreat.Ty Go.ChangeShapes Go.WideShapes Go.ChangeAt Go.RowKit
set_option linter.unusedSimpArgs false
set_option linter.unusedVariables false
set_option maxHeartbeats 8000000
set_option maxRecDepth 100000
def encI (x:Int):List D:=[.int .i64 x]
theorem sum_get {α:Type} (f:α -> Nat):∀ {l:List α} {i:Nat} (h:i < l.length),f l[i] <= (l.map f).sum
 | x :: l,0,_=>by simp
 | x :: l,i + 1,h=>by
  have:=sum_get f (l:=l) (i:=i) (by simpa using h)
  simp;omega
theorem sum_mem {α:Type} (f:α -> Nat) {l:List α} {x:α} (h:x ∈ l):f x <= (l.map f).sum:=by
 obtain ⟨i,hi,rfl⟩:=List.getElem_of_mem h
 exact sum_get f hi
theorem sum_take_succ {α:Type} (f:α -> Nat) {l:List α} {i:Nat} (h:i < l.length):((l.take (i + 1)).map f).sum=((l.take i).map f).sum + f l[i]:=by
 rw [List.take_succ_eq_append_getElem h,List.map_append,List.sum_append];simp
theorem sum_take_le {α:Type} (f:α -> Nat) (l:List α) (i:Nat):((l.take i).map f).sum <= (l.map f).sum:=by
 conv=>rhs;rw [<- List.take_append_drop i l,List.map_append,List.sum_append]
 omega
theorem szL_raw {left:Int} {n:Nat}:decide (szL left n < 0)=decide (left - n < 0):=by
 unfold szL;split <;> simp <;> omega
theorem szL_at {left:Int} {a b:Nat} (h0:0 <= left) (h:decide (szL left a < 0)=false):szL (szL left a) b=szL left (a + b):=by
 unfold szL at h ⊢
 split at h
 ·simp at h
 ·rename_i hn
  rw [if_neg hn]
  by_cases h2:left - (a + b:Nat) < 0
  ·rw [if_pos h2,if_pos (by omega)]
  ·rw [if_neg h2,if_neg (by omega)];omega
theorem szL_bad {left:Int} {a t:Nat} (h:decide (szL left a < 0)=true) (ht:a <= t):(-1:Int)=szL left t:=by
 rw [szL_raw] at h
 simp at h
 unfold szL
 rw [if_pos (by omega)]
theorem c69 (rows:List (List D)) (left:Int) (h0:0 <= left) (h1:left <= 1048576) (hl:rows.length <= maxLen):Ctr prog 69 [.one (.dat (.sl 1 rows)),.one (.dat (.int .i64 left))] [] (.one (.dat (.int .i64 (szL left rows.length)))) []:=by
 have hw:=szL_wrap h0 h1 hl
 refine Ctr.bd mixed func69 rfl ?_
 refine sv0 ?_
 repeat' first
  | ((with_reducible show Abs.Fin _ _ _ _ _ _);refine Fin.nt results69 [] ?_ ?_ ?_ <;> try trivial)
  | with_reducible intro h
  | ((with_reducible show _ /\ _);apply And.intro)
 all_goals try ((refine rsl ?_;try exact .intro))
 all_goals simp_all [szL]
 all_goals omega
theorem c77 (l:List Int) (h:l.length <= 1048576):Ctr prog 77 [.one (.dat (.sl 1 (l.map encI)))] [] (.one (.own 0)) [.vec 1 true (l.map encI)]:=by
 have hl:l.length <= 1048576:=by omega
 refine Ctr.bd mixed func77 rfl ?_
 refine evl ?_
 refine ⟨by omega,?_⟩
 refine LoopK_intro (fun n s=>∃ i:Nat,i <= l.length /\ n=l.length - i /\ s=mkSt [(4,.one (.dat (.int .i64 i))),(3,.one (.own 0)),(0,.one (.dat (.sl 1 (l.map encI))))]
   [.vec 1 true ((l.take i).map encI ++ List.replicate (l.length - i) [.int .i64 0])]) l.length _
  (Ent.wk [0]) ⟨0,by omega,by omega,rfl⟩ ?_
 rintro n s ⟨i,hi,rfl,rfl⟩ K hK
 rcases Nat.lt_or_ge i l.length with hlt | hge
 ·have hdi:decide ((i:Int) < l.length)=true:=by simpa using hlt
  simp (maxSteps:=2000000) only [go_sem,seval,hdi,getD_map hlt,encI,D.flat,wrap_succ hlt (le20 hl)]
  first | refine ⟨⟨by omega,by omega⟩,hlt,?_⟩ | refine ⟨by omega,hlt,?_⟩
  repeat' ((with_reducible show _ /\ _);apply And.intro)
  all_goals first
   | (apply hK
      refine ⟨l.length - (i + 1),_,by omega,Ent.weak (ids:=[0]) (by simp) rfl (by simp) ?_ ?_ ?_,i + 1,by omega,rfl,rfl⟩
      ·simp only [objsLe,St.obj,find,AObj.renF,if_true,Option.getD_some,List.getD_cons_zero,and_true]
       rw [<- take_set encI l _ hlt]
       exact ⟨by simp,Or.inr rfl⟩
      ·simp [objsLe,envLe,find,St.obj,AObj.renF,AV.renF,AV.renF1,Leaf.renF,LowAll,AV.Low,AV.Low1,Leaf.Low,AObj.Low,Ptr.renF,Ptr.Low]
      ·simp [objsLe,envLe,find,St.obj,AObj.renF,AV.renF,AV.renF1,Leaf.renF,LowAll,AV.Low,AV.Low1,Leaf.Low,AObj.Low,Ptr.renF,Ptr.Low])
   | omega
   | decide
   | (simp;done)
   | (simp;omega)
   | trivial
 ·have hge':i=l.length:=by omega
  subst hge'
  have hdi:decide ((l.length:Int) < l.length)=false:=by simp
  refine sv4 ?_
  apply hK
  refine evl ?_
  refine Fin.nt results77 [0] ?_ ?_ ?_ <;> try trivial
  all_goals simp [objsLe,St.obj,find,AObj.renF]
theorem c86 (l l':List Int) (hl:l.length <= maxLen) (hl':l'.length <= maxLen):Ctr prog 86 [.one (.dat (.sl 1 (l.map encI))),.one (.dat (.sl 1 (l'.map encI)))] [] (.one (.dat (.bool (decide (l=l'))))) []:=by
 refine Ctr.bd mixed func86 rfl ?_
 refine evl ?_
 constructor <;> intro h
 ·have hne:l.length ≠ l'.length:=by simp at h;omega
  refine Fin.nt results86 [] ?_ ?_ ?_ <;> try trivial
  (refine rsl ?_;try exact .intro)
  symm;rw [decide_eq_false_iff_not]
  intro e;exact hne (by rw [e])
 have hlen:l.length=l'.length:=by simp at h;omega
 refine LoopK_intro (fun n s=>∃ i:Nat,i <= l.length /\ n=l.length - i /\ l.take i=l'.take i /\ s=mkSt [(5,.one (.dat (.int .i64 i))),(1,.one (.dat (.sl 1 (l'.map encI)))),(0,.one (.dat (.sl 1 (l.map encI))))] []) l.length _
  (Ent.wk []) ⟨0,by omega,by omega,rfl,rfl⟩ ?_
 rintro n s ⟨i,hi,rfl,ht,rfl⟩ K hK
 rcases Nat.lt_or_ge i l.length with hlt | hge
 ·have hdi:decide ((i:Int) < l.length)=true:=by simpa using hlt
  have hlt':i < l'.length:=by omega
  simp (maxSteps:=2000000) only [go_sem,seval,hdi,wrap_succ hlt hl,getD_map hlt,getD_map hlt',encI]
  refine ⟨⟨by omega,by omega⟩,hlt,⟨by omega,by omega⟩,hlt',?_⟩
  constructor <;> intro h
  ·apply hK
   refine evl ?_
   refine Fin.nt results86 [] ?_ ?_ ?_ <;> try trivial
   (refine rsl ?_;try exact .intro)
   symm;rw [decide_eq_false_iff_not]
   rintro rfl;simp at h
  ·apply hK
   have he:l[i]=l'[i]:=by simpa using h
   exact ⟨l.length - (i + 1),_,by omega,Ent.wk [],i + 1,by omega,rfl,by rw [List.take_succ_eq_append_getElem hlt,List.take_succ_eq_append_getElem hlt',ht,he],rfl⟩
 ·have hge':i=l.length:=by omega
  subst hge'
  have hdi:decide ((l.length:Int) < l.length)=false:=by simp
  refine sv4 ?_
  apply hK
  refine evl ?_
  refine Fin.nt results86 [] ?_ ?_ ?_ <;> try trivial
  (refine rsl ?_;try exact .intro)
  symm;rw [decide_eq_true_iff]
  rw [List.take_of_length_le (Nat.le_refl _),List.take_of_length_le (by omega)] at ht
  exact ht
structure Heap where
 Bytes:List Int
 Class:List Int
 deriving DecidableEq
def encHeap (x:Heap):List D:=[.sl 1 (x.Bytes.map encI),.sl 1 (x.Class.map encI)]
def Heap.wf (x:Heap):Prop:=(∀ y ∈ x.Bytes,(Lit.int .i64 y).wf=true) /\ (∀ y ∈ x.Class,(Lit.int .i64 y).wf=true) /\ True
theorem Heap.eq_iff (x y:Heap):x=y ↔ x.Bytes=y.Bytes /\ x.Class=y.Class:=by cases x;cases y;simp
def Heap.lok (x:Heap):Prop:=x.Bytes.length <= maxLen /\ x.Class.length <= maxLen /\ True
def sizHeap (x:Heap):Nat:=x.Bytes.length + x.Class.length
theorem decHeap (n:Nat) (ds:List D) (h:WT prog n 63 ds):∃ x:Heap,ds=encHeap x /\ x.wf /\ x.lok:=by
 cases n with
 | zero=>exact h.elim
 | succ n =>
  unfold WT at h
  rw [underlying63] at h
  simp only [List.toList_toArray,List.map_cons,List.map_nil,WTs] at h
  obtain ⟨_,_,rfl,h0,⟨_,_,rfl,h1,rfl⟩⟩:=h
  obtain ⟨x0,rfl,c0,w0⟩:=decSl (enc:=encI) (q:=fun x=>(Lit.int .i64 x).wf=true) underlying24 tc_3 (fun _ _ h=>decInt underlying3 h) h0
  obtain ⟨x1,rfl,c1,w1⟩:=decSl (enc:=encI) (q:=fun x=>(Lit.int .i64 x).wf=true) underlying24 tc_3 (fun _ _ h=>decInt underlying3 h) h1
  exact ⟨⟨x0,x1⟩,rfl,⟨w0,w1,trivial⟩,⟨c0,c1,trivial⟩⟩
theorem Heap.lok_of {x:Heap} (h:sizHeap x <= 16777216):x.lok:=by
 have hm:maxLen=9223372036854775807:=rfl
 unfold sizHeap at h
 exact ⟨by omega,by omega,trivial⟩
theorem c214 (x:Heap) (hk:x.lok) (left:Int) (h0:0 <= left) (h1:left <= 1048576):Ctr prog 214 [.agg ((encHeap x).map .dat),.one (.dat (.int .i64 left))] [] (.one (.dat (.int .i64 (szL left (sizHeap x))))) []:=by
 simp only [encHeap,List.map_cons,List.map_nil]
 unfold sizHeap
 refine Ctr.bd mixed func214 rfl ?_
 refine evl ?_
 obtain ⟨kBytes,kClass,_⟩:=hk
 refine CallK_pure e69 (c69 (x.Bytes.map encI) left h0 h1 (by simpa using kBytes)) rfl ?_
 refine evl ?_
 constructor <;> intro h
 ·refine Fin.nt results214 [] ?_ ?_ ?_ <;> try trivial
  (refine rsl ?_;try exact .intro)
  try simp only [List.length_map] at h
  exact szL_bad (h) (by omega)
 try simp only [List.length_map] at h
 have a0:decide (szL left (x.Bytes.length) < 0)=false:=h
 obtain ⟨_,_,g0,u0⟩:=szL_le h1 a0
 try simp only [List.length_map]
 refine CallK_pure e69 (c69 (x.Class.map encI) (szL left (x.Bytes.length)) g0 u0 (by simpa using kClass)) rfl ?_
 refine evl ?_
 constructor <;> intro h
 ·refine Fin.nt results214 [] ?_ ?_ ?_ <;> try trivial
  (refine rsl ?_;try exact .intro)
  try simp only [List.length_map] at h
  exact szL_bad (szL_at h0 a0 ▸ h) (by omega)
 try simp only [List.length_map] at h
 have a1:decide (szL left (x.Bytes.length + x.Class.length) < 0)=false:=szL_at h0 a0 ▸ h
 refine Fin.nt results214 [] ?_ ?_ ?_ <;> try trivial
 all_goals try ((refine rsl ?_;try exact .intro))
 all_goals try simp only [List.length_map]
 all_goals try exact szL_at h0 a0
theorem c226 (x:Heap) (h:sizHeap x <= 1048576):Ctr prog 226 [.agg ((encHeap x).map .dat)] [] (.agg [.own 0,.own 1]) [.vec 1 true (x.Bytes.map encI),.vec 1 true (x.Class.map encI)]:=by
 simp only [encHeap,List.map_cons,List.map_nil]
 unfold sizHeap at h
 refine Ctr.bd mixed func226 rfl ?_
 refine evl ?_
 refine CallK_pure e77 (c77 x.Bytes (by omega)) rfl ?_
 refine evl ?_
 refine CallK_pure e77 (c77 x.Class (by omega)) rfl ?_
 refine evl ?_
 first | ((refine Fin.nt results226 [3,4] ?_ ?_ ?_ <;> try trivial) <;> (first | rfl | exact entd);done) | ((refine Fin.nt results226 [2,3] ?_ ?_ ?_ <;> try trivial) <;> (first | rfl | exact entd);done) | ((refine Fin.nt results226 [1,2] ?_ ?_ ?_ <;> try trivial) <;> (first | rfl | exact entd);done) | ((refine Fin.nt results226 [0,1] ?_ ?_ ?_ <;> try trivial) <;> (first | rfl | exact entd);done) | ((refine Fin.nt results226 [4,5] ?_ ?_ ?_ <;> try trivial) <;> (first | rfl | exact entd);done) | ((refine Fin.nt results226 [5,6] ?_ ?_ ?_ <;> try trivial) <;> (first | rfl | exact entd);done)
theorem c252 (x y:Heap) (hx:sizHeap x <= 1048576) (hy:sizHeap y <= 1048576):Ctr prog 252 [.agg ((encHeap x).map .dat),.agg ((encHeap y).map .dat)] [] (.one (.dat (.bool (decide (x=y))))) []:=by
 simp only [encHeap,List.map_cons,List.map_nil]
 unfold sizHeap at hx hy
 have hm:maxLen=9223372036854775807:=rfl
 refine Ctr.bd mixed func252 rfl ?_
 refine evl ?_
 refine ck e86 (c86 x.Bytes y.Bytes (by omega) (by omega)) rfl ?_
 refine evl ?_
 constructor <;> intro h
 ·refine Fin.nt results252 [] ?_ ?_ ?_ <;> try trivial
  (refine rsl ?_;try exact .intro)
  simp_all [Heap.eq_iff]
 have eBytes:=h;clear h
 refine ck e86 (c86 x.Class y.Class (by omega) (by omega)) rfl ?_
 refine evl ?_
 constructor <;> intro h
 ·refine Fin.nt results252 [] ?_ ?_ ?_ <;> try trivial
  (refine rsl ?_;try exact .intro)
  simp_all [Heap.eq_iff]
 have eClass:=h;clear h
 refine Fin.nt results252 [] ?_ ?_ ?_ <;> try trivial
 (refine rsl ?_;try exact .intro)
 simp_all [Heap.eq_iff]
structure SList where
 Slots:List Int
 deriving DecidableEq
def encSList (x:SList):List D:=[.sl 1 (x.Slots.map encI)]
def SList.wf (x:SList):Prop:=(∀ y ∈ x.Slots,(Lit.int .i64 y).wf=true) /\ True
theorem SList.eq_iff (x y:SList):x=y ↔ x.Slots=y.Slots:=by cases x;cases y;simp
def SList.lok (x:SList):Prop:=x.Slots.length <= maxLen /\ True
def sizSList (x:SList):Nat:=x.Slots.length
def sizSListS (l:List SList):Nat:=l.length + (l.map sizSList).sum
theorem decSList (n:Nat) (ds:List D) (h:WT prog n 311 ds):∃ x:SList,ds=encSList x /\ x.wf /\ x.lok:=by
 cases n with
 | zero=>exact h.elim
 | succ n =>
  unfold WT at h
  rw [underlying311] at h
  simp only [List.toList_toArray,List.map_cons,List.map_nil,WTs] at h
  obtain ⟨_,_,rfl,h0,rfl⟩:=h
  obtain ⟨x0,rfl,c0,w0⟩:=decSl (enc:=encI) (q:=fun x=>(Lit.int .i64 x).wf=true) underlying24 tc_3 (fun _ _ h=>decInt underlying3 h) h0
  exact ⟨⟨x0⟩,rfl,⟨w0,trivial⟩,⟨c0,trivial⟩⟩
theorem SList.lok_of {x:SList} (h:sizSList x <= 16777216):x.lok:=by
 have hm:maxLen=9223372036854775807:=rfl
 unfold sizSList at h
 exact ⟨by omega,trivial⟩
theorem lokSListS {l:List SList} (h:sizSListS l <= 16777216):l.length <= maxLen /\ ∀ y ∈ l,y.lok:=by
 have hm:maxLen=9223372036854775807:=rfl
 unfold sizSListS at h
 exact ⟨by omega,fun y hy=>SList.lok_of (by have:=sum_mem sizSList hy;omega)⟩
theorem c313 (x:SList) (hk:x.lok) (left:Int) (h0:0 <= left) (h1:left <= 1048576):Ctr prog 313 [.agg ((encSList x).map .dat),.one (.dat (.int .i64 left))] [] (.one (.dat (.int .i64 (szL left (sizSList x))))) []:=by
 simp only [encSList,List.map_cons,List.map_nil]
 unfold sizSList
 refine Ctr.bd mixed func313 rfl ?_
 refine evl ?_
 obtain ⟨kSlots,_⟩:=hk
 refine CallK_pure e69 (c69 (x.Slots.map encI) left h0 h1 (by simpa using kSlots)) rfl ?_
 refine evl ?_
 constructor <;> intro h
 ·refine Fin.nt results313 [] ?_ ?_ ?_ <;> try trivial
  (refine rsl ?_;try exact .intro)
  try simp only [List.length_map] at h
  exact szL_bad (h) (by omega)
 try simp only [List.length_map] at h
 have a0:decide (szL left (x.Slots.length) < 0)=false:=h
 refine Fin.nt results313 [] ?_ ?_ ?_ <;> try trivial
 all_goals try ((refine rsl ?_;try exact .intro))
 all_goals try simp only [List.length_map]
theorem c314 (x:SList) (h:sizSList x <= 1048576):Ctr prog 314 [.agg ((encSList x).map .dat)] [] (.agg [.own 0]) [.vec 1 true (x.Slots.map encI)]:=by
 simp only [encSList,List.map_cons,List.map_nil]
 unfold sizSList at h
 refine Ctr.bd mixed func314 rfl ?_
 refine evl ?_
 refine CallK_pure e77 (c77 x.Slots (by omega)) rfl ?_
 refine evl ?_
 first | ((refine Fin.nt results314 [3] ?_ ?_ ?_ <;> try trivial) <;> (first | rfl | exact entd);done) | ((refine Fin.nt results314 [2] ?_ ?_ ?_ <;> try trivial) <;> (first | rfl | exact entd);done) | ((refine Fin.nt results314 [1] ?_ ?_ ?_ <;> try trivial) <;> (first | rfl | exact entd);done) | ((refine Fin.nt results314 [0] ?_ ?_ ?_ <;> try trivial) <;> (first | rfl | exact entd);done) | ((refine Fin.nt results314 [4] ?_ ?_ ?_ <;> try trivial) <;> (first | rfl | exact entd);done) | ((refine Fin.nt results314 [5] ?_ ?_ ?_ <;> try trivial) <;> (first | rfl | exact entd);done)
theorem c317 (x y:SList) (hx:sizSList x <= 1048576) (hy:sizSList y <= 1048576):Ctr prog 317 [.agg ((encSList x).map .dat),.agg ((encSList y).map .dat)] [] (.one (.dat (.bool (decide (x=y))))) []:=by
 simp only [encSList,List.map_cons,List.map_nil]
 unfold sizSList at hx hy
 have hm:maxLen=9223372036854775807:=rfl
 refine Ctr.bd mixed func317 rfl ?_
 refine evl ?_
 refine ck e86 (c86 x.Slots y.Slots (by omega) (by omega)) rfl ?_
 refine evl ?_
 constructor <;> intro h
 ·refine Fin.nt results317 [] ?_ ?_ ?_ <;> try trivial
  (refine rsl ?_;try exact .intro)
  simp_all [SList.eq_iff]
 have eSlots:=h;clear h
 refine Fin.nt results317 [] ?_ ?_ ?_ <;> try trivial
 (refine rsl ?_;try exact .intro)
 simp_all [SList.eq_iff]
theorem c286 (l:List SList) (hl:l.length <= maxLen) (hk:∀ y ∈ l,y.lok) (left:Int) (h0:0 <= left) (h1:left <= 1048576):Ctr prog 286 [.one (.dat (.sl 1 (l.map encSList))),.one (.dat (.int .i64 left))] [] (.one (.dat (.int .i64 (szL left (sizSListS l))))) []:=by
 have hw:=szL_wrap h0 h1 hl
 unfold sizSListS
 refine Ctr.bd mixed func286 rfl ?_
 refine sv0 ?_
 constructor <;> intro h
 ·refine Fin.nt results286 [] ?_ ?_ ?_ <;> try trivial
  (refine rsl ?_;try exact .intro)
  exact szL_bad (left:=left) (a:=l.length) (by rw [szL_raw];exact h) (by omega)
 have a0:decide (szL left l.length < 0)=false:=by rw [szL_raw];exact h
 have e0:left - (l.length:Int)=szL left (l.length + ((l.take 0).map sizSList).sum):=by
  have:=(szL_le h1 a0).2.1;simp;exact this.symm
 rw [e0]
 refine LoopK_intro (fun n s=>∃ i:Nat,i <= l.length /\ n=l.length - i /\ decide (szL left (l.length + ((l.take i).map sizSList).sum) < 0)=false /\ s=mkSt [(5,.one (.dat (.int .i64 i))),(1,.one (.dat (.int .i64 (szL left (l.length + ((l.take i).map sizSList).sum))))),(0,.one (.dat (.sl 1 (l.map encSList))))] []) l.length _
  (Ent.wk []) ⟨0,by omega,by omega,by simpa using a0,rfl⟩ ?_
 rintro n s ⟨i,hi,rfl,ht,rfl⟩ K hK
 rcases Nat.lt_or_ge i l.length with hlt | hge
 ·have hdi:decide ((i:Int) < l.length)=true:=by simpa using hlt
  have hwi:=wrap_succ hlt hl
  have hs:=sum_take_succ sizSList hlt
  have hs2:=sum_take_le sizSList l (i + 1)
  obtain ⟨_,_,g,u⟩:=szL_le h1 ht
  simp (maxSteps:=2000000) only [go_sem,seval,hdi,hwi,getD_map hlt,encSList]
  refine ⟨⟨by omega,by omega⟩,hlt,?_⟩
  refine CallK_pure e313 (c313 l[i] (hk _ (List.getElem_mem hlt)) _ g u) rfl ?_
  refine sv5 ?_
  rw [Nat.add_assoc,<- hs]
  constructor <;> intro h
  ·apply hK
   refine evl ?_
   refine Fin.nt results286 [] ?_ ?_ ?_ <;> try trivial
   (refine rsl ?_;try exact .intro)
   exact szL_bad h (by omega)
  ·apply hK
   exact ⟨l.length - (i + 1),_,by omega,Ent.wk [],i + 1,by omega,rfl,h,rfl⟩
 ·have hge':i=l.length:=by omega
  subst hge'
  have hdi:decide ((l.length:Int) < l.length)=false:=by simp
  refine sv4 ?_
  apply hK
  refine evl ?_
  refine Fin.nt results286 [] ?_ ?_ ?_ <;> try trivial
  all_goals try ((refine rsl ?_;try exact .intro))
  all_goals simp
theorem c288 (l:List SList) (h:sizSListS l <= 1048576):Ctr prog 288 [.one (.dat (.sl 1 (l.map encSList)))] [] (.one (.own 0)) [.vec 1 true (l.map encSList)]:=by
 have hl:l.length <= 1048576:=by unfold sizSListS at h;omega
 refine Ctr.bd mixed func288 rfl ?_
 refine evl ?_
 refine ⟨by omega,?_⟩
 refine LoopK_intro (fun n s=>∃ i:Nat,i <= l.length /\ n=l.length - i /\ s=mkSt [(4,.one (.dat (.int .i64 i))),(3,.one (.own 0)),(0,.one (.dat (.sl 1 (l.map encSList))))]
   [.vec 1 true ((l.take i).map encSList ++ List.replicate (l.length - i) [.sl 1 []])]) l.length _
  (Ent.wk [0]) ⟨0,by omega,by omega,rfl⟩ ?_
 rintro n s ⟨i,hi,rfl,rfl⟩ K hK
 rcases Nat.lt_or_ge i l.length with hlt | hge
 ·have hdi:decide ((i:Int) < l.length)=true:=by simpa using hlt
  simp (maxSteps:=2000000) only [go_sem,seval,hdi,getD_map hlt,encSList,D.flat,wrap_succ hlt (le20 hl)]
  first | refine ⟨⟨by omega,by omega⟩,hlt,?_⟩ | refine ⟨by omega,hlt,?_⟩
  refine CallK_pure e314 (c314 l[i] (by have:=sum_get sizSList hlt;unfold sizSListS at h;omega)) rfl ?_
  simp (maxSteps:=2000000) only [go_sem,seval,encSList,D.flat,wrap_succ hlt (le20 hl)]
  repeat' ((with_reducible show _ /\ _);apply And.intro)
  all_goals first
   | (apply hK
      refine ⟨l.length - (i + 1),_,by omega,Ent.weak (ids:=[0]) (by simp) rfl (by simp) ?_ ?_ ?_,i + 1,by omega,rfl,rfl⟩
      ·simp only [objsLe,St.obj,find,AObj.renF,if_true,Option.getD_some,List.getD_cons_zero,and_true]
       rw [<- take_set encSList l _ hlt]
       exact ⟨by simp,Or.inr rfl⟩
      ·simp [objsLe,envLe,find,St.obj,AObj.renF,AV.renF,AV.renF1,Leaf.renF,LowAll,AV.Low,AV.Low1,Leaf.Low,AObj.Low,Ptr.renF,Ptr.Low]
      ·simp [objsLe,envLe,find,St.obj,AObj.renF,AV.renF,AV.renF1,Leaf.renF,LowAll,AV.Low,AV.Low1,Leaf.Low,AObj.Low,Ptr.renF,Ptr.Low])
   | omega
   | decide
   | (simp;done)
   | (simp;omega)
   | trivial
 ·have hge':i=l.length:=by omega
  subst hge'
  have hdi:decide ((l.length:Int) < l.length)=false:=by simp
  refine sv4 ?_
  apply hK
  refine evl ?_
  refine Fin.nt results288 [0] ?_ ?_ ?_ <;> try trivial
  all_goals simp [objsLe,St.obj,find,AObj.renF]
theorem c300 (l l':List SList) (h0:sizSListS l <= 1048576) (h0':sizSListS l' <= 1048576):Ctr prog 300 [.one (.dat (.sl 1 (l.map encSList))),.one (.dat (.sl 1 (l'.map encSList)))] [] (.one (.dat (.bool (decide (l=l'))))) []:=by
 have hl:l.length <= maxLen:=(lokSListS (by omega)).1
 have hl':l'.length <= maxLen:=(lokSListS (by omega)).1
 refine Ctr.bd mixed func300 rfl ?_
 refine evl ?_
 constructor <;> intro h
 ·have hne:l.length ≠ l'.length:=by simp at h;omega
  refine Fin.nt results300 [] ?_ ?_ ?_ <;> try trivial
  (refine rsl ?_;try exact .intro)
  symm;rw [decide_eq_false_iff_not]
  intro e;exact hne (by rw [e])
 have hlen:l.length=l'.length:=by simp at h;omega
 refine LoopK_intro (fun n s=>∃ i:Nat,i <= l.length /\ n=l.length - i /\ l.take i=l'.take i /\ s=mkSt [(5,.one (.dat (.int .i64 i))),(1,.one (.dat (.sl 1 (l'.map encSList)))),(0,.one (.dat (.sl 1 (l.map encSList))))] []) l.length _
  (Ent.wk []) ⟨0,by omega,by omega,rfl,rfl⟩ ?_
 rintro n s ⟨i,hi,rfl,ht,rfl⟩ K hK
 rcases Nat.lt_or_ge i l.length with hlt | hge
 ·have hdi:decide ((i:Int) < l.length)=true:=by simpa using hlt
  have hlt':i < l'.length:=by omega
  simp (maxSteps:=2000000) only [go_sem,seval,hdi,wrap_succ hlt hl,getD_map hlt,getD_map hlt',encSList]
  refine ⟨⟨by omega,by omega⟩,hlt,⟨by omega,by omega⟩,hlt',?_⟩
  first
   | refine CCallK_intro e317 (fun _=>⟨trivial,c317 l[i] l'[i] (by have:=sum_get sizSList hlt;unfold sizSListS at h0;omega) (by have:=sum_get sizSList hlt';unfold sizSListS at h0';omega)⟩) rfl rfl ?_
   | refine Or.inl (CCallK_intro e317 (fun _=>⟨trivial,c317 l[i] l'[i] (by have:=sum_get sizSList hlt;unfold sizSListS at h0;omega) (by have:=sum_get sizSList hlt';unfold sizSListS at h0';omega)⟩) rfl rfl ?_)
  refine sv1 ?_
  constructor <;> intro h
  ·apply hK
   refine evl ?_
   refine Fin.nt results300 [] ?_ ?_ ?_ <;> try trivial
   (refine rsl ?_;try exact .intro)
   symm;rw [decide_eq_false_iff_not]
   rintro rfl;simp at h
  ·apply hK
   have he:l[i]=l'[i]:=by simpa using h
   exact ⟨l.length - (i + 1),_,by omega,Ent.wk [],i + 1,by omega,rfl,by rw [List.take_succ_eq_append_getElem hlt,List.take_succ_eq_append_getElem hlt',ht,he],rfl⟩
 ·have hge':i=l.length:=by omega
  subst hge'
  have hdi:decide ((l.length:Int) < l.length)=false:=by simp
  refine sv4 ?_
  apply hK
  refine evl ?_
  refine Fin.nt results300 [] ?_ ?_ ?_ <;> try trivial
  (refine rsl ?_;try exact .intro)
  symm;rw [decide_eq_true_iff]
  rw [List.take_of_length_le (Nat.le_refl _),List.take_of_length_le (by omega)] at ht
  exact ht
structure Lists where
 Global:List SList
 Own:List SList
 deriving DecidableEq
def encLists (x:Lists):List D:=[.sl 1 (x.Global.map encSList),.sl 1 (x.Own.map encSList)]
def Lists.wf (x:Lists):Prop:=(∀ y ∈ x.Global,y.wf) /\ (∀ y ∈ x.Own,y.wf) /\ True
theorem Lists.eq_iff (x y:Lists):x=y ↔ x.Global=y.Global /\ x.Own=y.Own:=by cases x;cases y;simp
def Lists.lok (x:Lists):Prop:=x.Global.length <= maxLen /\ (∀ y ∈ x.Global,y.lok) /\ x.Own.length <= maxLen /\ (∀ y ∈ x.Own,y.lok) /\ True
def sizLists (x:Lists):Nat:=sizSListS x.Global + sizSListS x.Own
theorem decLists (n:Nat) (ds:List D) (h:WT prog n 66 ds):∃ x:Lists,ds=encLists x /\ x.wf /\ x.lok:=by
 cases n with
 | zero=>exact h.elim
 | succ n =>
  unfold WT at h
  rw [underlying66] at h
  simp only [List.toList_toArray,List.map_cons,List.map_nil,WTs] at h
  obtain ⟨_,_,rfl,h0,⟨_,_,rfl,h1,rfl⟩⟩:=h
  obtain ⟨x0,rfl,c0,w0⟩:=decSl (enc:=encSList) (q:=fun x=>x.wf /\ x.lok) underlying64 tc_311 decSList h0
  obtain ⟨x1,rfl,c1,w1⟩:=decSl (enc:=encSList) (q:=fun x=>x.wf /\ x.lok) underlying64 tc_311 decSList h1
  exact ⟨⟨x0,x1⟩,rfl,⟨fun y hy=>(w0 y hy).1,fun y hy=>(w1 y hy).1,trivial⟩,⟨c0,fun y hy=>(w0 y hy).2,c1,fun y hy=>(w1 y hy).2,trivial⟩⟩
theorem Lists.lok_of {x:Lists} (h:sizLists x <= 16777216):x.lok:=by
 have hm:maxLen=9223372036854775807:=rfl
 unfold sizLists at h
 unfold sizSListS at h
 exact ⟨by omega,fun y hy=>SList.lok_of (by have:=sum_mem sizSList hy;omega),by omega,fun y hy=>SList.lok_of (by have:=sum_mem sizSList hy;omega),trivial⟩
theorem c215 (x:Lists) (hk:x.lok) (left:Int) (h0:0 <= left) (h1:left <= 1048576):Ctr prog 215 [.agg ((encLists x).map .dat),.one (.dat (.int .i64 left))] [] (.one (.dat (.int .i64 (szL left (sizLists x))))) []:=by
 simp only [encLists,List.map_cons,List.map_nil]
 unfold sizLists
 refine Ctr.bd mixed func215 rfl ?_
 refine evl ?_
 obtain ⟨kGlobal,qGlobal,kOwn,qOwn,_⟩:=hk
 refine CallK_pure e286 (c286 x.Global kGlobal qGlobal left h0 h1) rfl ?_
 refine evl ?_
 constructor <;> intro h
 ·refine Fin.nt results215 [] ?_ ?_ ?_ <;> try trivial
  (refine rsl ?_;try exact .intro)
  try simp only [List.length_map] at h
  exact szL_bad (h) (by omega)
 try simp only [List.length_map] at h
 have a0:decide (szL left (sizSListS x.Global) < 0)=false:=h
 obtain ⟨_,_,g0,u0⟩:=szL_le h1 a0
 try simp only [List.length_map]
 refine CallK_pure e286 (c286 x.Own kOwn qOwn (szL left (sizSListS x.Global)) g0 u0) rfl ?_
 refine evl ?_
 constructor <;> intro h
 ·refine Fin.nt results215 [] ?_ ?_ ?_ <;> try trivial
  (refine rsl ?_;try exact .intro)
  try simp only [List.length_map] at h
  exact szL_bad (szL_at h0 a0 ▸ h) (by omega)
 try simp only [List.length_map] at h
 have a1:decide (szL left (sizSListS x.Global + sizSListS x.Own) < 0)=false:=szL_at h0 a0 ▸ h
 refine Fin.nt results215 [] ?_ ?_ ?_ <;> try trivial
 all_goals try ((refine rsl ?_;try exact .intro))
 all_goals try simp only [List.length_map]
 all_goals try exact szL_at h0 a0
theorem c227 (x:Lists) (h:sizLists x <= 1048576):Ctr prog 227 [.agg ((encLists x).map .dat)] [] (.agg [.own 0,.own 1]) [.vec 1 true (x.Global.map encSList),.vec 1 true (x.Own.map encSList)]:=by
 simp only [encLists,List.map_cons,List.map_nil]
 unfold sizLists at h
 refine Ctr.bd mixed func227 rfl ?_
 refine evl ?_
 refine CallK_pure e288 (c288 x.Global (by omega)) rfl ?_
 refine evl ?_
 refine CallK_pure e288 (c288 x.Own (by omega)) rfl ?_
 refine evl ?_
 first | ((refine Fin.nt results227 [3,4] ?_ ?_ ?_ <;> try trivial) <;> (first | rfl | exact entd);done) | ((refine Fin.nt results227 [2,3] ?_ ?_ ?_ <;> try trivial) <;> (first | rfl | exact entd);done) | ((refine Fin.nt results227 [1,2] ?_ ?_ ?_ <;> try trivial) <;> (first | rfl | exact entd);done) | ((refine Fin.nt results227 [0,1] ?_ ?_ ?_ <;> try trivial) <;> (first | rfl | exact entd);done) | ((refine Fin.nt results227 [4,5] ?_ ?_ ?_ <;> try trivial) <;> (first | rfl | exact entd);done) | ((refine Fin.nt results227 [5,6] ?_ ?_ ?_ <;> try trivial) <;> (first | rfl | exact entd);done)
theorem c253 (x y:Lists) (hx:sizLists x <= 1048576) (hy:sizLists y <= 1048576):Ctr prog 253 [.agg ((encLists x).map .dat),.agg ((encLists y).map .dat)] [] (.one (.dat (.bool (decide (x=y))))) []:=by
 simp only [encLists,List.map_cons,List.map_nil]
 unfold sizLists at hx hy
 have hm:maxLen=9223372036854775807:=rfl
 refine Ctr.bd mixed func253 rfl ?_
 refine evl ?_
 refine ck e300 (c300 x.Global y.Global (by omega) (by omega)) rfl ?_
 refine evl ?_
 constructor <;> intro h
 ·refine Fin.nt results253 [] ?_ ?_ ?_ <;> try trivial
  (refine rsl ?_;try exact .intro)
  simp_all [Lists.eq_iff]
 have eGlobal:=h;clear h
 refine ck e300 (c300 x.Own y.Own (by omega) (by omega)) rfl ?_
 refine evl ?_
 constructor <;> intro h
 ·refine Fin.nt results253 [] ?_ ?_ ?_ <;> try trivial
  (refine rsl ?_;try exact .intro)
  simp_all [Lists.eq_iff]
 have eOwn:=h;clear h
 refine Fin.nt results253 [] ?_ ?_ ?_ <;> try trivial
 (refine rsl ?_;try exact .intro)
 simp_all [Lists.eq_iff]
structure Mem where
 Heap:Heap
 Lists:Lists
 deriving DecidableEq
def encMem (x:Mem):List D:=[.sl 1 (x.Heap.Bytes.map encI),.sl 1 (x.Heap.Class.map encI),.sl 1 (x.Lists.Global.map encSList),.sl 1 (x.Lists.Own.map encSList)]
def Mem.wf (x:Mem):Prop:=x.Heap.wf /\ x.Lists.wf /\ True
theorem Mem.eq_iff (x y:Mem):x=y ↔ x.Heap=y.Heap /\ x.Lists=y.Lists:=by cases x;cases y;simp
def Mem.lok (x:Mem):Prop:=x.Heap.lok /\ x.Lists.lok /\ True
def sizMem (x:Mem):Nat:=sizHeap x.Heap + sizLists x.Lists
theorem decMem (n:Nat) (ds:List D) (h:WT prog n 68 ds):∃ x:Mem,ds=encMem x /\ x.wf /\ x.lok:=by
 cases n with
 | zero=>exact h.elim
 | succ n =>
  unfold WT at h
  rw [underlying68] at h
  simp only [List.toList_toArray,List.map_cons,List.map_nil,WTs] at h
  obtain ⟨_,_,rfl,h0,⟨_,_,rfl,h1,rfl⟩⟩:=h
  obtain ⟨x0,rfl,w0,k0⟩:=decHeap _ _ h0
  obtain ⟨x1,rfl,w1,k1⟩:=decLists _ _ h1
  exact ⟨⟨x0,x1⟩,rfl,⟨w0,w1,trivial⟩,⟨k0,k1,trivial⟩⟩
theorem c140 (x:Mem) (hk:x.lok) (left:Int) (h0:0 <= left) (h1:left <= 1048576):Ctr prog 140 [.agg ((encMem x).map .dat),.one (.dat (.int .i64 left))] [] (.one (.dat (.int .i64 (szL left (sizMem x))))) []:=by
 simp only [encMem,List.map_cons,List.map_nil]
 unfold sizMem
 refine Ctr.bd mixed func140 rfl ?_
 refine evl ?_
 obtain ⟨kHeap,kLists,_⟩:=hk
 refine CallK_pure e214 (c214 x.Heap kHeap left h0 h1) rfl ?_
 refine evl ?_
 constructor <;> intro h
 ·refine Fin.nt results140 [] ?_ ?_ ?_ <;> try trivial
  (refine rsl ?_;try exact .intro)
  try simp only [List.length_map] at h
  exact szL_bad (h) (by omega)
 try simp only [List.length_map] at h
 have a0:decide (szL left (sizHeap x.Heap) < 0)=false:=h
 obtain ⟨_,_,g0,u0⟩:=szL_le h1 a0
 try simp only [List.length_map]
 refine CallK_pure e215 (c215 x.Lists kLists (szL left (sizHeap x.Heap)) g0 u0) rfl ?_
 refine evl ?_
 constructor <;> intro h
 ·refine Fin.nt results140 [] ?_ ?_ ?_ <;> try trivial
  (refine rsl ?_;try exact .intro)
  try simp only [List.length_map] at h
  exact szL_bad (szL_at h0 a0 ▸ h) (by omega)
 try simp only [List.length_map] at h
 have a1:decide (szL left (sizHeap x.Heap + sizLists x.Lists) < 0)=false:=szL_at h0 a0 ▸ h
 refine Fin.nt results140 [] ?_ ?_ ?_ <;> try trivial
 all_goals try ((refine rsl ?_;try exact .intro))
 all_goals try simp only [List.length_map]
 all_goals try exact szL_at h0 a0
theorem c150 (x:Mem) (h:sizMem x <= 1048576):Ctr prog 150 [.agg ((encMem x).map .dat)] [] (.agg [.own 0,.own 1,.own 2,.own 3]) [.vec 1 true (x.Heap.Bytes.map encI),.vec 1 true (x.Heap.Class.map encI),.vec 1 true (x.Lists.Global.map encSList),.vec 1 true (x.Lists.Own.map encSList)]:=by
 simp only [encMem,List.map_cons,List.map_nil]
 unfold sizMem at h
 refine Ctr.bd mixed func150 rfl ?_
 refine evl ?_
 refine CallK_pure e226 (c226 x.Heap (by omega)) rfl ?_
 refine evl ?_
 refine CallK_pure e227 (c227 x.Lists (by omega)) rfl ?_
 refine evl ?_
 first | ((refine Fin.nt results150 [3,4,5,6] ?_ ?_ ?_ <;> try trivial) <;> (first | rfl | exact entd);done) | ((refine Fin.nt results150 [2,3,4,5] ?_ ?_ ?_ <;> try trivial) <;> (first | rfl | exact entd);done) | ((refine Fin.nt results150 [1,2,3,4] ?_ ?_ ?_ <;> try trivial) <;> (first | rfl | exact entd);done) | ((refine Fin.nt results150 [0,1,2,3] ?_ ?_ ?_ <;> try trivial) <;> (first | rfl | exact entd);done) | ((refine Fin.nt results150 [4,5,6,7] ?_ ?_ ?_ <;> try trivial) <;> (first | rfl | exact entd);done) | ((refine Fin.nt results150 [5,6,7,8] ?_ ?_ ?_ <;> try trivial) <;> (first | rfl | exact entd);done)
theorem c172 (x y:Mem) (hx:sizMem x <= 1048576) (hy:sizMem y <= 1048576):Ctr prog 172 [.agg ((encMem x).map .dat),.agg ((encMem y).map .dat)] [] (.one (.dat (.bool (decide (x=y))))) []:=by
 simp only [encMem,List.map_cons,List.map_nil]
 unfold sizMem at hx hy
 have hm:maxLen=9223372036854775807:=rfl
 refine Ctr.bd mixed func172 rfl ?_
 refine evl ?_
 refine ck e252 (c252 x.Heap y.Heap (by omega) (by omega)) rfl ?_
 refine evl ?_
 constructor <;> intro h
 ·refine Fin.nt results172 [] ?_ ?_ ?_ <;> try trivial
  (refine rsl ?_;try exact .intro)
  simp_all [Mem.eq_iff]
 have eHeap:=h;clear h
 refine ck e253 (c253 x.Lists y.Lists (by omega) (by omega)) rfl ?_
 refine evl ?_
 constructor <;> intro h
 ·refine Fin.nt results172 [] ?_ ?_ ?_ <;> try trivial
  (refine rsl ?_;try exact .intro)
  simp_all [Mem.eq_iff]
 have eLists:=h;clear h
 refine Fin.nt results172 [] ?_ ?_ ?_ <;> try trivial
 (refine rsl ?_;try exact .intro)
 simp_all [Mem.eq_iff]
def Pin.lok (x:Pin):Prop:=True
theorem decPin (n:Nat) (ds:List D) (h:WT prog n 291 ds):∃ x:Pin,ds=encPin x /\ x.wf /\ x.lok:=by
 cases n with
 | zero=>exact h.elim
 | succ n =>
  unfold WT at h
  rw [underlying291] at h
  simp only [List.toList_toArray,List.map_cons,List.map_nil,WTs] at h
  obtain ⟨_,_,rfl,h0,⟨_,_,rfl,h1,⟨_,_,rfl,h2,⟨_,_,rfl,h3,rfl⟩⟩⟩⟩:=h
  obtain ⟨x0,rfl⟩:=decBool underlying4 h0
  obtain ⟨x1,rfl,w1⟩:=decInt underlying3 h1
  obtain ⟨x2,rfl⟩:=decBool underlying4 h2
  obtain ⟨x3,rfl,w3⟩:=decInt underlying3 h3
  exact ⟨⟨x0,x1,x2,x3⟩,rfl,⟨w1,w3,trivial⟩,trivial⟩
structure Clock where
 Epoch:Int
 Pins:List Pin
 deriving DecidableEq
def encClock (x:Clock):List D:=[.int .i64 x.Epoch,.sl 4 (x.Pins.map encPin)]
def Clock.wf (x:Clock):Prop:=(Lit.int .i64 x.Epoch).wf=true /\ (∀ y ∈ x.Pins,y.wf) /\ True
theorem Clock.eq_iff (x y:Clock):x=y ↔ x.Epoch=y.Epoch /\ x.Pins=y.Pins:=by cases x;cases y;simp
def Clock.lok (x:Clock):Prop:=x.Pins.length <= maxLen /\ True
def sizClock (x:Clock):Nat:=x.Pins.length
theorem decClock (n:Nat) (ds:List D) (h:WT prog n 71 ds):∃ x:Clock,ds=encClock x /\ x.wf /\ x.lok:=by
 cases n with
 | zero=>exact h.elim
 | succ n =>
  unfold WT at h
  rw [underlying71] at h
  simp only [List.toList_toArray,List.map_cons,List.map_nil,WTs] at h
  obtain ⟨_,_,rfl,h0,⟨_,_,rfl,h1,rfl⟩⟩:=h
  obtain ⟨x0,rfl,w0⟩:=decInt underlying3 h0
  obtain ⟨x1,rfl,c1,w1⟩:=decSl (enc:=encPin) (q:=fun x=>x.wf /\ x.lok) underlying69 tc_291 decPin h1
  exact ⟨⟨x0,x1⟩,rfl,⟨w0,fun y hy=>(w1 y hy).1,trivial⟩,⟨c1,trivial⟩⟩
theorem c141 (x:Clock) (hk:x.lok) (left:Int) (h0:0 <= left) (h1:left <= 1048576):Ctr prog 141 [.agg ((encClock x).map .dat),.one (.dat (.int .i64 left))] [] (.one (.dat (.int .i64 (szL left (sizClock x))))) []:=by
 simp only [encClock,List.map_cons,List.map_nil]
 unfold sizClock
 refine Ctr.bd mixed func141 rfl ?_
 refine evl ?_
 obtain ⟨kPins,_⟩:=hk
 refine CallK_pure e216 (c216 (x.Pins.map encPin) left h0 h1 (by simpa using kPins)) rfl ?_
 refine evl ?_
 constructor <;> intro h
 ·refine Fin.nt results141 [] ?_ ?_ ?_ <;> try trivial
  (refine rsl ?_;try exact .intro)
  try simp only [List.length_map] at h
  exact szL_bad (h) (by omega)
 try simp only [List.length_map] at h
 have a0:decide (szL left (x.Pins.length) < 0)=false:=h
 refine Fin.nt results141 [] ?_ ?_ ?_ <;> try trivial
 all_goals try ((refine rsl ?_;try exact .intro))
 all_goals try simp only [List.length_map]
theorem c151 (x:Clock) (h:sizClock x <= 1048576):Ctr prog 151 [.agg ((encClock x).map .dat)] [] (.agg [.dat (.int .i64 x.Epoch),.own 0]) [.vec 4 true (x.Pins.map encPin)]:=by
 simp only [encClock,List.map_cons,List.map_nil]
 unfold sizClock at h
 refine Ctr.bd mixed func151 rfl ?_
 refine evl ?_
 refine CallK_pure e228 (c228 x.Pins (by omega)) rfl ?_
 refine evl ?_
 first | ((refine Fin.nt results151 [3] ?_ ?_ ?_ <;> try trivial) <;> (first | rfl | exact entd);done) | ((refine Fin.nt results151 [2] ?_ ?_ ?_ <;> try trivial) <;> (first | rfl | exact entd);done) | ((refine Fin.nt results151 [1] ?_ ?_ ?_ <;> try trivial) <;> (first | rfl | exact entd);done) | ((refine Fin.nt results151 [0] ?_ ?_ ?_ <;> try trivial) <;> (first | rfl | exact entd);done) | ((refine Fin.nt results151 [4] ?_ ?_ ?_ <;> try trivial) <;> (first | rfl | exact entd);done) | ((refine Fin.nt results151 [5] ?_ ?_ ?_ <;> try trivial) <;> (first | rfl | exact entd);done)
theorem c173 (x y:Clock) (hx:sizClock x <= 1048576) (hy:sizClock y <= 1048576):Ctr prog 173 [.agg ((encClock x).map .dat),.agg ((encClock y).map .dat)] [] (.one (.dat (.bool (decide (x=y))))) []:=by
 simp only [encClock,List.map_cons,List.map_nil]
 unfold sizClock at hx hy
 have hm:maxLen=9223372036854775807:=rfl
 refine Ctr.bd mixed func173 rfl ?_
 refine evl ?_
 constructor <;> intro h
 ·refine Fin.nt results173 [] ?_ ?_ ?_ <;> try trivial
  (refine rsl ?_;try exact .intro)
  simp_all [Clock.eq_iff]
 have eEpoch:=h;clear h
 refine ck e254 (c254 x.Pins y.Pins (by omega) (by omega)) rfl ?_
 refine evl ?_
 constructor <;> intro h
 ·refine Fin.nt results173 [] ?_ ?_ ?_ <;> try trivial
  (refine rsl ?_;try exact .intro)
  simp_all [Clock.eq_iff]
 have ePins:=h;clear h
 refine Fin.nt results173 [] ?_ ?_ ?_ <;> try trivial
 (refine rsl ?_;try exact .intro)
 simp_all [Clock.eq_iff]
def LRow.lok (x:LRow):Prop:=True
theorem decLRow (n:Nat) (ds:List D) (h:WT prog n 314 ds):∃ x:LRow,ds=encLRow x /\ x.wf /\ x.lok:=by
 cases n with
 | zero=>exact h.elim
 | succ n =>
  unfold WT at h
  rw [underlying314] at h
  simp only [List.toList_toArray,List.map_cons,List.map_nil,WTs] at h
  obtain ⟨_,_,rfl,h0,⟨_,_,rfl,h1,rfl⟩⟩:=h
  obtain ⟨x0,rfl,w0⟩:=decInt underlying3 h0
  obtain ⟨x1,rfl,w1⟩:=decInt underlying3 h1
  exact ⟨⟨x0,x1⟩,rfl,⟨w0,w1,trivial⟩,trivial⟩
structure LList where
 Rows:List LRow
 deriving DecidableEq
def encLList (x:LList):List D:=[.sl 2 (x.Rows.map encLRow)]
def LList.wf (x:LList):Prop:=(∀ y ∈ x.Rows,y.wf) /\ True
theorem LList.eq_iff (x y:LList):x=y ↔ x.Rows=y.Rows:=by cases x;cases y;simp
def LList.lok (x:LList):Prop:=x.Rows.length <= maxLen /\ True
def sizLList (x:LList):Nat:=x.Rows.length
def sizLListS (l:List LList):Nat:=l.length + (l.map sizLList).sum
theorem decLList (n:Nat) (ds:List D) (h:WT prog n 232 ds):∃ x:LList,ds=encLList x /\ x.wf /\ x.lok:=by
 cases n with
 | zero=>exact h.elim
 | succ n =>
  unfold WT at h
  rw [underlying232] at h
  simp only [List.toList_toArray,List.map_cons,List.map_nil,WTs] at h
  obtain ⟨_,_,rfl,h0,rfl⟩:=h
  obtain ⟨x0,rfl,c0,w0⟩:=decSl (enc:=encLRow) (q:=fun x=>x.wf /\ x.lok) underlying230 tc_314 decLRow h0
  exact ⟨⟨x0⟩,rfl,⟨fun y hy=>(w0 y hy).1,trivial⟩,⟨c0,trivial⟩⟩
theorem LList.lok_of {x:LList} (h:sizLList x <= 16777216):x.lok:=by
 have hm:maxLen=9223372036854775807:=rfl
 unfold sizLList at h
 exact ⟨by omega,trivial⟩
theorem lokLListS {l:List LList} (h:sizLListS l <= 16777216):l.length <= maxLen /\ ∀ y ∈ l,y.lok:=by
 have hm:maxLen=9223372036854775807:=rfl
 unfold sizLListS at h
 exact ⟨by omega,fun y hy=>LList.lok_of (by have:=sum_mem sizLList hy;omega)⟩
theorem c217 (x:LList) (hk:x.lok) (left:Int) (h0:0 <= left) (h1:left <= 1048576):Ctr prog 217 [.agg ((encLList x).map .dat),.one (.dat (.int .i64 left))] [] (.one (.dat (.int .i64 (szL left (sizLList x))))) []:=by
 simp only [encLList,List.map_cons,List.map_nil]
 unfold sizLList
 refine Ctr.bd mixed func217 rfl ?_
 refine evl ?_
 obtain ⟨kRows,_⟩:=hk
 refine CallK_pure e287 (c287 (x.Rows.map encLRow) left h0 h1 (by simpa using kRows)) rfl ?_
 refine evl ?_
 constructor <;> intro h
 ·refine Fin.nt results217 [] ?_ ?_ ?_ <;> try trivial
  (refine rsl ?_;try exact .intro)
  try simp only [List.length_map] at h
  exact szL_bad (h) (by omega)
 try simp only [List.length_map] at h
 have a0:decide (szL left (x.Rows.length) < 0)=false:=h
 refine Fin.nt results217 [] ?_ ?_ ?_ <;> try trivial
 all_goals try ((refine rsl ?_;try exact .intro))
 all_goals try simp only [List.length_map]
theorem c229 (x:LList) (h:sizLList x <= 1048576):Ctr prog 229 [.agg ((encLList x).map .dat)] [] (.agg [.own 0]) [.vec 2 true (x.Rows.map encLRow)]:=by
 simp only [encLList,List.map_cons,List.map_nil]
 unfold sizLList at h
 refine Ctr.bd mixed func229 rfl ?_
 refine evl ?_
 refine CallK_pure e290 (c290 x.Rows (by omega)) rfl ?_
 refine evl ?_
 first | ((refine Fin.nt results229 [3] ?_ ?_ ?_ <;> try trivial) <;> (first | rfl | exact entd);done) | ((refine Fin.nt results229 [2] ?_ ?_ ?_ <;> try trivial) <;> (first | rfl | exact entd);done) | ((refine Fin.nt results229 [1] ?_ ?_ ?_ <;> try trivial) <;> (first | rfl | exact entd);done) | ((refine Fin.nt results229 [0] ?_ ?_ ?_ <;> try trivial) <;> (first | rfl | exact entd);done) | ((refine Fin.nt results229 [4] ?_ ?_ ?_ <;> try trivial) <;> (first | rfl | exact entd);done) | ((refine Fin.nt results229 [5] ?_ ?_ ?_ <;> try trivial) <;> (first | rfl | exact entd);done)
theorem c255 (x y:LList) (hx:sizLList x <= 1048576) (hy:sizLList y <= 1048576):Ctr prog 255 [.agg ((encLList x).map .dat),.agg ((encLList y).map .dat)] [] (.one (.dat (.bool (decide (x=y))))) []:=by
 simp only [encLList,List.map_cons,List.map_nil]
 unfold sizLList at hx hy
 have hm:maxLen=9223372036854775807:=rfl
 refine Ctr.bd mixed func255 rfl ?_
 refine evl ?_
 refine ck e302 (c302 x.Rows y.Rows (by omega) (by omega)) rfl ?_
 refine evl ?_
 constructor <;> intro h
 ·refine Fin.nt results255 [] ?_ ?_ ?_ <;> try trivial
  (refine rsl ?_;try exact .intro)
  simp_all [LList.eq_iff]
 have eRows:=h;clear h
 refine Fin.nt results255 [] ?_ ?_ ?_ <;> try trivial
 (refine rsl ?_;try exact .intro)
 simp_all [LList.eq_iff]
theorem c142 (l:List LList) (hl:l.length <= maxLen) (hk:∀ y ∈ l,y.lok) (left:Int) (h0:0 <= left) (h1:left <= 1048576):Ctr prog 142 [.one (.dat (.sl 1 (l.map encLList))),.one (.dat (.int .i64 left))] [] (.one (.dat (.int .i64 (szL left (sizLListS l))))) []:=by
 have hw:=szL_wrap h0 h1 hl
 unfold sizLListS
 refine Ctr.bd mixed func142 rfl ?_
 refine sv0 ?_
 constructor <;> intro h
 ·refine Fin.nt results142 [] ?_ ?_ ?_ <;> try trivial
  (refine rsl ?_;try exact .intro)
  exact szL_bad (left:=left) (a:=l.length) (by rw [szL_raw];exact h) (by omega)
 have a0:decide (szL left l.length < 0)=false:=by rw [szL_raw];exact h
 have e0:left - (l.length:Int)=szL left (l.length + ((l.take 0).map sizLList).sum):=by
  have:=(szL_le h1 a0).2.1;simp;exact this.symm
 rw [e0]
 refine LoopK_intro (fun n s=>∃ i:Nat,i <= l.length /\ n=l.length - i /\ decide (szL left (l.length + ((l.take i).map sizLList).sum) < 0)=false /\ s=mkSt [(5,.one (.dat (.int .i64 i))),(1,.one (.dat (.int .i64 (szL left (l.length + ((l.take i).map sizLList).sum))))),(0,.one (.dat (.sl 1 (l.map encLList))))] []) l.length _
  (Ent.wk []) ⟨0,by omega,by omega,by simpa using a0,rfl⟩ ?_
 rintro n s ⟨i,hi,rfl,ht,rfl⟩ K hK
 rcases Nat.lt_or_ge i l.length with hlt | hge
 ·have hdi:decide ((i:Int) < l.length)=true:=by simpa using hlt
  have hwi:=wrap_succ hlt hl
  have hs:=sum_take_succ sizLList hlt
  have hs2:=sum_take_le sizLList l (i + 1)
  obtain ⟨_,_,g,u⟩:=szL_le h1 ht
  simp (maxSteps:=2000000) only [go_sem,seval,hdi,hwi,getD_map hlt,encLList]
  refine ⟨⟨by omega,by omega⟩,hlt,?_⟩
  refine CallK_pure e217 (c217 l[i] (hk _ (List.getElem_mem hlt)) _ g u) rfl ?_
  refine sv5 ?_
  rw [Nat.add_assoc,<- hs]
  constructor <;> intro h
  ·apply hK
   refine evl ?_
   refine Fin.nt results142 [] ?_ ?_ ?_ <;> try trivial
   (refine rsl ?_;try exact .intro)
   exact szL_bad h (by omega)
  ·apply hK
   exact ⟨l.length - (i + 1),_,by omega,Ent.wk [],i + 1,by omega,rfl,h,rfl⟩
 ·have hge':i=l.length:=by omega
  subst hge'
  have hdi:decide ((l.length:Int) < l.length)=false:=by simp
  refine sv4 ?_
  apply hK
  refine evl ?_
  refine Fin.nt results142 [] ?_ ?_ ?_ <;> try trivial
  all_goals try ((refine rsl ?_;try exact .intro))
  all_goals simp
theorem c152 (l:List LList) (h:sizLListS l <= 1048576):Ctr prog 152 [.one (.dat (.sl 1 (l.map encLList)))] [] (.one (.own 0)) [.vec 1 true (l.map encLList)]:=by
 have hl:l.length <= 1048576:=by unfold sizLListS at h;omega
 refine Ctr.bd mixed func152 rfl ?_
 refine evl ?_
 refine ⟨by omega,?_⟩
 refine LoopK_intro (fun n s=>∃ i:Nat,i <= l.length /\ n=l.length - i /\ s=mkSt [(4,.one (.dat (.int .i64 i))),(3,.one (.own 0)),(0,.one (.dat (.sl 1 (l.map encLList))))]
   [.vec 1 true ((l.take i).map encLList ++ List.replicate (l.length - i) [.sl 2 []])]) l.length _
  (Ent.wk [0]) ⟨0,by omega,by omega,rfl⟩ ?_
 rintro n s ⟨i,hi,rfl,rfl⟩ K hK
 rcases Nat.lt_or_ge i l.length with hlt | hge
 ·have hdi:decide ((i:Int) < l.length)=true:=by simpa using hlt
  simp (maxSteps:=2000000) only [go_sem,seval,hdi,getD_map hlt,encLList,D.flat,wrap_succ hlt (le20 hl)]
  first | refine ⟨⟨by omega,by omega⟩,hlt,?_⟩ | refine ⟨by omega,hlt,?_⟩
  refine CallK_pure e229 (c229 l[i] (by have:=sum_get sizLList hlt;unfold sizLListS at h;omega)) rfl ?_
  simp (maxSteps:=2000000) only [go_sem,seval,encLList,D.flat,wrap_succ hlt (le20 hl)]
  repeat' ((with_reducible show _ /\ _);apply And.intro)
  all_goals first
   | (apply hK
      refine ⟨l.length - (i + 1),_,by omega,Ent.weak (ids:=[0]) (by simp) rfl (by simp) ?_ ?_ ?_,i + 1,by omega,rfl,rfl⟩
      ·simp only [objsLe,St.obj,find,AObj.renF,if_true,Option.getD_some,List.getD_cons_zero,and_true]
       rw [<- take_set encLList l _ hlt]
       exact ⟨by simp,Or.inr rfl⟩
      ·simp [objsLe,envLe,find,St.obj,AObj.renF,AV.renF,AV.renF1,Leaf.renF,LowAll,AV.Low,AV.Low1,Leaf.Low,AObj.Low,Ptr.renF,Ptr.Low]
      ·simp [objsLe,envLe,find,St.obj,AObj.renF,AV.renF,AV.renF1,Leaf.renF,LowAll,AV.Low,AV.Low1,Leaf.Low,AObj.Low,Ptr.renF,Ptr.Low])
   | omega
   | decide
   | (simp;done)
   | (simp;omega)
   | trivial
 ·have hge':i=l.length:=by omega
  subst hge'
  have hdi:decide ((l.length:Int) < l.length)=false:=by simp
  refine sv4 ?_
  apply hK
  refine evl ?_
  refine Fin.nt results152 [0] ?_ ?_ ?_ <;> try trivial
  all_goals simp [objsLe,St.obj,find,AObj.renF]
theorem c174 (l l':List LList) (h0:sizLListS l <= 1048576) (h0':sizLListS l' <= 1048576):Ctr prog 174 [.one (.dat (.sl 1 (l.map encLList))),.one (.dat (.sl 1 (l'.map encLList)))] [] (.one (.dat (.bool (decide (l=l'))))) []:=by
 have hl:l.length <= maxLen:=(lokLListS (by omega)).1
 have hl':l'.length <= maxLen:=(lokLListS (by omega)).1
 refine Ctr.bd mixed func174 rfl ?_
 refine evl ?_
 constructor <;> intro h
 ·have hne:l.length ≠ l'.length:=by simp at h;omega
  refine Fin.nt results174 [] ?_ ?_ ?_ <;> try trivial
  (refine rsl ?_;try exact .intro)
  symm;rw [decide_eq_false_iff_not]
  intro e;exact hne (by rw [e])
 have hlen:l.length=l'.length:=by simp at h;omega
 refine LoopK_intro (fun n s=>∃ i:Nat,i <= l.length /\ n=l.length - i /\ l.take i=l'.take i /\ s=mkSt [(5,.one (.dat (.int .i64 i))),(1,.one (.dat (.sl 1 (l'.map encLList)))),(0,.one (.dat (.sl 1 (l.map encLList))))] []) l.length _
  (Ent.wk []) ⟨0,by omega,by omega,rfl,rfl⟩ ?_
 rintro n s ⟨i,hi,rfl,ht,rfl⟩ K hK
 rcases Nat.lt_or_ge i l.length with hlt | hge
 ·have hdi:decide ((i:Int) < l.length)=true:=by simpa using hlt
  have hlt':i < l'.length:=by omega
  simp (maxSteps:=2000000) only [go_sem,seval,hdi,wrap_succ hlt hl,getD_map hlt,getD_map hlt',encLList]
  refine ⟨⟨by omega,by omega⟩,hlt,⟨by omega,by omega⟩,hlt',?_⟩
  first
   | refine CCallK_intro e255 (fun _=>⟨trivial,c255 l[i] l'[i] (by have:=sum_get sizLList hlt;unfold sizLListS at h0;omega) (by have:=sum_get sizLList hlt';unfold sizLListS at h0';omega)⟩) rfl rfl ?_
   | refine Or.inl (CCallK_intro e255 (fun _=>⟨trivial,c255 l[i] l'[i] (by have:=sum_get sizLList hlt;unfold sizLListS at h0;omega) (by have:=sum_get sizLList hlt';unfold sizLListS at h0';omega)⟩) rfl rfl ?_)
  refine sv1 ?_
  constructor <;> intro h
  ·apply hK
   refine evl ?_
   refine Fin.nt results174 [] ?_ ?_ ?_ <;> try trivial
   (refine rsl ?_;try exact .intro)
   symm;rw [decide_eq_false_iff_not]
   rintro rfl;simp at h
  ·apply hK
   have he:l[i]=l'[i]:=by simpa using h
   exact ⟨l.length - (i + 1),_,by omega,Ent.wk [],i + 1,by omega,rfl,by rw [List.take_succ_eq_append_getElem hlt,List.take_succ_eq_append_getElem hlt',ht,he],rfl⟩
 ·have hge':i=l.length:=by omega
  subst hge'
  have hdi:decide ((l.length:Int) < l.length)=false:=by simp
  refine sv4 ?_
  apply hK
  refine evl ?_
  refine Fin.nt results174 [] ?_ ?_ ?_ <;> try trivial
  (refine rsl ?_;try exact .intro)
  symm;rw [decide_eq_true_iff]
  rw [List.take_of_length_le (Nat.le_refl _),List.take_of_length_le (by omega)] at ht
  exact ht
structure Base where
 Mem:Mem
 Clock:Clock
 Limbo:List LList
 Haz:List Int
 deriving DecidableEq
def encBase (x:Base):List D:=[.sl 1 (x.Mem.Heap.Bytes.map encI),.sl 1 (x.Mem.Heap.Class.map encI),.sl 1 (x.Mem.Lists.Global.map encSList),.sl 1 (x.Mem.Lists.Own.map encSList),.int .i64 x.Clock.Epoch,.sl 4 (x.Clock.Pins.map encPin),.sl 1 (x.Limbo.map encLList),.sl 1 (x.Haz.map encI)]
def Base.wf (x:Base):Prop:=x.Mem.wf /\ x.Clock.wf /\ (∀ y ∈ x.Limbo,y.wf) /\ (∀ y ∈ x.Haz,(Lit.int .i64 y).wf=true) /\ True
theorem Base.eq_iff (x y:Base):x=y ↔ x.Mem=y.Mem /\ x.Clock=y.Clock /\ x.Limbo=y.Limbo /\ x.Haz=y.Haz:=by cases x;cases y;simp
def Base.lok (x:Base):Prop:=x.Mem.lok /\ x.Clock.lok /\ x.Limbo.length <= maxLen /\ (∀ y ∈ x.Limbo,y.lok) /\ x.Haz.length <= maxLen /\ True
def sizBase (x:Base):Nat:=sizMem x.Mem + sizClock x.Clock + sizLListS x.Limbo + x.Haz.length
theorem decBase (n:Nat) (ds:List D) (h:WT prog n 74 ds):∃ x:Base,ds=encBase x /\ x.wf /\ x.lok:=by
 cases n with
 | zero=>exact h.elim
 | succ n =>
  unfold WT at h
  rw [underlying74] at h
  simp only [List.toList_toArray,List.map_cons,List.map_nil,WTs] at h
  obtain ⟨_,_,rfl,h0,⟨_,_,rfl,h1,⟨_,_,rfl,h2,⟨_,_,rfl,h3,rfl⟩⟩⟩⟩:=h
  obtain ⟨x0,rfl,w0,k0⟩:=decMem _ _ h0
  obtain ⟨x1,rfl,w1,k1⟩:=decClock _ _ h1
  obtain ⟨x2,rfl,c2,w2⟩:=decSl (enc:=encLList) (q:=fun x=>x.wf /\ x.lok) underlying72 tc_232 decLList h2
  obtain ⟨x3,rfl,c3,w3⟩:=decSl (enc:=encI) (q:=fun x=>(Lit.int .i64 x).wf=true) underlying24 tc_3 (fun _ _ h=>decInt underlying3 h) h3
  exact ⟨⟨x0,x1,x2,x3⟩,rfl,⟨w0,w1,fun y hy=>(w2 y hy).1,w3,trivial⟩,⟨k0,k1,c2,fun y hy=>(w2 y hy).2,c3,trivial⟩⟩
theorem c68 (x:Base) (hk:x.lok) (left:Int) (h0:0 <= left) (h1:left <= 1048576):Ctr prog 68 [.agg ((encBase x).map .dat),.one (.dat (.int .i64 left))] [] (.one (.dat (.int .i64 (szL left (sizBase x))))) []:=by
 simp only [encBase,List.map_cons,List.map_nil]
 unfold sizBase
 refine Ctr.bd mixed func68 rfl ?_
 refine evl ?_
 obtain ⟨kMem,kClock,kLimbo,qLimbo,kHaz,_⟩:=hk
 refine CallK_pure e140 (c140 x.Mem kMem left h0 h1) rfl ?_
 refine evl ?_
 constructor <;> intro h
 ·refine Fin.nt results68 [] ?_ ?_ ?_ <;> try trivial
  (refine rsl ?_;try exact .intro)
  try simp only [List.length_map] at h
  exact szL_bad (h) (by omega)
 try simp only [List.length_map] at h
 have a0:decide (szL left (sizMem x.Mem) < 0)=false:=h
 obtain ⟨_,_,g0,u0⟩:=szL_le h1 a0
 try simp only [List.length_map]
 refine CallK_pure e141 (c141 x.Clock kClock (szL left (sizMem x.Mem)) g0 u0) rfl ?_
 refine evl ?_
 constructor <;> intro h
 ·refine Fin.nt results68 [] ?_ ?_ ?_ <;> try trivial
  (refine rsl ?_;try exact .intro)
  try simp only [List.length_map] at h
  exact szL_bad (szL_at h0 a0 ▸ h) (by omega)
 try simp only [List.length_map] at h
 have a1:decide (szL left (sizMem x.Mem + sizClock x.Clock) < 0)=false:=szL_at h0 a0 ▸ h
 obtain ⟨_,_,g1,u1⟩:=szL_le h1 a1
 try simp only [List.length_map]
 rw [szL_at h0 a0]
 refine CallK_pure e142 (c142 x.Limbo kLimbo qLimbo (szL left (sizMem x.Mem + sizClock x.Clock)) g1 u1) rfl ?_
 refine evl ?_
 constructor <;> intro h
 ·refine Fin.nt results68 [] ?_ ?_ ?_ <;> try trivial
  (refine rsl ?_;try exact .intro)
  try simp only [List.length_map] at h
  exact szL_bad (szL_at h0 a1 ▸ h) (by omega)
 try simp only [List.length_map] at h
 have a2:decide (szL left (sizMem x.Mem + sizClock x.Clock + sizLListS x.Limbo) < 0)=false:=szL_at h0 a1 ▸ h
 obtain ⟨_,_,g2,u2⟩:=szL_le h1 a2
 try simp only [List.length_map]
 rw [szL_at h0 a1]
 refine CallK_pure e69 (c69 (x.Haz.map encI) (szL left (sizMem x.Mem + sizClock x.Clock + sizLListS x.Limbo)) g2 u2 (by simpa using kHaz)) rfl ?_
 refine evl ?_
 constructor <;> intro h
 ·refine Fin.nt results68 [] ?_ ?_ ?_ <;> try trivial
  (refine rsl ?_;try exact .intro)
  try simp only [List.length_map] at h
  exact szL_bad (szL_at h0 a2 ▸ h) (by omega)
 try simp only [List.length_map] at h
 have a3:decide (szL left (sizMem x.Mem + sizClock x.Clock + sizLListS x.Limbo + x.Haz.length) < 0)=false:=szL_at h0 a2 ▸ h
 refine Fin.nt results68 [] ?_ ?_ ?_ <;> try trivial
 all_goals try ((refine rsl ?_;try exact .intro))
 all_goals try simp only [List.length_map]
 all_goals try exact szL_at h0 a2
theorem c76 (x:Base) (h:sizBase x <= 1048576):Ctr prog 76 [.agg ((encBase x).map .dat)] [] (.agg [.own 0,.own 1,.own 2,.own 3,.dat (.int .i64 x.Clock.Epoch),.own 4,.own 5,.own 6]) [.vec 1 true (x.Mem.Heap.Bytes.map encI),.vec 1 true (x.Mem.Heap.Class.map encI),.vec 1 true (x.Mem.Lists.Global.map encSList),.vec 1 true (x.Mem.Lists.Own.map encSList),.vec 4 true (x.Clock.Pins.map encPin),.vec 1 true (x.Limbo.map encLList),.vec 1 true (x.Haz.map encI)]:=by
 simp only [encBase,List.map_cons,List.map_nil]
 unfold sizBase at h
 refine Ctr.bd mixed func76 rfl ?_
 refine evl ?_
 refine CallK_pure e150 (c150 x.Mem (by omega)) rfl ?_
 refine evl ?_
 refine CallK_pure e151 (c151 x.Clock (by omega)) rfl ?_
 refine evl ?_
 refine CallK_pure e152 (c152 x.Limbo (by omega)) rfl ?_
 refine evl ?_
 refine CallK_pure e77 (c77 x.Haz (by omega)) rfl ?_
 refine evl ?_
 first | ((refine Fin.nt results76 [3,4,5,6,7,8,9] ?_ ?_ ?_ <;> try trivial) <;> (first | rfl | exact entd);done) | ((refine Fin.nt results76 [2,3,4,5,6,7,8] ?_ ?_ ?_ <;> try trivial) <;> (first | rfl | exact entd);done) | ((refine Fin.nt results76 [1,2,3,4,5,6,7] ?_ ?_ ?_ <;> try trivial) <;> (first | rfl | exact entd);done) | ((refine Fin.nt results76 [0,1,2,3,4,5,6] ?_ ?_ ?_ <;> try trivial) <;> (first | rfl | exact entd);done) | ((refine Fin.nt results76 [4,5,6,7,8,9,10] ?_ ?_ ?_ <;> try trivial) <;> (first | rfl | exact entd);done) | ((refine Fin.nt results76 [5,6,7,8,9,10,11] ?_ ?_ ?_ <;> try trivial) <;> (first | rfl | exact entd);done)
theorem c85 (x y:Base) (hx:sizBase x <= 1048576) (hy:sizBase y <= 1048576):Ctr prog 85 [.agg ((encBase x).map .dat),.agg ((encBase y).map .dat)] [] (.one (.dat (.bool (decide (x=y))))) []:=by
 simp only [encBase,List.map_cons,List.map_nil]
 unfold sizBase at hx hy
 have hm:maxLen=9223372036854775807:=rfl
 refine Ctr.bd mixed func85 rfl ?_
 refine evl ?_
 refine ck e172 (c172 x.Mem y.Mem (by omega) (by omega)) rfl ?_
 refine evl ?_
 constructor <;> intro h
 ·refine Fin.nt results85 [] ?_ ?_ ?_ <;> try trivial
  (refine rsl ?_;try exact .intro)
  simp_all [Base.eq_iff]
 have eMem:=h;clear h
 refine ck e173 (c173 x.Clock y.Clock (by omega) (by omega)) rfl ?_
 refine evl ?_
 constructor <;> intro h
 ·refine Fin.nt results85 [] ?_ ?_ ?_ <;> try trivial
  (refine rsl ?_;try exact .intro)
  simp_all [Base.eq_iff]
 have eClock:=h;clear h
 refine ck e174 (c174 x.Limbo y.Limbo (by omega) (by omega)) rfl ?_
 refine evl ?_
 constructor <;> intro h
 ·refine Fin.nt results85 [] ?_ ?_ ?_ <;> try trivial
  (refine rsl ?_;try exact .intro)
  simp_all [Base.eq_iff]
 have eLimbo:=h;clear h
 refine ck e86 (c86 x.Haz y.Haz (by omega) (by omega)) rfl ?_
 refine evl ?_
 constructor <;> intro h
 ·refine Fin.nt results85 [] ?_ ?_ ?_ <;> try trivial
  (refine rsl ?_;try exact .intro)
  simp_all [Base.eq_iff]
 have eHaz:=h;clear h
 refine Fin.nt results85 [] ?_ ?_ ?_ <;> try trivial
 (refine rsl ?_;try exact .intro)
 simp_all [Base.eq_iff]
structure Sub where
 Kind:Int
 A:Int
 Pc:Int
 E:Int
 Row:Int
 B:Int
 H:Int
 Out:Int
 Code:Int
 Done:Bool
 deriving DecidableEq
def encSub (x:Sub):List D:=[.int .i64 x.Kind,.int .i64 x.A,.int .i64 x.Pc,.int .i64 x.E,.int .i64 x.Row,.int .i64 x.B,.int .i64 x.H,.int .i64 x.Out,.int .i64 x.Code,.bool x.Done]
def Sub.wf (x:Sub):Prop:=(Lit.int .i64 x.Kind).wf=true /\ (Lit.int .i64 x.A).wf=true /\ (Lit.int .i64 x.Pc).wf=true /\ (Lit.int .i64 x.E).wf=true /\ (Lit.int .i64 x.Row).wf=true /\ (Lit.int .i64 x.B).wf=true /\ (Lit.int .i64 x.H).wf=true /\ (Lit.int .i64 x.Out).wf=true /\ (Lit.int .i64 x.Code).wf=true /\ True
theorem Sub.eq_iff (x y:Sub):x=y ↔ x.Kind=y.Kind /\ x.A=y.A /\ x.Pc=y.Pc /\ x.E=y.E /\ x.Row=y.Row /\ x.B=y.B /\ x.H=y.H /\ x.Out=y.Out /\ x.Code=y.Code /\ x.Done=y.Done:=by cases x;cases y;simp
def Sub.lok (x:Sub):Prop:=True
def zeroSub:Sub:=⟨0,0,0,0,0,0,0,0,0,false⟩
theorem decSub (n:Nat) (ds:List D) (h:WT prog n 187 ds):∃ x:Sub,ds=encSub x /\ x.wf /\ x.lok:=by
 cases n with
 | zero=>exact h.elim
 | succ n =>
  unfold WT at h
  rw [underlying187] at h
  simp only [List.toList_toArray,List.map_cons,List.map_nil,WTs] at h
  obtain ⟨_,_,rfl,h0,⟨_,_,rfl,h1,⟨_,_,rfl,h2,⟨_,_,rfl,h3,⟨_,_,rfl,h4,⟨_,_,rfl,h5,⟨_,_,rfl,h6,⟨_,_,rfl,h7,⟨_,_,rfl,h8,⟨_,_,rfl,h9,rfl⟩⟩⟩⟩⟩⟩⟩⟩⟩⟩:=h
  obtain ⟨x0,rfl,w0⟩:=decInt underlying3 h0
  obtain ⟨x1,rfl,w1⟩:=decInt underlying3 h1
  obtain ⟨x2,rfl,w2⟩:=decInt underlying3 h2
  obtain ⟨x3,rfl,w3⟩:=decInt underlying3 h3
  obtain ⟨x4,rfl,w4⟩:=decInt underlying3 h4
  obtain ⟨x5,rfl,w5⟩:=decInt underlying3 h5
  obtain ⟨x6,rfl,w6⟩:=decInt underlying3 h6
  obtain ⟨x7,rfl,w7⟩:=decInt underlying3 h7
  obtain ⟨x8,rfl,w8⟩:=decInt underlying3 h8
  obtain ⟨x9,rfl⟩:=decBool underlying4 h9
  exact ⟨⟨x0,x1,x2,x3,x4,x5,x6,x7,x8,x9⟩,rfl,⟨w0,w1,w2,w3,w4,w5,w6,w7,w8,trivial⟩,trivial⟩
theorem c231 (x:Sub):Ctr prog 231 [.agg ((encSub x).map .dat)] [] (.agg [.dat (.int .i64 x.Kind),.dat (.int .i64 x.A),.dat (.int .i64 x.Pc),.dat (.int .i64 x.E),.dat (.int .i64 x.Row),.dat (.int .i64 x.B),.dat (.int .i64 x.H),.dat (.int .i64 x.Out),.dat (.int .i64 x.Code),.dat (.bool x.Done)]) []:=by
 simp only [encSub,List.map_cons,List.map_nil]
 refine Ctr.bd mixed func231 rfl ?_
 refine evl ?_
 first | ((refine Fin.nt results231 [] ?_ ?_ ?_ <;> try trivial) <;> (first | rfl | exact entd);done) | ((refine Fin.nt results231 [] ?_ ?_ ?_ <;> try trivial) <;> (first | rfl | exact entd);done) | ((refine Fin.nt results231 [] ?_ ?_ ?_ <;> try trivial) <;> (first | rfl | exact entd);done) | ((refine Fin.nt results231 [] ?_ ?_ ?_ <;> try trivial) <;> (first | rfl | exact entd);done) | ((refine Fin.nt results231 [] ?_ ?_ ?_ <;> try trivial) <;> (first | rfl | exact entd);done) | ((refine Fin.nt results231 [] ?_ ?_ ?_ <;> try trivial) <;> (first | rfl | exact entd);done)
theorem c257 (x y:Sub):Ctr prog 257 [.agg ((encSub x).map .dat),.agg ((encSub y).map .dat)] [] (.one (.dat (.bool (decide (x=y))))) []:=by
 simp only [encSub,List.map_cons,List.map_nil]
 refine Ctr.bd mixed func257 rfl ?_
 refine evl ?_
 constructor <;> intro h
 ·refine Fin.nt results257 [] ?_ ?_ ?_ <;> try trivial
  (refine rsl ?_;try exact .intro)
  simp_all [Sub.eq_iff]
 have eKind:=h;clear h
 constructor <;> intro h
 ·refine Fin.nt results257 [] ?_ ?_ ?_ <;> try trivial
  (refine rsl ?_;try exact .intro)
  simp_all [Sub.eq_iff]
 have eA:=h;clear h
 constructor <;> intro h
 ·refine Fin.nt results257 [] ?_ ?_ ?_ <;> try trivial
  (refine rsl ?_;try exact .intro)
  simp_all [Sub.eq_iff]
 have ePc:=h;clear h
 constructor <;> intro h
 ·refine Fin.nt results257 [] ?_ ?_ ?_ <;> try trivial
  (refine rsl ?_;try exact .intro)
  simp_all [Sub.eq_iff]
 have eE:=h;clear h
 constructor <;> intro h
 ·refine Fin.nt results257 [] ?_ ?_ ?_ <;> try trivial
  (refine rsl ?_;try exact .intro)
  simp_all [Sub.eq_iff]
 have eRow:=h;clear h
 constructor <;> intro h
 ·refine Fin.nt results257 [] ?_ ?_ ?_ <;> try trivial
  (refine rsl ?_;try exact .intro)
  simp_all [Sub.eq_iff]
 have eB:=h;clear h
 constructor <;> intro h
 ·refine Fin.nt results257 [] ?_ ?_ ?_ <;> try trivial
  (refine rsl ?_;try exact .intro)
  simp_all [Sub.eq_iff]
 have eH:=h;clear h
 constructor <;> intro h
 ·refine Fin.nt results257 [] ?_ ?_ ?_ <;> try trivial
  (refine rsl ?_;try exact .intro)
  simp_all [Sub.eq_iff]
 have eOut:=h;clear h
 constructor <;> intro h
 ·refine Fin.nt results257 [] ?_ ?_ ?_ <;> try trivial
  (refine rsl ?_;try exact .intro)
  simp_all [Sub.eq_iff]
 have eCode:=h;clear h
 constructor <;> intro h
 ·refine Fin.nt results257 [] ?_ ?_ ?_ <;> try trivial
  (refine rsl ?_;try exact .intro)
  simp_all [Sub.eq_iff]
 have eDone:=h;clear h
 refine Fin.nt results257 [] ?_ ?_ ?_ <;> try trivial
 (refine rsl ?_;try exact .intro)
 simp_all [Sub.eq_iff]
def Op.lok (x:Op):Prop:=True
def zeroOp:Op:=⟨0,0,0,0⟩
theorem decOp (n:Nat) (ds:List D) (h:WT prog n 186 ds):∃ x:Op,ds=encOp x /\ x.wf /\ x.lok:=by
 cases n with
 | zero=>exact h.elim
 | succ n =>
  unfold WT at h
  rw [underlying186] at h
  simp only [List.toList_toArray,List.map_cons,List.map_nil,WTs] at h
  obtain ⟨_,_,rfl,h0,⟨_,_,rfl,h1,⟨_,_,rfl,h2,⟨_,_,rfl,h3,rfl⟩⟩⟩⟩:=h
  obtain ⟨x0,rfl,w0⟩:=decInt underlying3 h0
  obtain ⟨x1,rfl,w1⟩:=decInt underlying3 h1
  obtain ⟨x2,rfl,w2⟩:=decInt underlying3 h2
  obtain ⟨x3,rfl,w3⟩:=decInt underlying3 h3
  exact ⟨⟨x0,x1,x2,x3⟩,rfl,⟨w0,w1,w2,w3,trivial⟩,trivial⟩
structure Queue where
 Ops:List Op
 deriving DecidableEq
def encQueue (x:Queue):List D:=[.sl 4 (x.Ops.map encOp)]
def Queue.wf (x:Queue):Prop:=(∀ y ∈ x.Ops,y.wf) /\ True
theorem Queue.eq_iff (x y:Queue):x=y ↔ x.Ops=y.Ops:=by cases x;cases y;simp
def Queue.lok (x:Queue):Prop:=x.Ops.length <= maxLen /\ True
def sizQueue (x:Queue):Nat:=x.Ops.length
def sizQueueS (l:List Queue):Nat:=l.length + (l.map sizQueue).sum
theorem decQueue (n:Nat) (ds:List D) (h:WT prog n 172 ds):∃ x:Queue,ds=encQueue x /\ x.wf /\ x.lok:=by
 cases n with
 | zero=>exact h.elim
 | succ n =>
  unfold WT at h
  rw [underlying172] at h
  simp only [List.toList_toArray,List.map_cons,List.map_nil,WTs] at h
  obtain ⟨_,_,rfl,h0,rfl⟩:=h
  obtain ⟨x0,rfl,c0,w0⟩:=decSl (enc:=encOp) (q:=fun x=>x.wf /\ x.lok) underlying170 tc_186 decOp h0
  exact ⟨⟨x0⟩,rfl,⟨fun y hy=>(w0 y hy).1,trivial⟩,⟨c0,trivial⟩⟩
theorem Queue.lok_of {x:Queue} (h:sizQueue x <= 16777216):x.lok:=by
 have hm:maxLen=9223372036854775807:=rfl
 unfold sizQueue at h
 exact ⟨by omega,trivial⟩
theorem lokQueueS {l:List Queue} (h:sizQueueS l <= 16777216):l.length <= maxLen /\ ∀ y ∈ l,y.lok:=by
 have hm:maxLen=9223372036854775807:=rfl
 unfold sizQueueS at h
 exact ⟨by omega,fun y hy=>Queue.lok_of (by have:=sum_mem sizQueue hy;omega)⟩
theorem c143 (x:Queue) (hk:x.lok) (left:Int) (h0:0 <= left) (h1:left <= 1048576):Ctr prog 143 [.agg ((encQueue x).map .dat),.one (.dat (.int .i64 left))] [] (.one (.dat (.int .i64 (szL left (sizQueue x))))) []:=by
 simp only [encQueue,List.map_cons,List.map_nil]
 unfold sizQueue
 refine Ctr.bd mixed func143 rfl ?_
 refine evl ?_
 obtain ⟨kOps,_⟩:=hk
 refine CallK_pure e218 (c218 (x.Ops.map encOp) left h0 h1 (by simpa using kOps)) rfl ?_
 refine evl ?_
 constructor <;> intro h
 ·refine Fin.nt results143 [] ?_ ?_ ?_ <;> try trivial
  (refine rsl ?_;try exact .intro)
  try simp only [List.length_map] at h
  exact szL_bad (h) (by omega)
 try simp only [List.length_map] at h
 have a0:decide (szL left (x.Ops.length) < 0)=false:=h
 refine Fin.nt results143 [] ?_ ?_ ?_ <;> try trivial
 all_goals try ((refine rsl ?_;try exact .intro))
 all_goals try simp only [List.length_map]
theorem c154 (x:Queue) (h:sizQueue x <= 1048576):Ctr prog 154 [.agg ((encQueue x).map .dat)] [] (.agg [.own 0]) [.vec 4 true (x.Ops.map encOp)]:=by
 simp only [encQueue,List.map_cons,List.map_nil]
 unfold sizQueue at h
 refine Ctr.bd mixed func154 rfl ?_
 refine evl ?_
 refine CallK_pure e232 (c232 x.Ops (by omega)) rfl ?_
 refine evl ?_
 first | ((refine Fin.nt results154 [3] ?_ ?_ ?_ <;> try trivial) <;> (first | rfl | exact entd);done) | ((refine Fin.nt results154 [2] ?_ ?_ ?_ <;> try trivial) <;> (first | rfl | exact entd);done) | ((refine Fin.nt results154 [1] ?_ ?_ ?_ <;> try trivial) <;> (first | rfl | exact entd);done) | ((refine Fin.nt results154 [0] ?_ ?_ ?_ <;> try trivial) <;> (first | rfl | exact entd);done) | ((refine Fin.nt results154 [4] ?_ ?_ ?_ <;> try trivial) <;> (first | rfl | exact entd);done) | ((refine Fin.nt results154 [5] ?_ ?_ ?_ <;> try trivial) <;> (first | rfl | exact entd);done)
theorem c176 (x y:Queue) (hx:sizQueue x <= 1048576) (hy:sizQueue y <= 1048576):Ctr prog 176 [.agg ((encQueue x).map .dat),.agg ((encQueue y).map .dat)] [] (.one (.dat (.bool (decide (x=y))))) []:=by
 simp only [encQueue,List.map_cons,List.map_nil]
 unfold sizQueue at hx hy
 have hm:maxLen=9223372036854775807:=rfl
 refine Ctr.bd mixed func176 rfl ?_
 refine evl ?_
 refine ck e258 (c258 x.Ops y.Ops (by omega) (by omega)) rfl ?_
 refine evl ?_
 constructor <;> intro h
 ·refine Fin.nt results176 [] ?_ ?_ ?_ <;> try trivial
  (refine rsl ?_;try exact .intro)
  simp_all [Queue.eq_iff]
 have eOps:=h;clear h
 refine Fin.nt results176 [] ?_ ?_ ?_ <;> try trivial
 (refine rsl ?_;try exact .intro)
 simp_all [Queue.eq_iff]
theorem c71 (l:List Queue) (hl:l.length <= maxLen) (hk:∀ y ∈ l,y.lok) (left:Int) (h0:0 <= left) (h1:left <= 1048576):Ctr prog 71 [.one (.dat (.sl 1 (l.map encQueue))),.one (.dat (.int .i64 left))] [] (.one (.dat (.int .i64 (szL left (sizQueueS l))))) []:=by
 have hw:=szL_wrap h0 h1 hl
 unfold sizQueueS
 refine Ctr.bd mixed func71 rfl ?_
 refine sv0 ?_
 constructor <;> intro h
 ·refine Fin.nt results71 [] ?_ ?_ ?_ <;> try trivial
  (refine rsl ?_;try exact .intro)
  exact szL_bad (left:=left) (a:=l.length) (by rw [szL_raw];exact h) (by omega)
 have a0:decide (szL left l.length < 0)=false:=by rw [szL_raw];exact h
 have e0:left - (l.length:Int)=szL left (l.length + ((l.take 0).map sizQueue).sum):=by
  have:=(szL_le h1 a0).2.1;simp;exact this.symm
 rw [e0]
 refine LoopK_intro (fun n s=>∃ i:Nat,i <= l.length /\ n=l.length - i /\ decide (szL left (l.length + ((l.take i).map sizQueue).sum) < 0)=false /\ s=mkSt [(5,.one (.dat (.int .i64 i))),(1,.one (.dat (.int .i64 (szL left (l.length + ((l.take i).map sizQueue).sum))))),(0,.one (.dat (.sl 1 (l.map encQueue))))] []) l.length _
  (Ent.wk []) ⟨0,by omega,by omega,by simpa using a0,rfl⟩ ?_
 rintro n s ⟨i,hi,rfl,ht,rfl⟩ K hK
 rcases Nat.lt_or_ge i l.length with hlt | hge
 ·have hdi:decide ((i:Int) < l.length)=true:=by simpa using hlt
  have hwi:=wrap_succ hlt hl
  have hs:=sum_take_succ sizQueue hlt
  have hs2:=sum_take_le sizQueue l (i + 1)
  obtain ⟨_,_,g,u⟩:=szL_le h1 ht
  simp (maxSteps:=2000000) only [go_sem,seval,hdi,hwi,getD_map hlt,encQueue]
  refine ⟨⟨by omega,by omega⟩,hlt,?_⟩
  refine CallK_pure e143 (c143 l[i] (hk _ (List.getElem_mem hlt)) _ g u) rfl ?_
  refine sv5 ?_
  rw [Nat.add_assoc,<- hs]
  constructor <;> intro h
  ·apply hK
   refine evl ?_
   refine Fin.nt results71 [] ?_ ?_ ?_ <;> try trivial
   (refine rsl ?_;try exact .intro)
   exact szL_bad h (by omega)
  ·apply hK
   exact ⟨l.length - (i + 1),_,by omega,Ent.wk [],i + 1,by omega,rfl,h,rfl⟩
 ·have hge':i=l.length:=by omega
  subst hge'
  have hdi:decide ((l.length:Int) < l.length)=false:=by simp
  refine sv4 ?_
  apply hK
  refine evl ?_
  refine Fin.nt results71 [] ?_ ?_ ?_ <;> try trivial
  all_goals try ((refine rsl ?_;try exact .intro))
  all_goals simp
theorem c79 (l:List Queue) (h:sizQueueS l <= 1048576):Ctr prog 79 [.one (.dat (.sl 1 (l.map encQueue)))] [] (.one (.own 0)) [.vec 1 true (l.map encQueue)]:=by
 have hl:l.length <= 1048576:=by unfold sizQueueS at h;omega
 refine Ctr.bd mixed func79 rfl ?_
 refine evl ?_
 refine ⟨by omega,?_⟩
 refine LoopK_intro (fun n s=>∃ i:Nat,i <= l.length /\ n=l.length - i /\ s=mkSt [(4,.one (.dat (.int .i64 i))),(3,.one (.own 0)),(0,.one (.dat (.sl 1 (l.map encQueue))))]
   [.vec 1 true ((l.take i).map encQueue ++ List.replicate (l.length - i) [.sl 4 []])]) l.length _
  (Ent.wk [0]) ⟨0,by omega,by omega,rfl⟩ ?_
 rintro n s ⟨i,hi,rfl,rfl⟩ K hK
 rcases Nat.lt_or_ge i l.length with hlt | hge
 ·have hdi:decide ((i:Int) < l.length)=true:=by simpa using hlt
  simp (maxSteps:=2000000) only [go_sem,seval,hdi,getD_map hlt,encQueue,D.flat,wrap_succ hlt (le20 hl)]
  first | refine ⟨⟨by omega,by omega⟩,hlt,?_⟩ | refine ⟨by omega,hlt,?_⟩
  refine CallK_pure e154 (c154 l[i] (by have:=sum_get sizQueue hlt;unfold sizQueueS at h;omega)) rfl ?_
  simp (maxSteps:=2000000) only [go_sem,seval,encQueue,D.flat,wrap_succ hlt (le20 hl)]
  repeat' ((with_reducible show _ /\ _);apply And.intro)
  all_goals first
   | (apply hK
      refine ⟨l.length - (i + 1),_,by omega,Ent.weak (ids:=[0]) (by simp) rfl (by simp) ?_ ?_ ?_,i + 1,by omega,rfl,rfl⟩
      ·simp only [objsLe,St.obj,find,AObj.renF,if_true,Option.getD_some,List.getD_cons_zero,and_true]
       rw [<- take_set encQueue l _ hlt]
       exact ⟨by simp,Or.inr rfl⟩
      ·simp [objsLe,envLe,find,St.obj,AObj.renF,AV.renF,AV.renF1,Leaf.renF,LowAll,AV.Low,AV.Low1,Leaf.Low,AObj.Low,Ptr.renF,Ptr.Low]
      ·simp [objsLe,envLe,find,St.obj,AObj.renF,AV.renF,AV.renF1,Leaf.renF,LowAll,AV.Low,AV.Low1,Leaf.Low,AObj.Low,Ptr.renF,Ptr.Low])
   | omega
   | decide
   | (simp;done)
   | (simp;omega)
   | trivial
 ·have hge':i=l.length:=by omega
  subst hge'
  have hdi:decide ((l.length:Int) < l.length)=false:=by simp
  refine sv4 ?_
  apply hK
  refine evl ?_
  refine Fin.nt results79 [0] ?_ ?_ ?_ <;> try trivial
  all_goals simp [objsLe,St.obj,find,AObj.renF]
theorem c88 (l l':List Queue) (h0:sizQueueS l <= 1048576) (h0':sizQueueS l' <= 1048576):Ctr prog 88 [.one (.dat (.sl 1 (l.map encQueue))),.one (.dat (.sl 1 (l'.map encQueue)))] [] (.one (.dat (.bool (decide (l=l'))))) []:=by
 have hl:l.length <= maxLen:=(lokQueueS (by omega)).1
 have hl':l'.length <= maxLen:=(lokQueueS (by omega)).1
 refine Ctr.bd mixed func88 rfl ?_
 refine evl ?_
 constructor <;> intro h
 ·have hne:l.length ≠ l'.length:=by simp at h;omega
  refine Fin.nt results88 [] ?_ ?_ ?_ <;> try trivial
  (refine rsl ?_;try exact .intro)
  symm;rw [decide_eq_false_iff_not]
  intro e;exact hne (by rw [e])
 have hlen:l.length=l'.length:=by simp at h;omega
 refine LoopK_intro (fun n s=>∃ i:Nat,i <= l.length /\ n=l.length - i /\ l.take i=l'.take i /\ s=mkSt [(5,.one (.dat (.int .i64 i))),(1,.one (.dat (.sl 1 (l'.map encQueue)))),(0,.one (.dat (.sl 1 (l.map encQueue))))] []) l.length _
  (Ent.wk []) ⟨0,by omega,by omega,rfl,rfl⟩ ?_
 rintro n s ⟨i,hi,rfl,ht,rfl⟩ K hK
 rcases Nat.lt_or_ge i l.length with hlt | hge
 ·have hdi:decide ((i:Int) < l.length)=true:=by simpa using hlt
  have hlt':i < l'.length:=by omega
  simp (maxSteps:=2000000) only [go_sem,seval,hdi,wrap_succ hlt hl,getD_map hlt,getD_map hlt',encQueue]
  refine ⟨⟨by omega,by omega⟩,hlt,⟨by omega,by omega⟩,hlt',?_⟩
  first
   | refine CCallK_intro e176 (fun _=>⟨trivial,c176 l[i] l'[i] (by have:=sum_get sizQueue hlt;unfold sizQueueS at h0;omega) (by have:=sum_get sizQueue hlt';unfold sizQueueS at h0';omega)⟩) rfl rfl ?_
   | refine Or.inl (CCallK_intro e176 (fun _=>⟨trivial,c176 l[i] l'[i] (by have:=sum_get sizQueue hlt;unfold sizQueueS at h0;omega) (by have:=sum_get sizQueue hlt';unfold sizQueueS at h0';omega)⟩) rfl rfl ?_)
  refine sv1 ?_
  constructor <;> intro h
  ·apply hK
   refine evl ?_
   refine Fin.nt results88 [] ?_ ?_ ?_ <;> try trivial
   (refine rsl ?_;try exact .intro)
   symm;rw [decide_eq_false_iff_not]
   rintro rfl;simp at h
  ·apply hK
   have he:l[i]=l'[i]:=by simpa using h
   exact ⟨l.length - (i + 1),_,by omega,Ent.wk [],i + 1,by omega,rfl,by rw [List.take_succ_eq_append_getElem hlt,List.take_succ_eq_append_getElem hlt',ht,he],rfl⟩
 ·have hge':i=l.length:=by omega
  subst hge'
  have hdi:decide ((l.length:Int) < l.length)=false:=by simp
  refine sv4 ?_
  apply hK
  refine evl ?_
  refine Fin.nt results88 [] ?_ ?_ ?_ <;> try trivial
  (refine rsl ?_;try exact .intro)
  symm;rw [decide_eq_true_iff]
  rw [List.take_of_length_le (Nat.le_refl _),List.take_of_length_le (by omega)] at ht
  exact ht
structure Job where
 Busy:Bool
 Op:Op
 Serial:Int
 Pc:Int
 Sub:Sub
 H:Int
 Old:Int
 Val:Int
 Code:Int
 deriving DecidableEq
def encJob (x:Job):List D:=[.bool x.Busy,.int .i64 x.Op.Kind,.int .i64 x.Op.Cell,.int .i64 x.Op.Size,.int .i64 x.Op.Val,.int .i64 x.Serial,.int .i64 x.Pc,.int .i64 x.Sub.Kind,.int .i64 x.Sub.A,.int .i64 x.Sub.Pc,.int .i64 x.Sub.E,.int .i64 x.Sub.Row,.int .i64 x.Sub.B,.int .i64 x.Sub.H,.int .i64 x.Sub.Out,.int .i64 x.Sub.Code,.bool x.Sub.Done,.int .i64 x.H,.int .i64 x.Old,.int .i64 x.Val,.int .i64 x.Code]
def Job.wf (x:Job):Prop:=x.Op.wf /\ (Lit.int .i64 x.Serial).wf=true /\ (Lit.int .i64 x.Pc).wf=true /\ x.Sub.wf /\ (Lit.int .i64 x.H).wf=true /\ (Lit.int .i64 x.Old).wf=true /\ (Lit.int .i64 x.Val).wf=true /\ (Lit.int .i64 x.Code).wf=true /\ True
theorem Job.eq_iff (x y:Job):x=y ↔ x.Busy=y.Busy /\ x.Op=y.Op /\ x.Serial=y.Serial /\ x.Pc=y.Pc /\ x.Sub=y.Sub /\ x.H=y.H /\ x.Old=y.Old /\ x.Val=y.Val /\ x.Code=y.Code:=by cases x;cases y;simp
def Job.lok (x:Job):Prop:=True
def zeroJob:Job:=⟨false,zeroOp,0,0,zeroSub,0,0,0,0⟩
theorem decJob (n:Nat) (ds:List D) (h:WT prog n 189 ds):∃ x:Job,ds=encJob x /\ x.wf /\ x.lok:=by
 cases n with
 | zero=>exact h.elim
 | succ n =>
  unfold WT at h
  rw [underlying189] at h
  simp only [List.toList_toArray,List.map_cons,List.map_nil,WTs] at h
  obtain ⟨_,_,rfl,h0,⟨_,_,rfl,h1,⟨_,_,rfl,h2,⟨_,_,rfl,h3,⟨_,_,rfl,h4,⟨_,_,rfl,h5,⟨_,_,rfl,h6,⟨_,_,rfl,h7,⟨_,_,rfl,h8,rfl⟩⟩⟩⟩⟩⟩⟩⟩⟩:=h
  obtain ⟨x0,rfl⟩:=decBool underlying4 h0
  obtain ⟨x1,rfl,w1,k1⟩:=decOp _ _ h1
  obtain ⟨x2,rfl,w2⟩:=decInt underlying3 h2
  obtain ⟨x3,rfl,w3⟩:=decInt underlying3 h3
  obtain ⟨x4,rfl,w4,k4⟩:=decSub _ _ h4
  obtain ⟨x5,rfl,w5⟩:=decInt underlying3 h5
  obtain ⟨x6,rfl,w6⟩:=decInt underlying3 h6
  obtain ⟨x7,rfl,w7⟩:=decInt underlying3 h7
  obtain ⟨x8,rfl,w8⟩:=decInt underlying3 h8
  exact ⟨⟨x0,x1,x2,x3,x4,x5,x6,x7,x8⟩,rfl,⟨w1,w2,w3,w4,w5,w6,w7,w8,trivial⟩,trivial⟩
theorem c153 (x:Job):Ctr prog 153 [.agg ((encJob x).map .dat)] [] (.agg [.dat (.bool x.Busy),.dat (.int .i64 x.Op.Kind),.dat (.int .i64 x.Op.Cell),.dat (.int .i64 x.Op.Size),.dat (.int .i64 x.Op.Val),.dat (.int .i64 x.Serial),.dat (.int .i64 x.Pc),.dat (.int .i64 x.Sub.Kind),.dat (.int .i64 x.Sub.A),.dat (.int .i64 x.Sub.Pc),.dat (.int .i64 x.Sub.E),.dat (.int .i64 x.Sub.Row),.dat (.int .i64 x.Sub.B),.dat (.int .i64 x.Sub.H),.dat (.int .i64 x.Sub.Out),.dat (.int .i64 x.Sub.Code),.dat (.bool x.Sub.Done),.dat (.int .i64 x.H),.dat (.int .i64 x.Old),.dat (.int .i64 x.Val),.dat (.int .i64 x.Code)]) []:=by
 simp only [encJob,List.map_cons,List.map_nil]
 refine Ctr.bd mixed func153 rfl ?_
 refine evl ?_
 refine CallK_pure e230 (c230 x.Op) rfl ?_
 simp (maxSteps:=2000000) only [go_sem,seval,encOp]
 refine CallK_pure e231 (c231 x.Sub) rfl ?_
 simp (maxSteps:=2000000) only [go_sem,seval,encSub]
 first | ((refine Fin.nt results153 [] ?_ ?_ ?_ <;> try trivial) <;> (first | rfl | exact entd);done) | ((refine Fin.nt results153 [] ?_ ?_ ?_ <;> try trivial) <;> (first | rfl | exact entd);done) | ((refine Fin.nt results153 [] ?_ ?_ ?_ <;> try trivial) <;> (first | rfl | exact entd);done) | ((refine Fin.nt results153 [] ?_ ?_ ?_ <;> try trivial) <;> (first | rfl | exact entd);done) | ((refine Fin.nt results153 [] ?_ ?_ ?_ <;> try trivial) <;> (first | rfl | exact entd);done) | ((refine Fin.nt results153 [] ?_ ?_ ?_ <;> try trivial) <;> (first | rfl | exact entd);done)
theorem c175 (x y:Job):Ctr prog 175 [.agg ((encJob x).map .dat),.agg ((encJob y).map .dat)] [] (.one (.dat (.bool (decide (x=y))))) []:=by
 simp only [encJob,List.map_cons,List.map_nil]
 refine Ctr.bd mixed func175 rfl ?_
 refine evl ?_
 constructor <;> intro h
 ·refine Fin.nt results175 [] ?_ ?_ ?_ <;> try trivial
  (refine rsl ?_;try exact .intro)
  simp_all [Job.eq_iff]
 have eBusy:=h;clear h
 refine ck e256 (c256 x.Op y.Op) rfl ?_
 refine evl ?_
 constructor <;> intro h
 ·refine Fin.nt results175 [] ?_ ?_ ?_ <;> try trivial
  (refine rsl ?_;try exact .intro)
  simp_all [Job.eq_iff]
 have eOp:=h;clear h
 constructor <;> intro h
 ·refine Fin.nt results175 [] ?_ ?_ ?_ <;> try trivial
  (refine rsl ?_;try exact .intro)
  simp_all [Job.eq_iff]
 have eSerial:=h;clear h
 constructor <;> intro h
 ·refine Fin.nt results175 [] ?_ ?_ ?_ <;> try trivial
  (refine rsl ?_;try exact .intro)
  simp_all [Job.eq_iff]
 have ePc:=h;clear h
 refine ck e257 (c257 x.Sub y.Sub) rfl ?_
 refine evl ?_
 constructor <;> intro h
 ·refine Fin.nt results175 [] ?_ ?_ ?_ <;> try trivial
  (refine rsl ?_;try exact .intro)
  simp_all [Job.eq_iff]
 have eSub:=h;clear h
 constructor <;> intro h
 ·refine Fin.nt results175 [] ?_ ?_ ?_ <;> try trivial
  (refine rsl ?_;try exact .intro)
  simp_all [Job.eq_iff]
 have eH:=h;clear h
 constructor <;> intro h
 ·refine Fin.nt results175 [] ?_ ?_ ?_ <;> try trivial
  (refine rsl ?_;try exact .intro)
  simp_all [Job.eq_iff]
 have eOld:=h;clear h
 constructor <;> intro h
 ·refine Fin.nt results175 [] ?_ ?_ ?_ <;> try trivial
  (refine rsl ?_;try exact .intro)
  simp_all [Job.eq_iff]
 have eVal:=h;clear h
 constructor <;> intro h
 ·refine Fin.nt results175 [] ?_ ?_ ?_ <;> try trivial
  (refine rsl ?_;try exact .intro)
  simp_all [Job.eq_iff]
 have eCode:=h;clear h
 refine Fin.nt results175 [] ?_ ?_ ?_ <;> try trivial
 (refine rsl ?_;try exact .intro)
 simp_all [Job.eq_iff]
theorem c70 (rows:List (List D)) (left:Int) (h0:0 <= left) (h1:left <= 1048576) (hl:rows.length <= maxLen):Ctr prog 70 [.one (.dat (.sl 21 rows)),.one (.dat (.int .i64 left))] [] (.one (.dat (.int .i64 (szL left rows.length)))) []:=by
 have hw:=szL_wrap h0 h1 hl
 refine Ctr.bd mixed func70 rfl ?_
 refine sv0 ?_
 repeat' first
  | ((with_reducible show Abs.Fin _ _ _ _ _ _);refine Fin.nt results70 [] ?_ ?_ ?_ <;> try trivial)
  | with_reducible intro h
  | ((with_reducible show _ /\ _);apply And.intro)
 all_goals try ((refine rsl ?_;try exact .intro))
 all_goals simp_all [szL]
 all_goals omega
theorem c78 (l:List Job) (h:l.length <= 1048576):Ctr prog 78 [.one (.dat (.sl 21 (l.map encJob)))] [] (.one (.own 0)) [.vec 21 true (l.map encJob)]:=by
 have hl:l.length <= 1048576:=by omega
 refine Ctr.bd mixed func78 rfl ?_
 refine evl ?_
 refine ⟨by omega,?_⟩
 refine LoopK_intro (fun n s=>∃ i:Nat,i <= l.length /\ n=l.length - i /\ s=mkSt [(4,.one (.dat (.int .i64 i))),(3,.one (.own 0)),(0,.one (.dat (.sl 21 (l.map encJob))))]
   [.vec 21 true ((l.take i).map encJob ++ List.replicate (l.length - i) [.bool false,.int .i64 0,.int .i64 0,.int .i64 0,.int .i64 0,.int .i64 0,.int .i64 0,.int .i64 0,.int .i64 0,.int .i64 0,.int .i64 0,.int .i64 0,.int .i64 0,.int .i64 0,.int .i64 0,.int .i64 0,.bool false,.int .i64 0,.int .i64 0,.int .i64 0,.int .i64 0])]) l.length _
  (Ent.wk [0]) ⟨0,by omega,by omega,rfl⟩ ?_
 rintro n s ⟨i,hi,rfl,rfl⟩ K hK
 rcases Nat.lt_or_ge i l.length with hlt | hge
 ·have hdi:decide ((i:Int) < l.length)=true:=by simpa using hlt
  simp (maxSteps:=2000000) only [go_sem,seval,hdi,getD_map hlt,encJob,D.flat,wrap_succ hlt (le20 hl)]
  first | refine ⟨⟨by omega,by omega⟩,hlt,?_⟩ | refine ⟨by omega,hlt,?_⟩
  refine CallK_pure e153 (c153 l[i]) rfl ?_
  simp (maxSteps:=2000000) only [go_sem,seval,encJob,D.flat,wrap_succ hlt (le20 hl)]
  repeat' ((with_reducible show _ /\ _);apply And.intro)
  all_goals first
   | (apply hK
      refine ⟨l.length - (i + 1),_,by omega,Ent.weak (ids:=[0]) (by simp) rfl (by simp) ?_ ?_ ?_,i + 1,by omega,rfl,rfl⟩
      ·simp only [objsLe,St.obj,find,AObj.renF,if_true,Option.getD_some,List.getD_cons_zero,and_true]
       rw [<- take_set encJob l _ hlt]
       exact ⟨by simp,Or.inr rfl⟩
      ·simp [objsLe,envLe,find,St.obj,AObj.renF,AV.renF,AV.renF1,Leaf.renF,LowAll,AV.Low,AV.Low1,Leaf.Low,AObj.Low,Ptr.renF,Ptr.Low]
      ·simp [objsLe,envLe,find,St.obj,AObj.renF,AV.renF,AV.renF1,Leaf.renF,LowAll,AV.Low,AV.Low1,Leaf.Low,AObj.Low,Ptr.renF,Ptr.Low])
   | omega
   | decide
   | (simp;done)
   | (simp;omega)
   | trivial
 ·have hge':i=l.length:=by omega
  subst hge'
  have hdi:decide ((l.length:Int) < l.length)=false:=by simp
  refine sv4 ?_
  apply hK
  refine evl ?_
  refine Fin.nt results78 [0] ?_ ?_ ?_ <;> try trivial
  all_goals simp [objsLe,St.obj,find,AObj.renF]
theorem c87 (l l':List Job) (hl:l.length <= maxLen) (hl':l'.length <= maxLen):Ctr prog 87 [.one (.dat (.sl 21 (l.map encJob))),.one (.dat (.sl 21 (l'.map encJob)))] [] (.one (.dat (.bool (decide (l=l'))))) []:=by
 refine Ctr.bd mixed func87 rfl ?_
 refine evl ?_
 constructor <;> intro h
 ·have hne:l.length ≠ l'.length:=by simp at h;omega
  refine Fin.nt results87 [] ?_ ?_ ?_ <;> try trivial
  (refine rsl ?_;try exact .intro)
  symm;rw [decide_eq_false_iff_not]
  intro e;exact hne (by rw [e])
 have hlen:l.length=l'.length:=by simp at h;omega
 refine LoopK_intro (fun n s=>∃ i:Nat,i <= l.length /\ n=l.length - i /\ l.take i=l'.take i /\ s=mkSt [(5,.one (.dat (.int .i64 i))),(1,.one (.dat (.sl 21 (l'.map encJob)))),(0,.one (.dat (.sl 21 (l.map encJob))))] []) l.length _
  (Ent.wk []) ⟨0,by omega,by omega,rfl,rfl⟩ ?_
 rintro n s ⟨i,hi,rfl,ht,rfl⟩ K hK
 rcases Nat.lt_or_ge i l.length with hlt | hge
 ·have hdi:decide ((i:Int) < l.length)=true:=by simpa using hlt
  have hlt':i < l'.length:=by omega
  simp (maxSteps:=2000000) only [go_sem,seval,hdi,wrap_succ hlt hl,getD_map hlt,getD_map hlt',encJob]
  refine ⟨⟨by omega,by omega⟩,hlt,⟨by omega,by omega⟩,hlt',?_⟩
  first
   | refine CCallK_intro e175 (fun _=>⟨trivial,c175 l[i] l'[i]⟩) rfl rfl ?_
   | refine Or.inl (CCallK_intro e175 (fun _=>⟨trivial,c175 l[i] l'[i]⟩) rfl rfl ?_)
  refine sv1 ?_
  constructor <;> intro h
  ·apply hK
   refine evl ?_
   refine Fin.nt results87 [] ?_ ?_ ?_ <;> try trivial
   (refine rsl ?_;try exact .intro)
   symm;rw [decide_eq_false_iff_not]
   rintro rfl;simp at h
  ·apply hK
   have he:l[i]=l'[i]:=by simpa using h
   exact ⟨l.length - (i + 1),_,by omega,Ent.wk [],i + 1,by omega,rfl,by rw [List.take_succ_eq_append_getElem hlt,List.take_succ_eq_append_getElem hlt',ht,he],rfl⟩
 ·have hge':i=l.length:=by omega
  subst hge'
  have hdi:decide ((l.length:Int) < l.length)=false:=by simp
  refine sv4 ?_
  apply hK
  refine evl ?_
  refine Fin.nt results87 [] ?_ ?_ ?_ <;> try trivial
  (refine rsl ?_;try exact .intro)
  symm;rw [decide_eq_true_iff]
  rw [List.take_of_length_le (Nat.le_refl _),List.take_of_length_le (by omega)] at ht
  exact ht
def Ev.lok (x:Ev):Prop:=True
theorem decEv (n:Nat) (ds:List D) (h:WT prog n 194 ds):∃ x:Ev,ds=encEv x /\ x.wf /\ x.lok:=by
 cases n with
 | zero=>exact h.elim
 | succ n =>
  unfold WT at h
  rw [underlying194] at h
  simp only [List.toList_toArray,List.map_cons,List.map_nil,WTs] at h
  obtain ⟨_,_,rfl,h0,⟨_,_,rfl,h1,⟨_,_,rfl,h2,⟨_,_,rfl,h3,⟨_,_,rfl,h4,⟨_,_,rfl,h5,⟨_,_,rfl,h6,rfl⟩⟩⟩⟩⟩⟩⟩:=h
  obtain ⟨x0,rfl,w0⟩:=decInt underlying3 h0
  obtain ⟨x1,rfl,w1⟩:=decInt underlying3 h1
  obtain ⟨x2,rfl,w2⟩:=decInt underlying3 h2
  obtain ⟨x3,rfl,w3⟩:=decInt underlying3 h3
  obtain ⟨x4,rfl,w4⟩:=decInt underlying3 h4
  obtain ⟨x5,rfl,w5⟩:=decInt underlying3 h5
  obtain ⟨x6,rfl,w6⟩:=decInt underlying3 h6
  exact ⟨⟨x0,x1,x2,x3,x4,x5,x6⟩,rfl,⟨w0,w1,w2,w3,w4,w5,w6,trivial⟩,trivial⟩
structure Shelf where
 Base:Base
 Cells:List Int
 Jobs:List Job
 Todo:List Queue
 Log:List Ev
 Serial:Int
 deriving DecidableEq
def encShelf (x:Shelf):List D:=[.sl 1 (x.Base.Mem.Heap.Bytes.map encI),.sl 1 (x.Base.Mem.Heap.Class.map encI),.sl 1 (x.Base.Mem.Lists.Global.map encSList),.sl 1 (x.Base.Mem.Lists.Own.map encSList),.int .i64 x.Base.Clock.Epoch,.sl 4 (x.Base.Clock.Pins.map encPin),.sl 1 (x.Base.Limbo.map encLList),.sl 1 (x.Base.Haz.map encI),.sl 1 (x.Cells.map encI),.sl 21 (x.Jobs.map encJob),.sl 1 (x.Todo.map encQueue),.sl 7 (x.Log.map encEv),.int .i64 x.Serial]
def Shelf.wf (x:Shelf):Prop:=x.Base.wf /\ (∀ y ∈ x.Cells,(Lit.int .i64 y).wf=true) /\ (∀ y ∈ x.Jobs,y.wf) /\ (∀ y ∈ x.Todo,y.wf) /\ (∀ y ∈ x.Log,y.wf) /\ (Lit.int .i64 x.Serial).wf=true /\ True
theorem Shelf.eq_iff (x y:Shelf):x=y ↔ x.Base=y.Base /\ x.Cells=y.Cells /\ x.Jobs=y.Jobs /\ x.Todo=y.Todo /\ x.Log=y.Log /\ x.Serial=y.Serial:=by cases x;cases y;simp
def Shelf.lok (x:Shelf):Prop:=x.Base.lok /\ x.Cells.length <= maxLen /\ x.Jobs.length <= maxLen /\ x.Todo.length <= maxLen /\ (∀ y ∈ x.Todo,y.lok) /\ x.Log.length <= maxLen /\ True
def sizShelf (x:Shelf):Nat:=sizBase x.Base + x.Cells.length + x.Jobs.length + sizQueueS x.Todo + x.Log.length
theorem decShelf (n:Nat) (ds:List D) (h:WT prog n 79 ds):∃ x:Shelf,ds=encShelf x /\ x.wf /\ x.lok:=by
 cases n with
 | zero=>exact h.elim
 | succ n =>
  unfold WT at h
  rw [underlying79] at h
  simp only [List.toList_toArray,List.map_cons,List.map_nil,WTs] at h
  obtain ⟨_,_,rfl,h0,⟨_,_,rfl,h1,⟨_,_,rfl,h2,⟨_,_,rfl,h3,⟨_,_,rfl,h4,⟨_,_,rfl,h5,rfl⟩⟩⟩⟩⟩⟩:=h
  obtain ⟨x0,rfl,w0,k0⟩:=decBase _ _ h0
  obtain ⟨x1,rfl,c1,w1⟩:=decSl (enc:=encI) (q:=fun x=>(Lit.int .i64 x).wf=true) underlying24 tc_3 (fun _ _ h=>decInt underlying3 h) h1
  obtain ⟨x2,rfl,c2,w2⟩:=decSl (enc:=encJob) (q:=fun x=>x.wf /\ x.lok) underlying75 tc_189 decJob h2
  obtain ⟨x3,rfl,c3,w3⟩:=decSl (enc:=encQueue) (q:=fun x=>x.wf /\ x.lok) underlying76 tc_172 decQueue h3
  obtain ⟨x4,rfl,c4,w4⟩:=decSl (enc:=encEv) (q:=fun x=>x.wf /\ x.lok) underlying77 tc_194 decEv h4
  obtain ⟨x5,rfl,w5⟩:=decInt underlying3 h5
  exact ⟨⟨x0,x1,x2,x3,x4,x5⟩,rfl,⟨w0,w1,fun y hy=>(w2 y hy).1,fun y hy=>(w3 y hy).1,fun y hy=>(w4 y hy).1,w5,trivial⟩,⟨k0,c1,c2,c3,fun y hy=>(w3 y hy).2,c4,trivial⟩⟩
theorem c28 (x:Shelf) (hk:x.lok) (left:Int) (h0:0 <= left) (h1:left <= 1048576):Ctr prog 28 [.agg ((encShelf x).map .dat),.one (.dat (.int .i64 left))] [] (.one (.dat (.int .i64 (szL left (sizShelf x))))) []:=by
 simp only [encShelf,List.map_cons,List.map_nil]
 unfold sizShelf
 refine Ctr.bd mixed func28 rfl ?_
 refine evl ?_
 obtain ⟨kBase,kCells,kJobs,kTodo,qTodo,kLog,_⟩:=hk
 refine CallK_pure e68 (c68 x.Base kBase left h0 h1) rfl ?_
 refine evl ?_
 constructor <;> intro h
 ·refine Fin.nt results28 [] ?_ ?_ ?_ <;> try trivial
  (refine rsl ?_;try exact .intro)
  try simp only [List.length_map] at h
  exact szL_bad (h) (by omega)
 try simp only [List.length_map] at h
 have a0:decide (szL left (sizBase x.Base) < 0)=false:=h
 obtain ⟨_,_,g0,u0⟩:=szL_le h1 a0
 try simp only [List.length_map]
 refine CallK_pure e69 (c69 (x.Cells.map encI) (szL left (sizBase x.Base)) g0 u0 (by simpa using kCells)) rfl ?_
 refine evl ?_
 constructor <;> intro h
 ·refine Fin.nt results28 [] ?_ ?_ ?_ <;> try trivial
  (refine rsl ?_;try exact .intro)
  try simp only [List.length_map] at h
  exact szL_bad (szL_at h0 a0 ▸ h) (by omega)
 try simp only [List.length_map] at h
 have a1:decide (szL left (sizBase x.Base + x.Cells.length) < 0)=false:=szL_at h0 a0 ▸ h
 obtain ⟨_,_,g1,u1⟩:=szL_le h1 a1
 try simp only [List.length_map]
 rw [szL_at h0 a0]
 refine CallK_pure e70 (c70 (x.Jobs.map encJob) (szL left (sizBase x.Base + x.Cells.length)) g1 u1 (by simpa using kJobs)) rfl ?_
 refine evl ?_
 constructor <;> intro h
 ·refine Fin.nt results28 [] ?_ ?_ ?_ <;> try trivial
  (refine rsl ?_;try exact .intro)
  try simp only [List.length_map] at h
  exact szL_bad (szL_at h0 a1 ▸ h) (by omega)
 try simp only [List.length_map] at h
 have a2:decide (szL left (sizBase x.Base + x.Cells.length + x.Jobs.length) < 0)=false:=szL_at h0 a1 ▸ h
 obtain ⟨_,_,g2,u2⟩:=szL_le h1 a2
 try simp only [List.length_map]
 rw [szL_at h0 a1]
 refine CallK_pure e71 (c71 x.Todo kTodo qTodo (szL left (sizBase x.Base + x.Cells.length + x.Jobs.length)) g2 u2) rfl ?_
 refine evl ?_
 constructor <;> intro h
 ·refine Fin.nt results28 [] ?_ ?_ ?_ <;> try trivial
  (refine rsl ?_;try exact .intro)
  try simp only [List.length_map] at h
  exact szL_bad (szL_at h0 a2 ▸ h) (by omega)
 try simp only [List.length_map] at h
 have a3:decide (szL left (sizBase x.Base + x.Cells.length + x.Jobs.length + sizQueueS x.Todo) < 0)=false:=szL_at h0 a2 ▸ h
 obtain ⟨_,_,g3,u3⟩:=szL_le h1 a3
 try simp only [List.length_map]
 rw [szL_at h0 a2]
 refine CallK_pure e72 (c72 (x.Log.map encEv) (szL left (sizBase x.Base + x.Cells.length + x.Jobs.length + sizQueueS x.Todo)) g3 u3 (by simpa using kLog)) rfl ?_
 refine evl ?_
 constructor <;> intro h
 ·refine Fin.nt results28 [] ?_ ?_ ?_ <;> try trivial
  (refine rsl ?_;try exact .intro)
  try simp only [List.length_map] at h
  exact szL_bad (szL_at h0 a3 ▸ h) (by omega)
 try simp only [List.length_map] at h
 have a4:decide (szL left (sizBase x.Base + x.Cells.length + x.Jobs.length + sizQueueS x.Todo + x.Log.length) < 0)=false:=szL_at h0 a3 ▸ h
 refine Fin.nt results28 [] ?_ ?_ ?_ <;> try trivial
 all_goals try ((refine rsl ?_;try exact .intro))
 all_goals try simp only [List.length_map]
 all_goals try exact szL_at h0 a3
theorem c30 (x:Shelf) (h:sizShelf x <= 1048576):Ctr prog 30 [.agg ((encShelf x).map .dat)] [] (.agg [.own 0,.own 1,.own 2,.own 3,.dat (.int .i64 x.Base.Clock.Epoch),.own 4,.own 5,.own 6,.own 7,.own 8,.own 9,.own 10,.dat (.int .i64 x.Serial)]) [.vec 1 true (x.Base.Mem.Heap.Bytes.map encI),.vec 1 true (x.Base.Mem.Heap.Class.map encI),.vec 1 true (x.Base.Mem.Lists.Global.map encSList),.vec 1 true (x.Base.Mem.Lists.Own.map encSList),.vec 4 true (x.Base.Clock.Pins.map encPin),.vec 1 true (x.Base.Limbo.map encLList),.vec 1 true (x.Base.Haz.map encI),.vec 1 true (x.Cells.map encI),.vec 21 true (x.Jobs.map encJob),.vec 1 true (x.Todo.map encQueue),.vec 7 true (x.Log.map encEv)]:=by
 simp only [encShelf,List.map_cons,List.map_nil]
 unfold sizShelf at h
 refine Ctr.bd mixed func30 rfl ?_
 refine evl ?_
 refine CallK_pure e76 (c76 x.Base (by omega)) rfl ?_
 refine evl ?_
 refine CallK_pure e77 (c77 x.Cells (by omega)) rfl ?_
 refine evl ?_
 refine CallK_pure e78 (c78 x.Jobs (by omega)) rfl ?_
 refine evl ?_
 refine CallK_pure e79 (c79 x.Todo (by omega)) rfl ?_
 refine evl ?_
 refine CallK_pure e80 (c80 x.Log (by omega)) rfl ?_
 refine evl ?_
 first | ((refine Fin.nt results30 [3,4,5,6,7,8,9,10,11,12,13] ?_ ?_ ?_ <;> try trivial) <;> (first | rfl | exact entd);done) | ((refine Fin.nt results30 [2,3,4,5,6,7,8,9,10,11,12] ?_ ?_ ?_ <;> try trivial) <;> (first | rfl | exact entd);done) | ((refine Fin.nt results30 [1,2,3,4,5,6,7,8,9,10,11] ?_ ?_ ?_ <;> try trivial) <;> (first | rfl | exact entd);done) | ((refine Fin.nt results30 [0,1,2,3,4,5,6,7,8,9,10] ?_ ?_ ?_ <;> try trivial) <;> (first | rfl | exact entd);done) | ((refine Fin.nt results30 [4,5,6,7,8,9,10,11,12,13,14] ?_ ?_ ?_ <;> try trivial) <;> (first | rfl | exact entd);done) | ((refine Fin.nt results30 [5,6,7,8,9,10,11,12,13,14,15] ?_ ?_ ?_ <;> try trivial) <;> (first | rfl | exact entd);done)
theorem c32 (x y:Shelf) (hx:sizShelf x <= 1048576) (hy:sizShelf y <= 1048576):Ctr prog 32 [.agg ((encShelf x).map .dat),.agg ((encShelf y).map .dat)] [] (.one (.dat (.bool (decide (x=y))))) []:=by
 simp only [encShelf,List.map_cons,List.map_nil]
 unfold sizShelf at hx hy
 have hm:maxLen=9223372036854775807:=rfl
 refine Ctr.bd mixed func32 rfl ?_
 refine evl ?_
 refine ck e85 (c85 x.Base y.Base (by omega) (by omega)) rfl ?_
 refine evl ?_
 constructor <;> intro h
 ·refine Fin.nt results32 [] ?_ ?_ ?_ <;> try trivial
  (refine rsl ?_;try exact .intro)
  simp_all [Shelf.eq_iff]
 have eBase:=h;clear h
 refine ck e86 (c86 x.Cells y.Cells (by omega) (by omega)) rfl ?_
 refine evl ?_
 constructor <;> intro h
 ·refine Fin.nt results32 [] ?_ ?_ ?_ <;> try trivial
  (refine rsl ?_;try exact .intro)
  simp_all [Shelf.eq_iff]
 have eCells:=h;clear h
 refine ck e87 (c87 x.Jobs y.Jobs (by omega) (by omega)) rfl ?_
 refine evl ?_
 constructor <;> intro h
 ·refine Fin.nt results32 [] ?_ ?_ ?_ <;> try trivial
  (refine rsl ?_;try exact .intro)
  simp_all [Shelf.eq_iff]
 have eJobs:=h;clear h
 refine ck e88 (c88 x.Todo y.Todo (by omega) (by omega)) rfl ?_
 refine evl ?_
 constructor <;> intro h
 ·refine Fin.nt results32 [] ?_ ?_ ?_ <;> try trivial
  (refine rsl ?_;try exact .intro)
  simp_all [Shelf.eq_iff]
 have eTodo:=h;clear h
 refine ck e89 (c89 x.Log y.Log (by omega) (by omega)) rfl ?_
 refine evl ?_
 constructor <;> intro h
 ·refine Fin.nt results32 [] ?_ ?_ ?_ <;> try trivial
  (refine rsl ?_;try exact .intro)
  simp_all [Shelf.eq_iff]
 have eLog:=h;clear h
 constructor <;> intro h
 ·refine Fin.nt results32 [] ?_ ?_ ?_ <;> try trivial
  (refine rsl ?_;try exact .intro)
  simp_all [Shelf.eq_iff]
 have eSerial:=h;clear h
 refine Fin.nt results32 [] ?_ ?_ ?_ <;> try trivial
 (refine rsl ?_;try exact .intro)
 simp_all [Shelf.eq_iff]
end Go.Proofs.YtcnddedeeplbcaaGreat.Mod
