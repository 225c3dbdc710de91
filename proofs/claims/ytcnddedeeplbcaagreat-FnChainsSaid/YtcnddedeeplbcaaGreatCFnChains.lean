/- FnChains: the program answers as the statement says, at every argument. -/
import Derived.Test.YtcnddedeeplbcaaGreatRows
import Derived.Test.YtcnddedeeplbcaaGreatCTy
import Derived.Test.YtcnddedeeplbcaaGreatAbsTac
import Derived.Test.YtcnddedeeplbcaaGreatAbsData
import Derived.Test.YtcnddedeeplbcaaGreatWhole
import Derived.Test.YtcnddedeeplbcaaGreatCBase
import Derived.Test.YtcnddedeeplbcaaGreatCNum
import Derived.Test.YtcnddedeeplbcaaGreatCFam
import Derived.Test.YtcnddedeeplbcaaGreatCFam2
import Derived.Test.YtcnddedeeplbcaaGreatCFam3
import Derived.Test.YtcnddedeeplbcaaGreatCBytes
import Derived.Test.YtcnddedeeplbcaaGreatCSl2
import Derived.Test.YtcnddedeeplbcaaGreatCHist
import Derived.Test.YtcnddedeeplbcaaGreatCHeap
import Derived.Test.YtcnddedeeplbcaaGreatCStore
import Derived.Test.YtcnddedeeplbcaaGreatCMems2
import Derived.WalkKit
import Derived.ProofKit
import Derived.OpenShut
namespace Go.Proofs.YtcnddedeeplbcaaGreat.Mod
open Go.Proofs.Tryz Go.Abs Go.Proofs.YtcnddedeeplbcaaGreat.Ty Go.ChangeShapes Go.WideShapes Go.ChangeAt Go.RowKit
set_option linter.unusedSimpArgs false
set_option linter.unusedVariables false
set_option maxHeartbeats 8000000
set_option maxRecDepth 100000
def Sm (m:Mem) (n:Nat):Prop:=sizHeap m.Heap <= 400 /\ sizLists m.Lists <= n
def Rmh (b:List Int) (N:Nat) (r:AV) (xs:List AObj):Prop:=∃ (m:Mem) (x:Int),Sm m N /\ r=.tup [.agg [.own 2,.own 3,.own 4,.own 5],.one (.dat (.int .i64 x))] /\ ∃ (i':Nat) (h':Int),i' <= b.length /\ xs=[.box [.dat (.sl 1 (b.map encB)),.dat (.int .i64 (i':Int)),.dat (.int .i64 h')],.vec 1 true (m.Heap.Bytes.map encI),.vec 1 true (m.Heap.Class.map encI),.vec 1 true (m.Lists.Global.map encSList),.vec 1 true (m.Lists.Own.map encSList)]
theorem ok_sh {m:Mem} {n:Nat} (ho:memOk m=true) (hm:Sm m n):Sh m n:=by
 simp only [memOk,heapOk,Bool.and_eq_true] at ho
 obtain ⟨h3,h9⟩:=listsOk_len ho.1.1.2
 exact ⟨ho.1.1.1.1,h3,h9,hm.2⟩
theorem sh_sm {m:Mem} {n:Nat} (hm:Sh m n):Sm m n:=by
 obtain ⟨h1,_,_,h2⟩:=hm
 obtain ⟨b1,_,b2,_⟩:=shaped_iff h1
 exact ⟨by unfold sizHeap;omega,h2⟩
theorem Sm.siz {m:Mem} {n:Nat} (h:Sm m n) (hn:n <= 1048000):sizMem m <= 1048576 /\ sizHeap m.Heap <= 1048576:=by
 obtain ⟨h1,h2⟩:=h
 unfold sizMem
 omega
theorem Sm.more {m:Mem} {n k:Nat} (h:Sm m n) (hn:n <= k):Sm m k:=⟨h.1,Nat.le_trans h.2 hn⟩
theorem nodePut_sm {m:Mem} {n:Nat} (h:Sm m n) (a:Int) (x:Mod.Node):Sm (nodePutM m a x).1 n:=by
 unfold nodePutM
 split
 ·split
  ·split
   ·exact ⟨by show (putL _ _ _).length + _ <= _;rw [putL_len];exact h.1,h.2⟩
   ·exact h
  ·exact h
 ·exact h
theorem nextTo_sm {m:Mem} {n:Nat} (h:Sm m n) (a x:Int):Sm (nextToM m a x).1 n:=by
 unfold nextToM
 split
 ·split
  ·split
   ·exact ⟨by show (putL _ _ _).length + _ <= _;rw [putL_len];exact h.1,h.2⟩
   ·exact h
  ·exact h
 ·exact h
theorem linkIn_sm {m:Mem} {n:Nat} (h:Sm m n) (b:Bkt) (a:Int):Sm (linkInM m b a).1 n:=by
 unfold linkInM
 split
 ·split
  ·exact nextTo_sm h _ _
  ·exact h
 ·exact h
def memNewM:Mem:=⟨⟨List.replicate 384 0,List.replicate 6 (-1)⟩,⟨List.replicate 3 ⟨[]⟩,List.replicate 9 ⟨[]⟩⟩⟩
theorem memNew_sh:Sh memNewM 12:=by
 refine ⟨?_,rfl,rfl,Nat.le_of_ble_eq_true rfl⟩
 show shapedM ⟨List.replicate 384 0,List.replicate 6 (-1)⟩=true
 rfl
theorem c212_M:Ctr prog 212 [] [] (.agg [.own 0,.own 1,.own 2,.own 3]) [.vec 1 true (memNewM.Heap.Bytes.map encI),.vec 1 true (memNewM.Heap.Class.map encI),.vec 1 true (memNewM.Lists.Global.map encSList),.vec 1 true (memNewM.Lists.Own.map encSList)]:=by
 have h:=c212
 unfold memNewM
 simp only [List.map_replicate]
 exact h
theorem c103_any (m:Mem) (N:Nat) (hN:N <= 1048000) (hm:Sm m N) (w h:Int) (hw:0 <= w /\ w <= 2):∃ (m':Mem) (code:Int),Sm m' (N + 1) /\ Ctr prog 103 [.agg ((encMem m).map .dat),.one (.dat (.int .i64 w)),.one (.dat (.int .i64 h))] [] (.tup [.agg [.own 0,.own 1,.own 2,.own 3],.one (.dat (.int .i64 code))]) [.vec 1 true (m'.Heap.Bytes.map encI),.vec 1 true (m'.Heap.Class.map encI),.vec 1 true (m'.Lists.Global.map encSList),.vec 1 true (m'.Lists.Own.map encSList)]:=by
 cases ho:memOk m with
 | true =>
  obtain ⟨m',code,h1,h2⟩:=c103 m N hN (ok_sh ho hm) w h hw
  exact ⟨m',code,sh_sm h1,h2⟩
 | false =>
  have hmx:maxLen=9223372036854775807:=rfl
  obtain ⟨z1,z2⟩:=hm.siz hN
  have hc1:=c44 m z2 (Lists.sok_of (show sizLists m.Lists <= 1048576 by have:=hm.2;omega))
  have hc2:=c14 m z1
  have hww:within w 0 2=true:=by unfold within;exact decide_eq_true hw
  refine ⟨m,1,hm.more (by omega),?_⟩
  rw [ho] at hc2
  simp only [encMem,encHeap,encLists,List.map_cons,List.map_nil,List.cons_append,List.nil_append,List.map_append] at hc1 hc2 ⊢
  refine Ctr.bd mixed func103 rfl ?_
  refine evl ?_
  refine scs ?_
  refine ck e44 (hc1) rfl ?_
  refine evl ?_
  refine scs ?_
  refine ck e14 (hc2) rfl ?_
  refine sv42 ?_
  first | refine CCallK_of (.one (.dat (.bool false))) ?_ | refine CCallK_og (.one (.dat (.bool false))) ?_
  refine evl ?_
  refine Fin.nt results103 [2,3,4,5] ?_ ?_ ?_ <;> try trivial
  all_goals exact entd
theorem c102_any (m:Mem) (N:Nat) (hN:N <= 1048000) (hm:Sm m N) (w z:Int) (hw:0 <= w /\ w <= 2):∃ (m':Mem) (h code:Int),Sm m' (N + 4) /\ Ctr prog 102 [.agg ((encMem m).map .dat),.one (.dat (.int .i64 w)),.one (.dat (.int .i64 z))] [] (.tup [.agg [.own 0,.own 1,.own 2,.own 3],.one (.dat (.int .i64 h)),.one (.dat (.int .i64 code))]) [.vec 1 true (m'.Heap.Bytes.map encI),.vec 1 true (m'.Heap.Class.map encI),.vec 1 true (m'.Lists.Global.map encSList),.vec 1 true (m'.Lists.Own.map encSList)]:=by
 cases ho:memOk m with
 | true =>
  obtain ⟨m',h,code,h1,h2⟩:=c102 m N hN (ok_sh ho hm) w z hw
  exact ⟨m',h,code,sh_sm h1,h2⟩
 | false =>
  have hmx:maxLen=9223372036854775807:=rfl
  obtain ⟨z1,z2⟩:=hm.siz hN
  have hc1:=c44 m z2 (Lists.sok_of (show sizLists m.Lists <= 1048576 by have:=hm.2;omega))
  have hc2:=c14 m z1
  have hc3:=c188 z
  have hww:within w 0 2=true:=by unfold within;exact decide_eq_true hw
  refine ⟨m,0,1,hm.more (by omega),?_⟩
  rw [ho] at hc2
  simp only [encMem,encHeap,encLists,List.map_cons,List.map_nil,List.cons_append,List.nil_append,List.map_append] at hc1 hc2 ⊢
  refine Ctr.bd mixed func102 rfl ?_
  refine evl ?_
  refine scs ?_
  refine ck e44 (hc1) rfl ?_
  refine evl ?_
  refine scs ?_
  refine ck e188 (hc3) rfl ?_
  refine evl ?_
  refine scs ?_
  refine ck e14 (hc2) rfl ?_
  refine sv42 ?_
  first | refine CCallK_of (.one (.dat (.bool false))) ?_ | refine CCallK_og (.one (.dat (.bool false))) ?_
  refine evl ?_
  refine Fin.nt results102 [2,3,4,5] ?_ ?_ ?_ <;> try trivial
  all_goals exact entd
theorem c134 (b:List Int) (hb:BytesL b) (i:Nat) (h:Int) (hi:i <= b.length) (q:Nat) (hq:q <= 22):CtrC prog 134 [.one (.ptr (.own 1 0 0)),.one (.dat (.int .i64 (q:Int)))] [.box [.dat (.sl 1 (b.map encB)),.dat (.int .i64 (i:Int)),.dat (.int .i64 h)]] (Rmh b 200):=by
 have hmx:maxLen=9223372036854775807:=rfl
 refine CtrC.body mixed func134 rfl (fun bl=>?_) ?_
 ·refine evl ?_
  refine scs ?_
  refine ck e212 (c212_M) rfl ?_
  refine evl ?_
  refine scs ?_
  refine CallK_cell [1] e59 (c59 b hb i h hi (q:Int) (by omega)) rfl rfl ?_
  rintro r0 xs' ⟨n0,⟨hn0,hn1,hn2⟩,rfl,i1,h1,hi1,rfl⟩ -
  have hn3:n0 <= 22:=by rcases Nat.eq_zero_or_pos q with hz | hz <;> omega
  refine evl ?_
  refine scs ?_
  refine LoopK_intro (fun zn zs=>∃ (n:Int) (m:Mem) (l:List Int) (i:Nat) (h:Int),zn=n.toNat /\ ((0 <= n /\ n <= 22 /\ i <= b.length) /\ Sh m (122 - 5 * n.toNat) /\ 1 <= l.length /\ l.length + n.toNat <= 23) /\ zs=mkSt [(4,.one (.ptr (.own 2 0 0))),(5,.one (.dat (.int .i64 0))),(6,.one (.ptr (.own 7 0 0))),(7,.one (.own 8)),(8,.one (.dat (.int .i64 n))),(0,.one (.ptr (.own 1 0 0))),(1,.one (.dat (.int .i64 (q:Int))))] [.ballast bl,.box [.dat (.sl 1 (b.map encB)),.dat (.int .i64 (i:Int)),.dat (.int .i64 h)],.box [.emp,.emp,.emp,.emp],.vec 1 true (m.Heap.Bytes.map encI),.vec 1 true (m.Heap.Class.map encI),.vec 1 true (m.Lists.Global.map encSList),.vec 1 true (m.Lists.Own.map encSList),.box [.own 3,.own 4,.own 5,.own 6],.vec 1 true (l.map encI)]) _ _
   (Ent.wk [0,1,2,3,4,5,6,7,8]) ⟨n0,memNewM,[0],i1,h1,rfl,⟨⟨hn0,hn3,hi1⟩,memNew_sh.more (by omega),by decide,by simp;omega⟩,rfl⟩ ?_
  rintro zn zs ⟨n,m,l,i,h,rfl,hinv,rfl⟩ K hK
  obtain ⟨⟨hv1,hv2,hv3⟩,hv4,hv5,hv6⟩:=hinv
  refine evl ?_
  constructor <;> intro hq
  ·have hn:0 < n:=of_decide_eq_true hq
   have hw:IntKind.i64.wrap (n - 1)=n - 1:=wrap_id (by omega) (by omega)
   refine CallK_cell [1] e101 (c101 b hb i h hv3 3 (by decide)) rfl rfl ?_
   rintro r0 xs' ⟨x,rfl,i2,h2,hi2,rfl⟩ -
   have hn4:122 - 5 * n.toNat + 1 <= 122 - 5 * (n - 1).toNat:=by omega
   have hn5:122 - 5 * n.toNat + 4 <= 122 - 5 * (n - 1).toNat:=by omega
   refine sv3 ?_
   refine scs ?_
   constructor <;> intro hx
   ·refine FloatE_intro [(0,[]),(1,[]),(3,[]),(4,[]),(5,[]),(6,[]),(2,[0,3,4,5,6]),(7,[0,3]),(8,[]),(9,[]),(10,[]),(11,[]),(12,[]),(13,[]),(14,[0,1,3,4,5,6,8,9,11,12,13]),(15,[13]),(16,[])] [14] (by kernel_rfl) ?_
    refine evl ?_
    refine scs ?_
    repeat with_reducible intro ff
    refine CallK_cell [1] e59 (c59 b hb i2 h2 hi2 3 (by decide)) rfl rfl ?_
    rintro r0 xs' ⟨w,⟨hw0,hw1,_⟩,rfl,i3,h3,hi3,rfl⟩ -
    have hw3:=hw1 (by decide)
    refine sv3 ?_
    refine scs ?_
    repeat with_reducible intro ff
    refine CallK_cell [1] e59 (c59 b hb i3 h3 hi3 (l.length:Int) (by omega)) rfl rfl ?_
    rintro r0 xs' ⟨z,⟨hz0,hz1,_⟩,rfl,i4,h4,hi4,rfl⟩ -
    have hz2:=hz1 (by omega)
    obtain ⟨y,rfl⟩:∃ y:Nat,z=y:=⟨z.toNat,by omega⟩
    have hyl:y < l.length:=by omega
    refine sv47 ?_
    refine scs ?_
    repeat with_reducible intro ff
    refine ⟨⟨⟨hyl,by simp [D.flat]⟩,by omega,by omega⟩,?_⟩
    obtain ⟨m2,code,hm2,hc2⟩:=c103 m _ (by omega) hv4 w l[y] ⟨hw0,by omega⟩
    simp only [encMem,encHeap,encLists,List.map_cons,List.map_nil,List.cons_append,List.nil_append,List.map_append] at hc2
    refine ck e103 (hc2) rfl ?_
    simp (maxSteps:=2000000) only [go_sem,seval,hw,getD_map hyl,encI]
    refine scs ?_
    repeat with_reducible intro ff
    refine ⟨⟨⟨hyl,by simp [D.flat]⟩,by omega,by omega⟩,⟨⟨by omega,by omega⟩,hyl,by simp [D.flat]⟩,?_⟩
    (apply hK
     exact ⟨_,_,by omega,Ent.wk [0,1,2,10,11,12,13,7,8],n - 1,m2,l,i4,h4,rfl,⟨⟨by omega,by omega,hi4⟩,hm2.more hn4,hv5,by omega⟩,rfl⟩)
   ·refine FloatE_intro [(0,[]),(1,[]),(3,[]),(2,[0,3]),(4,[0]),(5,[]),(6,[]),(7,[]),(8,[]),(9,[]),(10,[]),(11,[0,1,3,5,7,8,9,10]),(12,[9,10]),(13,[]),(14,[])] [11] (by kernel_rfl) ?_
    refine evl ?_
    refine scs ?_
    repeat with_reducible intro ff
    refine CallK_cell [1] e59 (c59 b hb i2 h2 hi2 3 (by decide)) rfl rfl ?_
    rintro r0 xs' ⟨w,⟨hw0,hw1,_⟩,rfl,i3,h3,hi3,rfl⟩ -
    have hw3:=hw1 (by decide)
    refine evl ?_
    refine scs ?_
    repeat with_reducible intro ff
    refine CallK_cell [1] e59 (c59 b hb i3 h3 hi3 40 (by decide)) rfl rfl ?_
    rintro r0 xs' ⟨z,⟨hz0,hz1,_⟩,rfl,i4,h4,hi4,rfl⟩ -
    refine evl ?_
    refine scs ?_
    repeat with_reducible intro ff
    obtain ⟨m2,hd,code,hm2,hc2⟩:=c102 m _ (by omega) hv4 w (IntKind.i64.wrap (1 + z)) ⟨hw0,by omega⟩
    simp only [encMem,encHeap,encLists,List.map_cons,List.map_nil,List.cons_append,List.nil_append,List.map_append] at hc2
    refine ck e102 (hc2) rfl ?_
    refine evl ?_
    refine scs ?_
    repeat with_reducible intro ff
    constructor <;> intro hcd
    ·refine ⟨⟨by simp [D.flat],by simp⟩,⟨by simp [D.flat],by simp,by omega,by omega⟩,?_⟩
     refine FloatE_intro [(0,[]),(1,[]),(2,[]),(4,[]),(7,[]),(3,[0,1,4,7]),(5,[0,1,7]),(6,[]),(8,[0,1,6]),(9,[]),(10,[]),(11,[]),(12,[]),(13,[0,1,2,4,7,6,10,11,12]),(14,[12]),(15,[])] [13] (by kernel_rfl) ?_
     refine evl ?_
     refine scs ?_
     repeat with_reducible intro ff
     refine CallK_cell [1] e59 (c59 b hb i4 h4 hi4 5 (by decide)) rfl rfl ?_
     rintro r0 xs' ⟨a,⟨ha0,ha1,_⟩,rfl,i5,h5,hi5,rfl⟩ -
     have ha2:=ha1 (by decide)
     refine evl ?_
     refine scs ?_
     repeat with_reducible intro ff
     refine CallK_cell [1] e59 (c59 b hb i5 h5 hi5 3 (by decide)) rfl rfl ?_
     rintro r0 xs' ⟨e,⟨he0,he1,_⟩,rfl,i6,h6,hi6,rfl⟩ -
     have he2:=he1 (by decide)
     refine evl ?_
     refine scs ?_
     repeat with_reducible intro ff
     refine CallK_cell [1] e59 (c59 b hb i6 h6 hi6 256 (by decide)) rfl rfl ?_
     rintro r0 xs' ⟨y,⟨hy0,hy1,_⟩,rfl,i7,h7,hi7,rfl⟩ -
     have hy2:=hy1 (by decide)
     have hwe:IntKind.i64.wrap (1 + e)=(((1 + e).toNat:Nat):Int):=by rw [wrap_id (by omega) (by omega)];omega
     simp (maxSteps:=2000000) only [go_sem,seval,hwe]
     refine scs ?_
     repeat with_reducible intro ff
     obtain ⟨m3,code3,hm3,hc3⟩:=c213 m2 _ (by omega) hm2 hd a ⟨ha0,by omega⟩ (1 + e).toNat ⟨by omega,by omega⟩ y ⟨hy0,by omega⟩
     simp only [encMem,encHeap,encLists,List.map_cons,List.map_nil,List.cons_append,List.nil_append,List.map_append] at hc3
     refine ck e213 (hc3) rfl ?_
     refine sv2 ?_
     refine scs ?_
     repeat with_reducible intro ff
     refine ⟨by unfold Same;rw [hwe],by unfold Same;rw [hwe],?_⟩
     (apply hK
      exact ⟨_,_,by omega,Ent.wk [0,1,2,17,18,19,20,7,15],n - 1,m3,l ++ [hd],i7,h7,rfl,⟨⟨by omega,by omega,hi7⟩,hm3.more hn5,by simp,by rw [List.length_append,List.length_singleton];omega⟩,rfl⟩)
    ·refine sv2 ?_
     (apply hK
      exact ⟨_,_,by omega,Ent.wk [0,1,2,10,11,12,13,7,8],n - 1,m2,l,i4,h4,rfl,⟨⟨by omega,by omega,hi4⟩,hm2.more hn5,hv5,by omega⟩,rfl⟩)
  apply hK
  refine evl ?_
  refine FloatR_intro [(0,[]),(1,[]),(2,[]),(3,[]),(4,[]),(5,[0,1]),(6,[]),(7,[]),(8,[1,6,7]),(9,[])] (by kernel_rfl) ?_
  refine sv3 ?_
  refine scs ?_
  refine CallK_cell [1] e59 (c59 b hb i h hv3 (l.length:Int) (by omega)) rfl rfl ?_
  rintro r0 xs' ⟨z,⟨hz0,hz1,_⟩,rfl,i2,h2,hi2,rfl⟩ -
  have hz2:=hz1 (by omega)
  obtain ⟨y,rfl⟩:∃ y:Nat,z=y:=⟨z.toNat,by omega⟩
  have hyl:y < l.length:=by omega
  refine sv47 ?_
  refine scs ?_
  refine FinCN.nt results134 [1,3,4,5,6] (.tup [.agg [.own 2,.own 3,.own 4,.own 5],.one (.dat (.int .i64 l[y]))]) [.box [.dat (.sl 1 (b.map encB)),.dat (.int .i64 (i2:Int)),.dat (.int .i64 h2)],.vec 1 true (m.Heap.Bytes.map encI),.vec 1 true (m.Heap.Class.map encI),.vec 1 true (m.Lists.Global.map encSList),.vec 1 true (m.Lists.Own.map encSList)] (⟨m,l[y],(sh_sm hv4).more (by omega),rfl,i2,h2,hi2,rfl⟩) ?_ ?_ ?_ <;> try trivial
  all_goals exact entd
 ·exact ⟨_,_,⟨memNewM,0,(sh_sm memNew_sh).more (by decide),rfl,0,0,Nat.zero_le _,rfl⟩,by simp⟩
def Rheap (b:List Int) (p:Heap -> Prop) (r:AV) (xs:List AObj):Prop:=∃ x:Heap,p x /\ r=.agg [.own 2,.own 3] /\ ∃ (i':Nat) (h':Int),i' <= b.length /\ xs=[.box [.dat (.sl 1 (b.map encB)),.dat (.int .i64 (i':Int)),.dat (.int .i64 h')],.vec 1 true (x.Bytes.map encI),.vec 1 true (x.Class.map encI)]
theorem c282_M:Ctr prog 282 [] [] (.agg [.own 0,.own 1]) [.vec 1 true (memNewM.Heap.Bytes.map encI),.vec 1 true (memNewM.Heap.Class.map encI)]:=by
 have h:=c282
 unfold memNewM
 simp only [List.map_replicate]
 exact h
theorem c267 (b:List Int) (hb:BytesL b) (i:Nat) (h:Int) (hi:i <= b.length):CtrC prog 267 [.one (.ptr (.own 1 0 0))] [.box [.dat (.sl 1 (b.map encB)),.dat (.int .i64 (i:Int)),.dat (.int .i64 h)]] (Rheap b fun x=>shapedM x=true):=by
 have hmx:maxLen=9223372036854775807:=rfl
 refine CtrC.body mixed func267 rfl (fun bl=>?_) ?_
 ·refine evl ?_
  refine scs ?_
  refine ck e282 (c282_M) rfl ?_
  refine evl ?_
  refine scs ?_
  refine CallK_cell [1] e59 (c59 b hb i h hi 7 (by decide)) rfl rfl ?_
  rintro r0 xs' ⟨n0,⟨hn0,hn1,hn2⟩,rfl,i1,h1,hi1,rfl⟩ -
  have hn3:=hn1 (by decide)
  refine evl ?_
  refine scs ?_
  refine LoopK_intro (fun zn zs=>∃ (n:Int) (g:Heap) (i:Nat) (h:Int),zn=n.toNat /\ ((0 <= n /\ n <= 7 /\ i <= b.length) /\ shapedM g=true) /\ zs=mkSt [(2,.one (.ptr (.own 2 0 0))),(3,.one (.ptr (.own 5 0 0))),(4,.one (.dat (.int .i64 n))),(0,.one (.ptr (.own 1 0 0)))] [.ballast bl,.box [.dat (.sl 1 (b.map encB)),.dat (.int .i64 (i:Int)),.dat (.int .i64 h)],.box [.emp,.emp],.vec 1 true (g.Bytes.map encI),.vec 1 true (g.Class.map encI),.box [.own 3,.own 4]]) _ _
   (Ent.wk [0,1,2,3,4,5]) ⟨n0,memNewM.Heap,i1,h1,rfl,⟨⟨hn0,by omega,hi1⟩,memNew_sh.1⟩,rfl⟩ ?_
  rintro zn zs ⟨n,g,i,h,rfl,hinv,rfl⟩ K hK
  obtain ⟨⟨hv1,hv2,hv3⟩,hv4⟩:=hinv
  refine evl ?_
  constructor <;> intro hq
  ·have hn:0 < n:=of_decide_eq_true hq
   have hw:IntKind.i64.wrap (n - 1)=n - 1:=wrap_id (by omega) (by omega)
   refine FloatE_intro [(0,[]),(1,[]),(2,[0]),(3,[]),(4,[]),(5,[]),(6,[]),(7,[0,1,4,5,6]),(8,[6]),(9,[])] [7] (by kernel_rfl) ?_
   refine evl ?_
   refine scs ?_
   repeat with_reducible intro ff
   refine CallK_cell [1] e59 (c59 b hb i h hv3 3 (by decide)) rfl rfl ?_
   rintro r0 xs' ⟨c,⟨hc0,hc1,_⟩,rfl,i2,h2,hi2,rfl⟩ -
   have hc2:=hc1 (by decide)
   refine evl ?_
   refine scs ?_
   repeat with_reducible intro ff
   obtain ⟨g2,l,hg2,hl4,hc3⟩:=c305 g hv4 c ⟨hc0,by omega⟩
   simp only [encHeap,List.map_cons,List.map_nil] at hc3
   refine ck e305 (hc3) rfl ?_
   refine evl ?_
   refine scs ?_
   repeat with_reducible intro ff
   refine scs ?_
   refine LoopK_intro (fun zn zs=>∃ (k:Nat) (g:Heap) (i:Nat) (h:Int),k <= l.length /\ zn=l.length - k /\ (shapedM g=true /\ i <= b.length) /\ zs=mkSt [(7,.one (.dat (.int .i64 k))),(2,.one (.ptr (.own 2 0 0))),(3,.one (.ptr (.own 5 0 0))),(4,.one (.dat (.int .i64 n))),(6,.one (.own 6)),(0,.one (.ptr (.own 1 0 0)))] [.ballast bl,.box [.dat (.sl 1 (b.map encB)),.dat (.int .i64 (i:Int)),.dat (.int .i64 h)],.box [.emp,.emp],.vec 1 true (g.Bytes.map encI),.vec 1 true (g.Class.map encI),.box [.own 3,.own 4],.vec 1 true (l.map encI)]) (l.length) _
    (Ent.wk [0,1,2,7,8,5,9]) ⟨0,g2,i2,h2,by omega,by omega,⟨hg2,hi2⟩,rfl⟩ ?_
   rintro zn zs ⟨k,g,i,h,hi2,rfl,hinv2,rfl⟩ K2 hK2
   rcases Nat.lt_or_ge k (l.length) with hlt2 | hge2
   ·have hdi2:decide ((k:Int) < ((l.length:Nat):Int))=true:=decide_eq_true (by omega)
    have hw2:=wrap_succ hlt2 (show l.length <= maxLen by omega)
    obtain ⟨hu1,hu2⟩:=hinv2
    refine sv13 ?_
    refine scs ?_
    refine CallK_cell [1] e101 (c101 b hb i h hu2 3 (by decide)) rfl rfl ?_
    rintro r0 xs' ⟨x,rfl,i3,h3,hi3,rfl⟩ -
    refine sv33 ?_
    refine scs ?_
    constructor <;> intro hx
    ·refine FloatE_intro [(0,[]),(1,[]),(2,[]),(3,[]),(4,[]),(5,[]),(6,[0,1,2,3,4]),(7,[]),(8,[]),(9,[]),(10,[]),(11,[]),(12,[0,1,2,3,4,5,7,9,10,11]),(13,[11]),(14,[])] [12] (by kernel_rfl) ?_
     refine sv48 ?_
     refine scs ?_
     repeat with_reducible intro ff
     refine ⟨⟨⟨hlt2,by simp [D.flat]⟩,by omega,by omega⟩,?_⟩
     refine CallK_cell [1] e59 (c59 b hb i3 h3 hi3 7 (by decide)) rfl rfl ?_
     rintro r0 xs' ⟨y,⟨hy0,hy1,_⟩,rfl,i4,h4,hi4,rfl⟩ -
     have hy2:=hy1 (by decide)
     refine sv48 ?_
     refine scs ?_
     repeat with_reducible intro ff
     refine ⟨⟨⟨hlt2,by simp [D.flat]⟩,by omega,by omega⟩,?_⟩
     obtain ⟨g3,ok,hg3,hc4⟩:=c306 g hu1 l[k] (IntKind.i64.wrap (1 + y))
     simp only [encHeap,List.map_cons,List.map_nil] at hc4
     refine ck e306 (hc4) rfl ?_
     refine sv48 ?_
     refine scs ?_
     repeat with_reducible intro ff
     refine ⟨⟨⟨hlt2,by simp [D.flat]⟩,by omega,by omega⟩,⟨⟨by omega,by omega⟩,hlt2,by simp [D.flat]⟩,?_⟩
     (apply hK2
      exact ⟨l.length - (k + 1),_,by omega,Ent.wk [0,1,2,8,9,5,6],k + 1,g3,i4,h4,by omega,rfl,⟨hg3,hi4⟩,rfl⟩)
    ·refine scs ?_
     (apply hK2
      exact ⟨l.length - (k + 1),_,by omega,Ent.wk [0,1,2,3,4,5,6],k + 1,g,i3,h3,by omega,rfl,⟨hu1,hi3⟩,rfl⟩)
   ·have hge2':l.length=k:=by omega
    subst hge2'
    have hdi2:decide (((l.length:Nat):Int) < ((l.length:Nat):Int))=false:=by simp
    obtain ⟨hu1,hu2⟩:=hinv2
    refine sv13 ?_
    apply hK2
    refine sv2 ?_
    refine scs ?_
    (apply hK
     exact ⟨_,_,by omega,Ent.wk [0,1,2,3,4,5],n - 1,g,i,h,rfl,⟨⟨by omega,by omega,hu2⟩,hu1⟩,rfl⟩)
  apply hK
  refine evl ?_
  refine scs ?_
  refine FinCN.nt results267 [1,3,4] (.agg [.own 2,.own 3]) [.box [.dat (.sl 1 (b.map encB)),.dat (.int .i64 (i:Int)),.dat (.int .i64 h)],.vec 1 true (g.Bytes.map encI),.vec 1 true (g.Class.map encI)] (⟨g,hv4,rfl,i,h,hv3,rfl⟩) ?_ ?_ ?_ <;> try trivial
  all_goals exact entd
 ·exact ⟨_,_,⟨memNewM.Heap,memNew_sh.1,rfl,0,0,Nat.zero_le _,rfl⟩,by simp⟩
theorem c186 (b:List Int) (hb:BytesL b) (i:Nat) (h:Int) (hi:i <= b.length):CtrC prog 186 [.one (.ptr (.own 1 0 0))] [.box [.dat (.sl 1 (b.map encB)),.dat (.int .i64 (i:Int)),.dat (.int .i64 h)]] (Rheap b fun x=>sizHeap x <= 400):=by
 have hmx:maxLen=9223372036854775807:=rfl
 refine CtrC.body mixed func186 rfl (fun bl=>?_) ?_
 ·refine evl ?_
  refine scs ?_
  refine CallK_cell [1] e267 (c267 b hb i h hi) rfl rfl ?_
  rintro r0 xs' ⟨g,hg,rfl,i1,h1,hi1,rfl⟩ -
  obtain ⟨b1,b2,b3,b4⟩:=shaped_iff hg
  refine evl ?_
  refine scs ?_
  refine CallK_cell [1] e59 (c59 b hb i1 h1 hi1 24 (by decide)) rfl rfl ?_
  rintro r0 xs' ⟨q,_,rfl,i2,h2,hi2,rfl⟩ -
  refine evl ?_
  refine scs ?_
  constructor <;> intro hq
  ·refine FloatR_intro [(0,[]),(1,[]),(2,[]),(3,[]),(4,[]),(5,[]),(6,[0,1]),(7,[]),(8,[]),(9,[])] (by kernel_rfl) ?_
   refine sv3 ?_
   refine scs ?_
   refine CallK_cell [1] e59 (c59 b hb i2 h2 hi2 (g.Bytes.length:Int) (by omega)) rfl rfl ?_
   rintro r0 xs' ⟨y,⟨hy0,hy1,_⟩,rfl,i3,h3,hi3,rfl⟩ -
   have hy2:=hy1 (by omega)
   obtain ⟨k,rfl⟩:∃ k:Nat,y=k:=⟨y.toNat,by omega⟩
   refine sv3 ?_
   refine ⟨⟨by omega,by omega⟩,?_⟩
   refine FinCN.ent (Ent.partBox (k:=2) (j:=0) (o:=3) rfl rfl rfl ?_ ?_) ?_
   ·intro r hr d hd
    obtain ⟨y,_,rfl⟩:=List.mem_map.1 hr
    simp only [encI,List.mem_cons,List.not_mem_nil,or_false] at hd
    subst hd;rfl
   ·simp;omega
   refine sv3 ?_
   have hdl:(g.Bytes.map encI).take k=(g.Bytes.take k).map encI:=by rw [List.map_take]
   refine FinCN.nt results186 [1,6,4] (.agg [.own 2,.own 3]) [.box [.dat (.sl 1 (b.map encB)),.dat (.int .i64 (i3:Int)),.dat (.int .i64 h3)],.vec 1 true (List.map encI (g.Bytes.take k)),.vec 1 true (List.map encI (g.Class))] (⟨⟨g.Bytes.take k,g.Class⟩,by unfold sizHeap;simp;omega,rfl,i3,h3,hi3,rfl⟩) ?_ ?_ ?_ <;> try trivial
   all_goals exact entd
  constructor <;> intro hq
  ·refine ⟨⟨by simp [D.flat],by simp⟩,⟨by simp [D.flat],by simp,by omega,by omega⟩,?_⟩
   rw [show g.Class.map encI ++ [[D.int .i64 0]]=(g.Class ++ [0]).map encI by simp [encI]]
   refine FinCN.nt results186 [1,3,7] (.agg [.own 2,.own 3]) [.box [.dat (.sl 1 (b.map encB)),.dat (.int .i64 (i2:Int)),.dat (.int .i64 h2)],.vec 1 true (List.map encI (g.Bytes)),.vec 1 true (List.map encI (g.Class ++ [0]))] (⟨⟨g.Bytes,g.Class ++ [0]⟩,by unfold sizHeap;simp;omega,by rfl,i2,h2,hi2,rfl⟩) ?_ ?_ ?_ <;> try trivial
   all_goals exact entd
  constructor <;> intro hq
  ·refine FloatE_intro [(0,[]),(1,[]),(2,[]),(3,[]),(4,[]),(5,[]),(7,[]),(6,[0,1,7]),(8,[0,1,2,3,4,5,7]),(9,[0,1]),(10,[]),(11,[])] [8] (by kernel_rfl) ?_
   refine sv49 ?_
   refine scs ?_
   repeat with_reducible intro ff
   refine CallK_cell [1] e59 (c59 b hb i2 h2 hi2 (g.Class.length:Int) (by omega)) rfl rfl ?_
   rintro r0 xs' ⟨y,⟨hy0,hy1,_⟩,rfl,i3,h3,hi3,rfl⟩ -
   have hy2:=hy1 (by omega)
   obtain ⟨k,rfl⟩:∃ k:Nat,y=k:=⟨y.toNat,by omega⟩
   refine sv49 ?_
   refine scs ?_
   repeat with_reducible intro ff
   refine scs ?_
   refine CallK_cell [1,6] e105 (c105 b hb i3 h3 hi3 [-2,3,0,-1] (by simp) (by simp)) rfl rfl ?_
   rintro r0 xs' ⟨z,_,rfl,i4,h4,hi4,rfl⟩ -
   refine sv3 ?_
   refine scs ?_
   rw [setI]
   refine FinCN.nt results186 [1,3,4] (.agg [.own 2,.own 3]) [.box [.dat (.sl 1 (b.map encB)),.dat (.int .i64 (i4:Int)),.dat (.int .i64 h4)],.vec 1 true (List.map encI (g.Bytes)),.vec 1 true (List.map encI (g.Class.set k z))] (⟨⟨g.Bytes,g.Class.set k z⟩,by unfold sizHeap;simp;omega,rfl,i4,h4,hi4,rfl⟩) ?_ ?_ ?_ <;> try trivial
   all_goals exact entd
  constructor <;> intro hq
  ·refine FloatE_intro [(0,[]),(1,[]),(2,[]),(3,[]),(4,[]),(5,[]),(7,[]),(6,[0,1,7]),(8,[0,1,2,3,4,5,7]),(9,[0,1]),(10,[]),(11,[])] [8] (by kernel_rfl) ?_
   refine sv49 ?_
   refine scs ?_
   repeat with_reducible intro ff
   refine CallK_cell [1] e59 (c59 b hb i2 h2 hi2 (g.Bytes.length:Int) (by omega)) rfl rfl ?_
   rintro r0 xs' ⟨y,⟨hy0,hy1,_⟩,rfl,i3,h3,hi3,rfl⟩ -
   have hy2:=hy1 (by omega)
   obtain ⟨k,rfl⟩:∃ k:Nat,y=k:=⟨y.toNat,by omega⟩
   refine sv49 ?_
   refine scs ?_
   repeat with_reducible intro ff
   refine scs ?_
   refine CallK_cell [1,6] e105 (c105 b hb i3 h3 hi3 [-1,256,171,1] (by simp) (by simp)) rfl rfl ?_
   rintro r0 xs' ⟨z,_,rfl,i4,h4,hi4,rfl⟩ -
   refine sv3 ?_
   refine scs ?_
   rw [setI]
   refine FinCN.nt results186 [1,3,4] (.agg [.own 2,.own 3]) [.box [.dat (.sl 1 (b.map encB)),.dat (.int .i64 (i4:Int)),.dat (.int .i64 h4)],.vec 1 true (List.map encI (g.Bytes.set k z)),.vec 1 true (List.map encI (g.Class))] (⟨⟨g.Bytes.set k z,g.Class⟩,by unfold sizHeap;simp;omega,rfl,i4,h4,hi4,rfl⟩) ?_ ?_ ?_ <;> try trivial
   all_goals exact entd
  constructor <;> intro hq
  ·refine FloatR_intro [(0,[]),(1,[]),(2,[]),(5,[]),(8,[]),(3,[0,1,5,8]),(4,[]),(6,[0,1,8,4]),(7,[]),(9,[0,1,4,7]),(10,[]),(11,[])] (by kernel_rfl) ?_
   refine sv3 ?_
   refine scs ?_
   refine CallK_cell [1] e59 (c59 b hb i2 h2 hi2 6 (by decide)) rfl rfl ?_
   rintro r0 xs' ⟨y,⟨hy0,hy1,_⟩,rfl,i3,h3,hi3,rfl⟩ -
   have hy2:=hy1 (by omega)
   refine sv3 ?_
   refine scs ?_
   refine CallK_cell [1] e59 (c59 b hb i3 h3 hi3 12 (by decide)) rfl rfl ?_
   rintro r0 xs' ⟨z,⟨hz0,hz1,_⟩,rfl,i4,h4,hi4,rfl⟩ -
   have hz2:=hz1 (by omega)
   refine sv3 ?_
   refine scs ?_
   refine CallK_cell [1] e59 (c59 b hb i4 h4 hi4 9 (by decide)) rfl rfl ?_
   rintro r0 xs' ⟨u,⟨hu0,hu1,_⟩,rfl,i5,h5,hi5,rfl⟩ -
   have hw1:IntKind.i64.wrap (y * 64)=y * 64:=wrap_id (by omega) (by omega)
   obtain ⟨k,hk⟩:∃ k:Nat,y * 64 + z=k:=⟨(y * 64 + z).toNat,by omega⟩
   have hw2:IntKind.i64.wrap (y * 64 + z)=(k:Int):=by rw [wrap_id (by omega) (by omega)];exact hk
   simp (maxSteps:=2000000) only [go_sem,seval,hw1,hw2,Int.toNat_natCast]
   refine scs ?_
   rw [setI]
   refine FinCN.nt results186 [1,3,4] (.agg [.own 2,.own 3]) [.box [.dat (.sl 1 (b.map encB)),.dat (.int .i64 (i5:Int)),.dat (.int .i64 h5)],.vec 1 true (List.map encI (g.Bytes.set k u)),.vec 1 true (List.map encI (g.Class))] (⟨⟨g.Bytes.set k u,g.Class⟩,by unfold sizHeap;simp;omega,rfl,i5,h5,hi5,rfl⟩) ?_ ?_ ?_ <;> try trivial
   all_goals exact entd
  refine FinCN.nt results186 [1,3,4] (.agg [.own 2,.own 3]) [.box [.dat (.sl 1 (b.map encB)),.dat (.int .i64 (i2:Int)),.dat (.int .i64 h2)],.vec 1 true (g.Bytes.map encI),.vec 1 true (g.Class.map encI)] (⟨g,by unfold sizHeap;omega,rfl,i2,h2,hi2,rfl⟩) ?_ ?_ ?_ <;> try trivial
  all_goals exact entd
 ·exact ⟨_,_,⟨memNewM.Heap,by decide,rfl,0,0,Nat.zero_le _,rfl⟩,by simp⟩
theorem c307 (l:Lists) (hl3:l.Global.length=3) (hl9:l.Own.length=9) (hz:sizLists l <= 1048500) (w c s:Int) (hw:0 <= w /\ w <= 2) (hc:0 <= c /\ c <= 2):∃ (l':Lists) (ok:Bool),(l'.Global.length=3 /\ l'.Own.length=9) /\ sizLists l' <= sizLists l + 1 /\ Ctr prog 307 [.agg ((encLists l).map .dat),.one (.dat (.int .i64 w)),.one (.dat (.int .i64 c)),.one (.dat (.int .i64 s))] [] (.tup [.agg [.own 0,.own 1],.one (.dat (.bool ok))]) [.vec 1 true (l'.Global.map encSList),.vec 1 true (l'.Own.map encSList)]:=by
 have hmx:maxLen=9223372036854775807:=rfl
 have hcc:=c117 l (Lists.sok_of (by omega))
 have hlo:=c54 l (by omega)
 have hoa:=c56 w c hw hc
 have hk0:decide (w * 3 + c < 0)=false:=decide_eq_false (by omega)
 have hla:=c132 l (by omega)
 have hll:(slotsOf l.Global ++ slotsOf l.Own).length <= maxLen:=by
  rw [List.length_append,slotsOf_len,slotsOf_len]
  unfold sizLists sizSListS at hz
  omega
 have hhas:=c133 (slotsOf l.Global ++ slotsOf l.Own) hll s
 simp only [encLists,List.map_cons,List.map_nil] at hcc hlo hla ⊢
 cases hlk:listsOk l with
 | false =>
  rw [hlk] at hlo
  refine ⟨l,false,⟨hl3,hl9⟩,by omega,?_⟩
  refine Ctr.bd mixed func307 rfl ?_
  refine evl ?_
  refine scs ?_
  refine ck e117 (hcc) rfl ?_
  refine evl ?_
  refine scs ?_
  refine ck e54 (hlo) rfl ?_
  refine evl ?_
  first | refine CCallK_of (.one (.dat (.int .i64 0))) ?_ | refine CCallK_og (.one (.dat (.int .i64 0))) ?_
  refine evl ?_
  first | refine CCallK_of (.one (.dat (.bool false))) ?_ | refine CCallK_og (.one (.dat (.bool false))) ?_
  refine evl ?_
  first | refine CCallK_of (.one (.dat (.sl 1 []))) ?_ | refine CCallK_og (.one (.dat (.sl 1 []))) ?_
  refine evl ?_
  first | refine CCallK_of (.one (.dat (.bool false))) ?_ | refine CCallK_og (.one (.dat (.bool false))) ?_
  refine evl ?_
  refine scs ?_
  refine Fin.nt results307 [2,3] ?_ ?_ ?_ <;> try trivial
  all_goals exact entd
 | true =>
  rw [hlk] at hlo
  cases hin:within s 0 23 with
  | false =>
   refine ⟨l,false,⟨hl3,hl9⟩,by omega,?_⟩
   refine Ctr.bd mixed func307 rfl ?_
   refine evl ?_
   refine scs ?_
   refine ck e117 (hcc) rfl ?_
   refine evl ?_
   refine scs ?_
   refine ck e54 (hlo) rfl ?_
   refine evl ?_
   refine scs ?_
   first | refine CCallK_intro e56 (fun hg=>⟨by first | exact trivial | exact hg | exact ⟨hg,hg⟩ | (simp;done) | (simp_all only [Bool.not_false,Bool.not_true,and_self];done),hoa⟩) rfl rfl ?_ | refine Or.inl (CCallK_intro e56 (fun hg=>⟨by first | exact trivial | exact hg | exact ⟨hg,hg⟩ | (simp;done) | (simp_all only [Bool.not_false,Bool.not_true,and_self];done),hoa⟩) rfl rfl ?_)
   refine sv36 ?_
   refine scs ?_
   first | refine CCallK_intro e67 (fun hg=>⟨by first | exact trivial | exact hg | exact ⟨hg,hg⟩ | (simp;done) | (simp_all only [Bool.not_false,Bool.not_true,and_self];done),c67 ..⟩) rfl rfl ?_ | refine Or.inl (CCallK_intro e67 (fun hg=>⟨by first | exact trivial | exact hg | exact ⟨hg,hg⟩ | (simp;done) | (simp_all only [Bool.not_false,Bool.not_true,and_self];done),c67 ..⟩) rfl rfl ?_)
   refine sv50 ?_
   first | refine CCallK_of (.one (.dat (.sl 1 []))) ?_ | refine CCallK_og (.one (.dat (.sl 1 []))) ?_
   refine evl ?_
   first | refine CCallK_of (.one (.dat (.bool false))) ?_ | refine CCallK_og (.one (.dat (.bool false))) ?_
   refine evl ?_
   refine scs ?_
   refine Fin.nt results307 [2,3] ?_ ?_ ?_ <;> try trivial
   all_goals exact entd
  | true =>
   cases hany:(slotsOf l.Global ++ slotsOf l.Own).any (fun y=>y == s) with
   | true =>
    rw [hany] at hhas
    refine ⟨l,false,⟨hl3,hl9⟩,by omega,?_⟩
    refine Ctr.bd mixed func307 rfl ?_
    refine evl ?_
    refine scs ?_
    refine ck e117 (hcc) rfl ?_
    refine evl ?_
    refine scs ?_
    refine ck e54 (hlo) rfl ?_
    refine evl ?_
    refine scs ?_
    first | refine CCallK_intro e56 (fun hg=>⟨by first | exact trivial | exact hg | exact ⟨hg,hg⟩ | (simp;done) | (simp_all only [Bool.not_false,Bool.not_true,and_self];done),hoa⟩) rfl rfl ?_ | refine Or.inl (CCallK_intro e56 (fun hg=>⟨by first | exact trivial | exact hg | exact ⟨hg,hg⟩ | (simp;done) | (simp_all only [Bool.not_false,Bool.not_true,and_self];done),hoa⟩) rfl rfl ?_)
    refine sv36 ?_
    refine scs ?_
    first | refine CCallK_intro e67 (fun hg=>⟨by first | exact trivial | exact hg | exact ⟨hg,hg⟩ | (simp;done) | (simp_all only [Bool.not_false,Bool.not_true,and_self];done),c67 ..⟩) rfl rfl ?_ | refine Or.inl (CCallK_intro e67 (fun hg=>⟨by first | exact trivial | exact hg | exact ⟨hg,hg⟩ | (simp;done) | (simp_all only [Bool.not_false,Bool.not_true,and_self];done),c67 ..⟩) rfl rfl ?_)
    refine sv50 ?_
    refine scs ?_
    refine .inl (CCallK_vec e132 (fun hg=>⟨trivial,hla⟩) rfl ?_)
    refine sv50 ?_
    refine scs ?_
    first | refine CCallK_intro e133 (fun hg=>⟨by first | exact trivial | exact hg | exact ⟨hg,hg⟩ | (simp;done) | (simp_all only [Bool.not_false,Bool.not_true,and_self];done),hhas⟩) rfl rfl ?_ | refine Or.inl (CCallK_intro e133 (fun hg=>⟨by first | exact trivial | exact hg | exact ⟨hg,hg⟩ | (simp;done) | (simp_all only [Bool.not_false,Bool.not_true,and_self];done),hhas⟩) rfl rfl ?_)
    refine sv50 ?_
    refine scs ?_
    refine Fin.nt results307 [2,3] ?_ ?_ ?_ <;> try trivial
    all_goals exact entd
   | false =>
    rw [hany] at hhas
    obtain ⟨l',e1,e2,hgv⟩:=c271 l hl3 hl9 hz w c hw hc s
    refine ⟨l',true,⟨e1.1.trans hl3,e1.2.trans hl9⟩,e2,?_⟩
    refine Ctr.bd mixed func307 rfl ?_
    refine evl ?_
    refine scs ?_
    refine ck e117 (hcc) rfl ?_
    refine evl ?_
    refine scs ?_
    refine ck e54 (hlo) rfl ?_
    refine evl ?_
    refine scs ?_
    first | refine CCallK_intro e56 (fun hg=>⟨by first | exact trivial | exact hg | exact ⟨hg,hg⟩ | (simp;done) | (simp_all only [Bool.not_false,Bool.not_true,and_self];done),hoa⟩) rfl rfl ?_ | refine Or.inl (CCallK_intro e56 (fun hg=>⟨by first | exact trivial | exact hg | exact ⟨hg,hg⟩ | (simp;done) | (simp_all only [Bool.not_false,Bool.not_true,and_self];done),hoa⟩) rfl rfl ?_)
    refine sv36 ?_
    refine scs ?_
    first | refine CCallK_intro e67 (fun hg=>⟨by first | exact trivial | exact hg | exact ⟨hg,hg⟩ | (simp;done) | (simp_all only [Bool.not_false,Bool.not_true,and_self];done),c67 ..⟩) rfl rfl ?_ | refine Or.inl (CCallK_intro e67 (fun hg=>⟨by first | exact trivial | exact hg | exact ⟨hg,hg⟩ | (simp;done) | (simp_all only [Bool.not_false,Bool.not_true,and_self];done),c67 ..⟩) rfl rfl ?_)
    refine sv50 ?_
    refine scs ?_
    refine .inl (CCallK_vec e132 (fun hg=>⟨trivial,hla⟩) rfl ?_)
    refine sv50 ?_
    refine scs ?_
    first | refine CCallK_intro e133 (fun hg=>⟨by first | exact trivial | exact hg | exact ⟨hg,hg⟩ | (simp;done) | (simp_all only [Bool.not_false,Bool.not_true,and_self];done),hhas⟩) rfl rfl ?_ | refine Or.inl (CCallK_intro e133 (fun hg=>⟨by first | exact trivial | exact hg | exact ⟨hg,hg⟩ | (simp;done) | (simp_all only [Bool.not_false,Bool.not_true,and_self];done),hhas⟩) rfl rfl ?_)
    refine sv50 ?_
    refine scs ?_
    refine CallK_os [2,3] e271 (by simp [osOk,St.obj,find]) hgv rfl ?_
    refine evl ?_
    refine scs ?_
    refine Fin.nt results307 [2,3] ?_ ?_ ?_ <;> try trivial
    all_goals exact entd
def Rlists (b:List Int) (p:Lists -> Prop) (r:AV) (xs:List AObj):Prop:=∃ x:Lists,p x /\ r=.agg [.own 2,.own 3] /\ ∃ (i':Nat) (h':Int),i' <= b.length /\ xs=[.box [.dat (.sl 1 (b.map encB)),.dat (.int .i64 (i':Int)),.dat (.int .i64 h')],.vec 1 true (x.Global.map encSList),.vec 1 true (x.Own.map encSList)]
theorem c283_M:Ctr prog 283 [] [] (.agg [.own 0,.own 1]) [.vec 1 true (memNewM.Lists.Global.map encSList),.vec 1 true (memNewM.Lists.Own.map encSList)]:=by
 have h:=c283
 unfold memNewM
 simp only [List.map_replicate]
 exact h
theorem c268 (b:List Int) (hb:BytesL b) (i:Nat) (h:Int) (hi:i <= b.length):CtrC prog 268 [.one (.ptr (.own 1 0 0))] [.box [.dat (.sl 1 (b.map encB)),.dat (.int .i64 (i:Int)),.dat (.int .i64 h)]] (Rlists b fun x=>(x.Global.length=3 /\ x.Own.length=9) /\ sizLists x <= 30):=by
 have hmx:maxLen=9223372036854775807:=rfl
 refine CtrC.body mixed func268 rfl (fun bl=>?_) ?_
 ·refine evl ?_
  refine scs ?_
  refine ck e283 (c283_M) rfl ?_
  refine evl ?_
  refine scs ?_
  refine CallK_cell [1] e59 (c59 b hb i h hi 14 (by decide)) rfl rfl ?_
  rintro r0 xs' ⟨n0,⟨hn0,hn1,hn2⟩,rfl,i1,h1,hi1,rfl⟩ -
  have hn3:=hn1 (by decide)
  refine evl ?_
  refine scs ?_
  refine LoopK_intro (fun zn zs=>∃ (n:Int) (g:Lists) (i:Nat) (h:Int),zn=n.toNat /\ ((0 <= n /\ n <= 14 /\ i <= b.length) /\ (g.Global.length=3 /\ g.Own.length=9) /\ sizLists g + n.toNat <= 30) /\ zs=mkSt [(2,.one (.ptr (.own 2 0 0))),(3,.one (.ptr (.own 5 0 0))),(4,.one (.dat (.int .i64 n))),(0,.one (.ptr (.own 1 0 0)))] [.ballast bl,.box [.dat (.sl 1 (b.map encB)),.dat (.int .i64 (i:Int)),.dat (.int .i64 h)],.box [.emp,.emp],.vec 1 true (g.Global.map encSList),.vec 1 true (g.Own.map encSList),.box [.own 3,.own 4]]) _ _
   (Ent.wk [0,1,2,3,4,5]) ⟨n0,memNewM.Lists,i1,h1,rfl,⟨⟨hn0,by omega,hi1⟩,⟨memNew_sh.2.1,memNew_sh.2.2.1⟩,by have:=memNew_sh.2.2.2;omega⟩,rfl⟩ ?_
  rintro zn zs ⟨n,g,i,h,rfl,hinv,rfl⟩ K hK
  obtain ⟨⟨hv1,hv2,hv3⟩,⟨hv4,hv5⟩,hv6⟩:=hinv
  refine evl ?_
  constructor <;> intro hq
  ·have hn:0 < n:=of_decide_eq_true hq
   have hw:IntKind.i64.wrap (n - 1)=n - 1:=wrap_id (by omega) (by omega)
   refine FloatE_intro [(0,[]),(1,[]),(3,[]),(5,[]),(2,[0,3,5]),(4,[0,5]),(6,[0]),(7,[]),(8,[]),(9,[]),(10,[]),(11,[0,1,3,5,8,9,10]),(12,[10]),(13,[])] [11] (by kernel_rfl) ?_
   refine evl ?_
   refine scs ?_
   repeat with_reducible intro ff
   refine CallK_cell [1] e59 (c59 b hb i h hv3 3 (by decide)) rfl rfl ?_
   rintro r0 xs' ⟨w,⟨hw0,hw1,_⟩,rfl,i2,h2,hi2,rfl⟩ -
   have hw2:=hw1 (by decide)
   refine evl ?_
   refine scs ?_
   repeat with_reducible intro ff
   refine CallK_cell [1] e59 (c59 b hb i2 h2 hi2 3 (by decide)) rfl rfl ?_
   rintro r0 xs' ⟨c,⟨hc0,hc1,_⟩,rfl,i3,h3,hi3,rfl⟩ -
   have hc2:=hc1 (by decide)
   refine evl ?_
   refine scs ?_
   repeat with_reducible intro ff
   refine CallK_cell [1] e59 (c59 b hb i3 h3 hi3 24 (by decide)) rfl rfl ?_
   rintro r0 xs' ⟨s,_,rfl,i4,h4,hi4,rfl⟩ -
   refine evl ?_
   refine scs ?_
   repeat with_reducible intro ff
   obtain ⟨g2,ok,hg2,hz2,hc3⟩:=c307 g hv4 hv5 (by omega) w c s ⟨hw0,by omega⟩ ⟨hc0,by omega⟩
   simp only [encLists,List.map_cons,List.map_nil] at hc3
   refine ck e307 (hc3) rfl ?_
   refine sv2 ?_
   refine scs ?_
   repeat with_reducible intro ff
   refine scs ?_
   (apply hK
    exact ⟨_,_,by omega,Ent.wk [0,1,2,7,8,5],n - 1,g2,i4,h4,rfl,⟨⟨by omega,by omega,hi4⟩,hg2,by omega⟩,rfl⟩)
  apply hK
  refine evl ?_
  refine scs ?_
  refine FinCN.nt results268 [1,3,4] (.agg [.own 2,.own 3]) [.box [.dat (.sl 1 (b.map encB)),.dat (.int .i64 (i:Int)),.dat (.int .i64 h)],.vec 1 true (g.Global.map encSList),.vec 1 true (g.Own.map encSList)] (⟨g,⟨⟨hv4,hv5⟩,by omega⟩,rfl,i,h,hv3,rfl⟩) ?_ ?_ ?_ <;> try trivial
  all_goals exact entd
 ·exact ⟨_,_,⟨memNewM.Lists,⟨⟨memNew_sh.2.1,memNew_sh.2.2.1⟩,by have:=memNew_sh.2.2.2;omega⟩,rfl,0,0,Nat.zero_le _,rfl⟩,by simp⟩
theorem take_sum:∀ (l:List SList) (n:Nat),((l.take n).map sizSList).sum <= (l.map sizSList).sum
 | [],n=>by simp
 | x :: l,0=>by simp
 | x :: l,n + 1=>by
  have:=take_sum l n
  simp only [List.take_succ_cons,List.map_cons,List.sum_cons]
  omega
theorem set_sum:∀ (l:List SList) (k:Nat) (x:SList),((l.set k x).map sizSList).sum <= (l.map sizSList).sum + sizSList x
 | [],k,x=>by simp
 | y :: l,0,x=>by simp only [List.set_cons_zero,List.map_cons,List.sum_cons];omega
 | y :: l,k + 1,x=>by
  have:=set_sum l k x
  simp only [List.set_cons_succ,List.map_cons,List.sum_cons]
  omega
theorem c187 (b:List Int) (hb:BytesL b) (i:Nat) (h:Int) (hi:i <= b.length):CtrC prog 187 [.one (.ptr (.own 1 0 0))] [.box [.dat (.sl 1 (b.map encB)),.dat (.int .i64 (i:Int)),.dat (.int .i64 h)]] (Rlists b fun x=>sizLists x <= 100):=by
 have hmx:maxLen=9223372036854775807:=rfl
 refine CtrC.body mixed func187 rfl (fun bl=>?_) ?_
 ·refine evl ?_
  refine scs ?_
  refine CallK_cell [1] e268 (c268 b hb i h hi) rfl rfl ?_
  rintro r0 xs' ⟨g,⟨⟨hg3,hg9⟩,hgz⟩,rfl,i1,h1,hi1,rfl⟩ -
  refine evl ?_
  refine scs ?_
  refine CallK_cell [1] e59 (c59 b hb i1 h1 hi1 20 (by decide)) rfl rfl ?_
  rintro r0 xs' ⟨q,_,rfl,i2,h2,hi2,rfl⟩ -
  refine evl ?_
  refine scs ?_
  constructor <;> intro hq
  ·refine ⟨by omega,?_⟩
   refine FinCN.ent (Ent.partBoxO (k:=2) (j:=0) (o:=3) rfl rfl rfl (.inr rfl) (by simp;omega)) ?_
   refine sv3 ?_
   have hdl:(g.Global.map encSList).take 2=(g.Global.take 2).map encSList:=by rw [List.map_take]
   have hts:=take_sum g.Global 2
   refine FinCN.nt results187 [1,6,4] (.agg [.own 2,.own 3]) [.box [.dat (.sl 1 (b.map encB)),.dat (.int .i64 (i2:Int)),.dat (.int .i64 h2)],.vec 1 true (List.map encSList (g.Global.take 2)),.vec 1 true (List.map encSList (g.Own))] (⟨⟨g.Global.take 2,g.Own⟩,by unfold sizLists sizSListS at hgz ⊢;simp only [List.length_take];omega,rfl,i2,h2,hi2,rfl⟩) ?_ ?_ ?_ <;> try trivial
   all_goals exact entd
  constructor <;> intro hq
  ·refine ⟨by simp,⟨by simp,by omega,by omega⟩,?_⟩
   rw [show g.Own.map encSList ++ [[D.sl 1 []]]=(g.Own ++ [(⟨[]⟩:SList)]).map encSList by simp [encSList]]
   refine FinCN.nt results187 [1,3,7] (.agg [.own 2,.own 3]) [.box [.dat (.sl 1 (b.map encB)),.dat (.int .i64 (i2:Int)),.dat (.int .i64 h2)],.vec 1 true (List.map encSList (g.Global)),.vec 1 true (List.map encSList (g.Own ++ [(⟨[]⟩:SList)]))] (⟨⟨g.Global,g.Own ++ [(⟨[]⟩:SList)]⟩,by unfold sizLists sizSListS at hgz ⊢;simp [sizSList];omega,rfl,i2,h2,hi2,rfl⟩) ?_ ?_ ?_ <;> try trivial
   all_goals exact entd
  constructor <;> intro hq
  ·refine FloatE_intro [(0,[]),(1,[]),(2,[]),(3,[]),(4,[]),(5,[]),(6,[0,1]),(7,[0,1,2,3,4,5]),(8,[]),(9,[]),(10,[])] [7] (by kernel_rfl) ?_
   simp (maxSteps:=2000000) only [go_sem,seval,chunks]
   refine scs ?_
   repeat with_reducible intro ff
   refine scs ?_
   refine CallK_cell [1] e59 (c59 b hb i2 h2 hi2 (g.Own.length:Int) (by omega)) rfl rfl ?_
   rintro r0 xs' ⟨y,⟨hy0,hy1,_⟩,rfl,i3,h3,hi3,rfl⟩ -
   have hy2:=hy1 (by omega)
   obtain ⟨k,rfl⟩:∃ k:Nat,y=k:=⟨y.toNat,by omega⟩
   have hkl:k < g.Own.length:=by omega
   simp (maxSteps:=2000000) only [go_sem,seval,chunks]
   refine scs ?_
   repeat with_reducible intro ff
   refine scs ?_
   rw [show (g.Own.map encSList).set k [D.sl 1 [[D.int .i64 1],[D.int .i64 2],[D.int .i64 3]]]=(g.Own.set k ⟨[1,2,3]⟩).map encSList by rw [List.map_set];rfl]
   have hss:=set_sum g.Own k ⟨[1,2,3]⟩
   refine FinCN.nt results187 [1,3,4] (.agg [.own 2,.own 3]) [.box [.dat (.sl 1 (b.map encB)),.dat (.int .i64 (i3:Int)),.dat (.int .i64 h3)],.vec 1 true (List.map encSList (g.Global)),.vec 1 true (List.map encSList (g.Own.set k ⟨[1,2,3]⟩))] (⟨⟨g.Global,g.Own.set k ⟨[1,2,3]⟩⟩,by unfold sizLists sizSListS at hgz ⊢;simp only [List.length_set,sizSList,List.length_cons,List.length_nil] at hss ⊢;omega,rfl,i3,h3,hi3,rfl⟩) ?_ ?_ ?_ <;> try trivial
   all_goals exact entd
  constructor <;> intro hq
  ·refine CallK_cell [1] e59 (c59 b hb i2 h2 hi2 3 (by decide)) rfl rfl ?_
   rintro r0 xs' ⟨y,⟨hy0,hy1,_⟩,rfl,i3,h3,hi3,rfl⟩ -
   have hy2:=hy1 (by omega)
   obtain ⟨k,rfl⟩:∃ k:Nat,y=k:=⟨y.toNat,by omega⟩
   have hkl:k < g.Global.length:=by omega
   obtain ⟨Z,hY⟩:∃ Z,g.Global[k]=Z:=⟨_,rfl⟩
   obtain ⟨Y,rfl⟩:∃ Y,Z=⟨Y⟩:=⟨Z.Slots,rfl⟩
   have hYl:Y.length <= 1048576:=by
    have:=((Lists.sok_of (show sizLists g <= 1048576 by omega)).2.1 _ (List.getElem_mem hkl)).1
    rw [hY] at this;exact this
   have hrow3:(g.Global.map encSList).getD k []=[.sl 1 (Y.map encI)]:=by rw [getD_map hkl,hY];rfl
   refine sv3 ?_
   refine scs ?_
   refine FloatO_intro 3 k 0 [(0,[]),(1,[]),(2,[]),(3,[]),(4,[]),(5,[]),(6,[]),(7,[]),(8,[]),(9,[]),(10,[0,1,2,3,4,5,6,7,8,9]),(11,[0,1,2,3,4,5,6,7,8]),(12,[0,1,2,3,4,5,6,7,8]),(13,[0,1,2]),(14,[]),(15,[]),(16,[])] [] rfl (by rw [hrow3];rfl) (by rw [List.length_map];exact hkl) (by decide) (by kernel_rfl) ?_
   intro v2
   have hgh:=set_get hkl [D.hdr v2]
   simp (maxSteps:=2000000) only [go_sem,seval,List.length_set,hrow3,hgh,chunks]
   refine ⟨⟨by omega,by omega⟩,⟨hkl,by simp [D.flat]⟩,⟨⟨by simp [D.flat],by simp [D.flat],by simp [D.flat],by simp [D.flat]⟩,by simp⟩,⟨⟨by omega,by omega⟩,hkl,by simp [D.flat]⟩,?_⟩
   refine CallK_cell [1,8] e105 (c105 b hb i3 h3 hi3 [-1,24,5,6] (by simp) (by simp)) rfl rfl ?_
   rintro r0 xs' ⟨z,_,rfl,i4,h4,hi4,rfl⟩ -
   simp (maxSteps:=2000000) only [go_sem,seval,List.length_set,hrow3,hgh,chunks]
   have hf1:k < g.Global.length /\ ∀ d ∈ [D.hdr v2],d.flat=true:=⟨hkl,by simp [D.flat]⟩
   refine ⟨⟨⟨by omega,by omega⟩,hf1⟩,⟨by simp [D.flat],by simp⟩,⟨⟨by omega,by omega⟩,hf1⟩,⟨by simp [D.flat],by simp,by omega,by omega⟩,⟨by omega,by omega⟩,⟨by simp,by simp,hkl⟩,?_⟩
   have hrw:((g.Global.map encSList).set k [.hdr v2]).set k [.sl 1 (Y.map encI ++ [[.int .i64 z]])]=(g.Global.set k ⟨Y ++ [z]⟩).map encSList:=by
    have:=set_row g.Global k v2 (Y ++ [z])
    rwa [List.map_append] at this
   rw [hrw]
   have hss:=addL_sum g.Global k [z]
   rw [add_same hkl hY] at hss
   refine FinCN.nt results187 [1,3,4] (.agg [.own 2,.own 3]) [.box [.dat (.sl 1 (b.map encB)),.dat (.int .i64 (i4:Int)),.dat (.int .i64 h4)],.vec 1 true (List.map encSList (g.Global.set k ⟨Y ++ [z]⟩)),.vec 1 true (List.map encSList (g.Own))] (⟨⟨g.Global.set k ⟨Y ++ [z]⟩,g.Own⟩,by unfold sizLists sizSListS at hgz ⊢;simp only [List.length_set,List.length_cons,List.length_nil] at hss ⊢;omega,rfl,i4,h4,hi4,rfl⟩) ?_ ?_ ?_ <;> try trivial
   all_goals exact entd
  refine FinCN.nt results187 [1,3,4] (.agg [.own 2,.own 3]) [.box [.dat (.sl 1 (b.map encB)),.dat (.int .i64 (i2:Int)),.dat (.int .i64 h2)],.vec 1 true (g.Global.map encSList),.vec 1 true (g.Own.map encSList)] (⟨g,by omega,rfl,i2,h2,hi2,rfl⟩) ?_ ?_ ?_ <;> try trivial
  all_goals exact entd
 ·exact ⟨_,_,⟨memNewM.Lists,by have:=memNew_sh.2.2.2;omega,rfl,0,0,Nat.zero_le _,rfl⟩,by simp⟩
theorem c100 (b:List Int) (hb:BytesL b) (i:Nat) (h:Int) (hi:i <= b.length):CtrC prog 100 [.one (.ptr (.own 1 0 0))] [.box [.dat (.sl 1 (b.map encB)),.dat (.int .i64 (i:Int)),.dat (.int .i64 h)]] (Rmh b 200):=by
 have hmx:maxLen=9223372036854775807:=rfl
 refine CtrC.body mixed func100 rfl (fun bl=>?_) ?_
 ·refine evl ?_
  refine scs ?_
  refine CallK_cell [1] e134 (c134 b hb i h hi 22 (by decide)) rfl rfl ?_
  rintro r0 xs' ⟨m,x,hm,rfl,i1,h1,hi1,rfl⟩ -
  refine evl ?_
  refine scs ?_
  refine CallK_cell [1] e101 (c101 b hb i1 h1 hi1 6 (by decide)) rfl rfl ?_
  rintro r0 xs' ⟨o,rfl,i2,h2,hi2,rfl⟩ -
  refine evl ?_
  refine scs ?_
  constructor <;> intro ho
  ·refine CallK_cell [1] e104 (c104 b hb i2 h2 hi2) rfl rfl ?_
   rintro r0 xs' ⟨z,_,rfl,i3,h3,hi3,rfl⟩ -
   refine evl ?_
   refine scs ?_
   refine CallK_cell [1] e59 (c59 b hb i3 h3 hi3 24 (by decide)) rfl rfl ?_
   rintro r0 xs' ⟨q,_,rfl,i4,h4,hi4,rfl⟩ -
   refine evl ?_
   refine scs ?_
   constructor <;> intro hq
   ·refine CallK_cell [1] e186 (c186 b hb i4 h4 hi4) rfl rfl ?_
    rintro r0 xs' ⟨g,hg,rfl,i5,h5,hi5,rfl⟩ -
    refine evl ?_
    refine scs ?_
    refine FinCN.nt results100 [1,8,9,5,6] (.tup [.agg [.own 2,.own 3,.own 4,.own 5],.one (.dat (.int .i64 z))]) [.box [.dat (.sl 1 (b.map encB)),.dat (.int .i64 (i5:Int)),.dat (.int .i64 h5)],.vec 1 true (g.Bytes.map encI),.vec 1 true (g.Class.map encI),.vec 1 true (m.Lists.Global.map encSList),.vec 1 true (m.Lists.Own.map encSList)] (⟨⟨g,m.Lists⟩,z,⟨hg,hm.2⟩,rfl,i5,h5,hi5,rfl⟩) ?_ ?_ ?_ <;> try trivial
    all_goals exact entd
   constructor <;> intro hq
   ·refine CallK_cell [1] e187 (c187 b hb i4 h4 hi4) rfl rfl ?_
    rintro r0 xs' ⟨g,hg,rfl,i5,h5,hi5,rfl⟩ -
    refine evl ?_
    refine scs ?_
    refine FinCN.nt results100 [1,3,4,8,9] (.tup [.agg [.own 2,.own 3,.own 4,.own 5],.one (.dat (.int .i64 z))]) [.box [.dat (.sl 1 (b.map encB)),.dat (.int .i64 (i5:Int)),.dat (.int .i64 h5)],.vec 1 true (m.Heap.Bytes.map encI),.vec 1 true (m.Heap.Class.map encI),.vec 1 true (g.Global.map encSList),.vec 1 true (g.Own.map encSList)] (⟨⟨m.Heap,g⟩,z,⟨hm.1,Nat.le_trans hg (by decide)⟩,rfl,i5,h5,hi5,rfl⟩) ?_ ?_ ?_ <;> try trivial
    all_goals exact entd
   refine FinCN.nt results100 [1,3,4,5,6] (.tup [.agg [.own 2,.own 3,.own 4,.own 5],.one (.dat (.int .i64 z))]) [.box [.dat (.sl 1 (b.map encB)),.dat (.int .i64 (i4:Int)),.dat (.int .i64 h4)],.vec 1 true (m.Heap.Bytes.map encI),.vec 1 true (m.Heap.Class.map encI),.vec 1 true (m.Lists.Global.map encSList),.vec 1 true (m.Lists.Own.map encSList)] (⟨m,z,hm,rfl,i4,h4,hi4,rfl⟩) ?_ ?_ ?_ <;> try trivial
   all_goals exact entd
  refine CallK_cell [1] e59 (c59 b hb i2 h2 hi2 24 (by decide)) rfl rfl ?_
  rintro r0 xs' ⟨q,_,rfl,i4,h4,hi4,rfl⟩ -
  refine evl ?_
  refine scs ?_
  constructor <;> intro hq
  ·refine CallK_cell [1] e186 (c186 b hb i4 h4 hi4) rfl rfl ?_
   rintro r0 xs' ⟨g,hg,rfl,i5,h5,hi5,rfl⟩ -
   refine evl ?_
   refine scs ?_
   refine FinCN.nt results100 [1,8,9,5,6] (.tup [.agg [.own 2,.own 3,.own 4,.own 5],.one (.dat (.int .i64 x))]) [.box [.dat (.sl 1 (b.map encB)),.dat (.int .i64 (i5:Int)),.dat (.int .i64 h5)],.vec 1 true (g.Bytes.map encI),.vec 1 true (g.Class.map encI),.vec 1 true (m.Lists.Global.map encSList),.vec 1 true (m.Lists.Own.map encSList)] (⟨⟨g,m.Lists⟩,x,⟨hg,hm.2⟩,rfl,i5,h5,hi5,rfl⟩) ?_ ?_ ?_ <;> try trivial
   all_goals exact entd
  constructor <;> intro hq
  ·refine CallK_cell [1] e187 (c187 b hb i4 h4 hi4) rfl rfl ?_
   rintro r0 xs' ⟨g,hg,rfl,i5,h5,hi5,rfl⟩ -
   refine evl ?_
   refine scs ?_
   refine FinCN.nt results100 [1,3,4,8,9] (.tup [.agg [.own 2,.own 3,.own 4,.own 5],.one (.dat (.int .i64 x))]) [.box [.dat (.sl 1 (b.map encB)),.dat (.int .i64 (i5:Int)),.dat (.int .i64 h5)],.vec 1 true (m.Heap.Bytes.map encI),.vec 1 true (m.Heap.Class.map encI),.vec 1 true (g.Global.map encSList),.vec 1 true (g.Own.map encSList)] (⟨⟨m.Heap,g⟩,x,⟨hm.1,Nat.le_trans hg (by decide)⟩,rfl,i5,h5,hi5,rfl⟩) ?_ ?_ ?_ <;> try trivial
   all_goals exact entd
  refine FinCN.nt results100 [1,3,4,5,6] (.tup [.agg [.own 2,.own 3,.own 4,.own 5],.one (.dat (.int .i64 x))]) [.box [.dat (.sl 1 (b.map encB)),.dat (.int .i64 (i4:Int)),.dat (.int .i64 h4)],.vec 1 true (m.Heap.Bytes.map encI),.vec 1 true (m.Heap.Class.map encI),.vec 1 true (m.Lists.Global.map encSList),.vec 1 true (m.Lists.Own.map encSList)] (⟨m,x,hm,rfl,i4,h4,hi4,rfl⟩) ?_ ?_ ?_ <;> try trivial
  all_goals exact entd
 ·exact ⟨_,_,⟨memNewM,0,(sh_sm memNew_sh).more (by decide),rfl,0,0,Nat.zero_le _,rfl⟩,by simp⟩
def Rlk (b:List Int) (N:Nat) (r:AV) (xs:List AObj):Prop:=∃ (m:Mem) (k:Bkt) (x:Int),Sm m N /\ r=.tup [.agg [.own 2,.own 3,.own 4,.own 5],.agg ((encBkt k).map .dat),.one (.dat (.int .i64 x))] /\ ∃ (i':Nat) (h':Int),i' <= b.length /\ xs=[.box [.dat (.sl 1 (b.map encB)),.dat (.int .i64 (i':Int)),.dat (.int .i64 h')],.vec 1 true (m.Heap.Bytes.map encI),.vec 1 true (m.Heap.Class.map encI),.vec 1 true (m.Lists.Global.map encSList),.vec 1 true (m.Lists.Own.map encSList)]
theorem c58 (b:List Int) (hb:BytesL b) (i:Nat) (h:Int) (hi:i <= b.length):CtrC prog 58 [.one (.ptr (.own 1 0 0))] [.box [.dat (.sl 1 (b.map encB)),.dat (.int .i64 (i:Int)),.dat (.int .i64 h)]] (Rlk b 400):=by
 have hmx:maxLen=9223372036854775807:=rfl
 refine CtrC.body mixed func58 rfl (fun bl=>?_) ?_
 ·refine evl ?_
  refine scs ?_
  refine CallK_cell [1] e134 (c134 b hb i h hi 8 (by decide)) rfl rfl ?_
  rintro r0 xs' ⟨m0,x,hm0,rfl,i1,h1,hi1,rfl⟩ -
  refine evl ?_
  refine scs ?_
  refine CallK_cell [1] e59 (c59 b hb i1 h1 hi1 9 (by decide)) rfl rfl ?_
  rintro r0 xs' ⟨y,_,rfl,i2,h2,hi2,rfl⟩ -
  refine evl ?_
  refine scs ?_
  refine CallK_cell [1] e59 (c59 b hb i2 h2 hi2 2 (by decide)) rfl rfl ?_
  rintro r0 xs' ⟨z,_,rfl,i3,h3,hi3,rfl⟩ -
  refine evl ?_
  refine scs ?_
  refine CallK_cell [1] e59 (c59 b hb i3 h3 hi3 6 (by decide)) rfl rfl ?_
  rintro r0 xs' ⟨n0,⟨hn0,hn1,hn2⟩,rfl,i4,h4,hi4,rfl⟩ -
  have hn3:=hn1 (by decide)
  refine evl ?_
  refine scs ?_
  refine LoopK_intro (fun zn zs=>∃ (n:Int) (m:Mem) (p:Int) (u:Int) (v:Int) (l:List Int) (i:Nat) (h:Int),zn=n.toNat /\ ((0 <= n /\ n <= 6 /\ i <= b.length) /\ Sm m (224 - 4 * n.toNat) /\ 1 <= l.length /\ l.length + n.toNat <= 7) /\ zs=mkSt [(2,.one (.ptr (.own 2 0 0))),(3,.one (.ptr (.own 3 0 0))),(4,.one (.dat (.int .i64 0))),(5,.one (.ptr (.own 8 0 0))),(6,.one (.dat (.int .i64 x))),(7,.one (.ptr (.own 9 0 0))),(8,.one (.own 10)),(9,.one (.dat (.int .i64 n))),(0,.one (.ptr (.own 1 0 0)))] [.ballast bl,.box [.dat (.sl 1 (b.map encB)),.dat (.int .i64 (i:Int)),.dat (.int .i64 h)],.box [.emp,.emp,.emp,.emp],.box [.dat (.int .i64 0),.dat (.int .i64 0),.dat (.int .i64 0)],.vec 1 true (m.Heap.Bytes.map encI),.vec 1 true (m.Heap.Class.map encI),.vec 1 true (m.Lists.Global.map encSList),.vec 1 true (m.Lists.Own.map encSList),.box [.own 4,.own 5,.own 6,.own 7],.box [.dat (.int .i64 p),.dat (.int .i64 u),.dat (.int .i64 v)],.vec 1 true (l.map encI)]) _ _
   (Ent.wk [0,1,2,3,4,5,6,7,8,9,10]) ⟨n0,m0,0,y,z,[x],i4,h4,rfl,⟨⟨hn0,by omega,hi4⟩,hm0.more (by omega),by simp,by simp;omega⟩,rfl⟩ ?_
  rintro zn zs ⟨n,m,p,u,v,l,i,h,rfl,hinv,rfl⟩ K hK
  obtain ⟨⟨hv1,hv2,hv3⟩,hv4,hv5,hv6⟩:=hinv
  refine evl ?_
  constructor <;> intro hq
  ·have hn:0 < n:=of_decide_eq_true hq
   have hw:IntKind.i64.wrap (n - 1)=n - 1:=wrap_id (by omega) (by omega)
   have hn5:224 - 4 * n.toNat + 4 <= 224 - 4 * (n - 1).toNat:=by omega
   refine FloatE_intro [(0,[]),(1,[]),(2,[0]),(3,[]),(4,[]),(5,[]),(6,[]),(7,[]),(8,[0,1,4,5,6,7]),(9,[6,7]),(10,[]),(11,[])] [8] (by kernel_rfl) ?_
   refine evl ?_
   refine scs ?_
   repeat with_reducible intro ff
   refine CallK_cell [1] e59 (c59 b hb i h hv3 3 (by decide)) rfl rfl ?_
   rintro r0 xs' ⟨w,⟨hw0,hw1,_⟩,rfl,i5,h5,hi5,rfl⟩ -
   have hw3:=hw1 (by decide)
   refine evl ?_
   refine scs ?_
   repeat with_reducible intro ff
   obtain ⟨m2,k,code,hm2,hc2⟩:=c102_any m _ (by omega) hv4 w 16 ⟨hw0,by omega⟩
   have hm2':=hm2.more hn5
   simp only [encMem,encHeap,encLists,List.map_cons,List.map_nil,List.cons_append,List.nil_append,List.map_append] at hc2
   refine ck e102 (hc2) rfl ?_
   refine sv2 ?_
   refine scs ?_
   repeat with_reducible intro ff
   constructor <;> intro hcd
   ·refine scs ?_
    (apply hK
     exact ⟨_,_,by omega,Ent.wk [0,1,2,3,12,13,14,15,8,9,10],n - 1,m2,p,u,v,l,i5,h5,rfl,⟨⟨by omega,by omega,hi5⟩,hm2',hv5,by omega⟩,rfl⟩)
   ·refine ⟨⟨by simp [D.flat],by simp⟩,⟨by simp [D.flat],by simp,by omega,by omega⟩,?_⟩
    refine FloatR_intro [(0,[]),(1,[]),(2,[]),(4,[]),(3,[0,1,4]),(5,[0,1]),(6,[]),(7,[]),(8,[]),(9,[]),(10,[]),(11,[10])] (by kernel_rfl) ?_
    refine evl ?_
    refine scs ?_
    refine CallK_cell [1] e59 (c59 b hb i5 h5 hi5 6 (by decide)) rfl rfl ?_
    rintro r0 xs' ⟨y1,_,rfl,i6,h6,hi6,rfl⟩ -
    refine evl ?_
    refine scs ?_
    refine CallK_cell [1] e59 (c59 b hb i6 h6 hi6 999 (by decide)) rfl rfl ?_
    rintro r0 xs' ⟨v1,_,rfl,i7,h7,hi7,rfl⟩ -
    refine evl ?_
    refine scs ?_
    have hc3:=c10 m2 (hm2.siz (by omega)).1 k ⟨y1,v1,0⟩
    have hm3:=nodePut_sm hm2' k ⟨y1,v1,0⟩
    generalize nodePutM m2 k ⟨y1,v1,0⟩=R at hc3 hm3
    obtain ⟨m3,code3⟩:=R
    simp only [encMem,encHeap,encLists,encNode,List.map_cons,List.map_nil,List.cons_append,List.nil_append,List.map_append] at hc3 hm3
    refine ck e10 (hc3) rfl ?_
    refine evl ?_
    refine scs ?_
    refine CallK_cell [1] e101 (c101 b hb i7 h7 hi7 4 (by decide)) rfl rfl ?_
    rintro r0 xs' ⟨o2,rfl,i8,h8,hi8,rfl⟩ -
    refine sv2 ?_
    refine scs ?_
    constructor <;> intro ho2
    ·have hc4:=c135 m3 (hm3.siz (by omega)).1 ⟨p,u,v⟩ k
     have hm4:=linkIn_sm hm3 ⟨p,u,v⟩ k
     generalize linkInM m3 ⟨p,u,v⟩ k=R at hc4 hm4
     obtain ⟨m4,⟨p4,u4,v4⟩,is4⟩:=R
     simp only [encMem,encHeap,encLists,encBkt,List.map_cons,List.map_nil,List.cons_append,List.nil_append,List.map_append] at hc4 hm4
     refine ck e135 (hc4) rfl ?_
     refine sv2 ?_
     refine scs ?_
     (apply hK
      exact ⟨_,_,by omega,Ent.wk [0,1,2,3,22,23,24,25,8,9,17],n - 1,m4,p4,u4,v4,l ++ [k],i8,h8,rfl,⟨⟨by omega,by omega,hi8⟩,hm4,by simp,by rw [List.length_append,List.length_singleton];omega⟩,rfl⟩)
    ·refine scs ?_
     (apply hK
      exact ⟨_,_,by omega,Ent.wk [0,1,2,3,18,19,20,21,8,9,17],n - 1,m3,p,u,v,l ++ [k],i8,h8,rfl,⟨⟨by omega,by omega,hi8⟩,hm3,by simp,by rw [List.length_append,List.length_singleton];omega⟩,rfl⟩)
  apply hK
  have hmm:Sm m 224:=hv4.more (by omega)
  refine sv3 ?_
  refine scs ?_
  refine CallK_cell [1] e59 (c59 b hb i h hv3 (l.length:Int) (by omega)) rfl rfl ?_
  rintro r0 xs' ⟨z1,⟨hz0,hz1,_⟩,rfl,i5,h5,hi5,rfl⟩ -
  have hz2:=hz1 (by omega)
  obtain ⟨y2,rfl⟩:∃ y2:Nat,z1=y2:=⟨z1.toNat,by omega⟩
  have hyl:y2 < l.length:=by omega
  refine sv47 ?_
  refine scs ?_
  refine CallK_cell [1] e59 (c59 b hb i5 h5 hi5 20 (by decide)) rfl rfl ?_
  rintro r0 xs' ⟨q,_,rfl,i6,h6,hi6,rfl⟩ -
  obtain ⟨x6,hx6⟩:∃ x6,l[y2]=x6:=⟨_,rfl⟩
  rw [hx6]
  refine evl ?_
  refine scs ?_
  constructor <;> intro hq
  ·obtain ⟨m7,code7,hm7,hc7⟩:=c103_any m 224 (by decide) hmm 0 x6 (by decide)
   simp only [encMem,encHeap,encLists,List.map_cons,List.map_nil,List.cons_append,List.nil_append,List.map_append] at hc7
   refine ck e103 (hc7) rfl ?_
   refine evl ?_
   refine scs ?_
   refine FloatR_intro [(0,[]),(1,[]),(2,[]),(3,[1,2]),(4,[2]),(5,[])] (by kernel_rfl) ?_
   refine evl ?_
   refine scs ?_
   refine FinCN.nt results58 [1,11,12,13,14] (.tup [.agg [.own 2,.own 3,.own 4,.own 5],.agg ((encBkt ⟨p,u,v⟩).map .dat),.one (.dat (.int .i64 x6))]) [.box [.dat (.sl 1 (b.map encB)),.dat (.int .i64 (i6:Int)),.dat (.int .i64 h6)],.vec 1 true (m7.Heap.Bytes.map encI),.vec 1 true (m7.Heap.Class.map encI),.vec 1 true (m7.Lists.Global.map encSList),.vec 1 true (m7.Lists.Own.map encSList)] (⟨m7,⟨p,u,v⟩,x6,hm7.more (by decide),rfl,i6,h6,hi6,rfl⟩) ?_ ?_ ?_ <;> try trivial
   all_goals exact entd
  constructor <;> intro hq
  ·have hc7:=c136 m (hmm.siz (by decide)).1 x6 x6
   have hm7:=nextTo_sm hmm x6 x6
   generalize nextToM m x6 x6=R at hc7 hm7
   obtain ⟨m7,code7⟩:=R
   simp only [encMem,encHeap,encLists,List.map_cons,List.map_nil,List.cons_append,List.nil_append,List.map_append] at hc7 hm7
   refine ck e136 (hc7) rfl ?_
   refine evl ?_
   refine scs ?_
   refine FloatR_intro [(0,[]),(1,[]),(2,[]),(3,[1,2]),(4,[2]),(5,[])] (by kernel_rfl) ?_
   refine evl ?_
   refine scs ?_
   refine FinCN.nt results58 [1,11,12,13,14] (.tup [.agg [.own 2,.own 3,.own 4,.own 5],.agg ((encBkt ⟨p,u,v⟩).map .dat),.one (.dat (.int .i64 x6))]) [.box [.dat (.sl 1 (b.map encB)),.dat (.int .i64 (i6:Int)),.dat (.int .i64 h6)],.vec 1 true (m7.Heap.Bytes.map encI),.vec 1 true (m7.Heap.Class.map encI),.vec 1 true (m7.Lists.Global.map encSList),.vec 1 true (m7.Lists.Own.map encSList)] (⟨m7,⟨p,u,v⟩,x6,hm7.more (by decide),rfl,i6,h6,hi6,rfl⟩) ?_ ?_ ?_ <;> try trivial
   all_goals exact entd
  constructor <;> intro hq
  ·refine CallK_cell [1] e104 (c104 b hb i6 h6 hi6) rfl rfl ?_
   rintro r0 xs' ⟨z3,_,rfl,i7,h7,hi7,rfl⟩ -
   refine evl ?_
   refine scs ?_
   refine FloatR_intro [(0,[]),(1,[]),(2,[]),(3,[1,2]),(4,[2]),(5,[])] (by kernel_rfl) ?_
   refine evl ?_
   refine scs ?_
   refine FinCN.nt results58 [1,4,5,6,7] (.tup [.agg [.own 2,.own 3,.own 4,.own 5],.agg ((encBkt ⟨z3,u,v⟩).map .dat),.one (.dat (.int .i64 x6))]) [.box [.dat (.sl 1 (b.map encB)),.dat (.int .i64 (i7:Int)),.dat (.int .i64 h7)],.vec 1 true (m.Heap.Bytes.map encI),.vec 1 true (m.Heap.Class.map encI),.vec 1 true (m.Lists.Global.map encSList),.vec 1 true (m.Lists.Own.map encSList)] (⟨m,⟨z3,u,v⟩,x6,hmm.more (by decide),rfl,i7,h7,hi7,rfl⟩) ?_ ?_ ?_ <;> try trivial
   all_goals exact entd
  constructor <;> intro hq
  ·refine scs ?_
   refine CallK_cell [1,11] e105 (c105 b hb i6 h6 hi6 [-1,3,4] (by simp) (by simp)) rfl rfl ?_
   rintro r0 xs' ⟨z3,_,rfl,i7,h7,hi7,rfl⟩ -
   refine evl ?_
   refine scs ?_
   refine FloatR_intro [(0,[]),(1,[]),(2,[]),(3,[1,2]),(4,[2]),(5,[])] (by kernel_rfl) ?_
   refine evl ?_
   refine scs ?_
   refine FinCN.nt results58 [1,4,5,6,7] (.tup [.agg [.own 2,.own 3,.own 4,.own 5],.agg ((encBkt ⟨p,u,z3⟩).map .dat),.one (.dat (.int .i64 x6))]) [.box [.dat (.sl 1 (b.map encB)),.dat (.int .i64 (i7:Int)),.dat (.int .i64 h7)],.vec 1 true (m.Heap.Bytes.map encI),.vec 1 true (m.Heap.Class.map encI),.vec 1 true (m.Lists.Global.map encSList),.vec 1 true (m.Lists.Own.map encSList)] (⟨m,⟨p,u,z3⟩,x6,hmm.more (by decide),rfl,i7,h7,hi7,rfl⟩) ?_ ?_ ?_ <;> try trivial
   all_goals exact entd
  constructor <;> intro hq
  ·refine CallK_cell [1] e100 (c100 b hb i6 h6 hi6) rfl rfl ?_
   rintro r0 xs' ⟨m7,z3,hm7,rfl,i7,h7,hi7,rfl⟩ -
   refine evl ?_
   refine scs ?_
   refine FloatR_intro [(0,[]),(1,[]),(2,[]),(3,[1,2]),(4,[2]),(5,[])] (by kernel_rfl) ?_
   refine evl ?_
   refine scs ?_
   refine FinCN.nt results58 [1,11,12,13,14] (.tup [.agg [.own 2,.own 3,.own 4,.own 5],.agg ((encBkt ⟨p,u,v⟩).map .dat),.one (.dat (.int .i64 x6))]) [.box [.dat (.sl 1 (b.map encB)),.dat (.int .i64 (i7:Int)),.dat (.int .i64 h7)],.vec 1 true (m7.Heap.Bytes.map encI),.vec 1 true (m7.Heap.Class.map encI),.vec 1 true (m7.Lists.Global.map encSList),.vec 1 true (m7.Lists.Own.map encSList)] (⟨m7,⟨p,u,v⟩,x6,hm7.more (by decide),rfl,i7,h7,hi7,rfl⟩) ?_ ?_ ?_ <;> try trivial
   all_goals exact entd
  refine FloatR_intro [(0,[]),(1,[]),(2,[]),(3,[1,2]),(4,[2]),(5,[])] (by kernel_rfl) ?_
  refine evl ?_
  refine scs ?_
  refine FinCN.nt results58 [1,4,5,6,7] (.tup [.agg [.own 2,.own 3,.own 4,.own 5],.agg ((encBkt ⟨p,u,v⟩).map .dat),.one (.dat (.int .i64 x6))]) [.box [.dat (.sl 1 (b.map encB)),.dat (.int .i64 (i6:Int)),.dat (.int .i64 h6)],.vec 1 true (m.Heap.Bytes.map encI),.vec 1 true (m.Heap.Class.map encI),.vec 1 true (m.Lists.Global.map encSList),.vec 1 true (m.Lists.Own.map encSList)] (⟨m,⟨p,u,v⟩,x6,hmm.more (by decide),rfl,i6,h6,hi6,rfl⟩) ?_ ?_ ?_ <;> try trivial
  all_goals exact entd
 ·exact ⟨_,_,⟨memNewM,⟨0,0,0⟩,0,(sh_sm memNew_sh).more (by decide),rfl,0,0,Nat.zero_le _,rfl⟩,by simp [encBkt]⟩
def Rsk (r:AV) (xs:List AObj):Prop:=∃ (m:Mem) (h k:Int),Sm m 400 /\ r=.tup [.agg [.own 1,.own 2,.own 3,.own 4],.one (.dat (.int .i64 h)),.one (.dat (.int .i64 k))] /\ xs=[.vec 1 true (m.Heap.Bytes.map encI),.vec 1 true (m.Heap.Class.map encI),.vec 1 true (m.Lists.Global.map encSList),.vec 1 true (m.Lists.Own.map encSList)]
def Rli (r:AV) (xs:List AObj):Prop:=∃ (m:Mem) (k:Bkt) (x:Int),Sm m 400 /\ r=.tup [.agg [.own 1,.own 2,.own 3,.own 4],.agg ((encBkt k).map .dat),.one (.dat (.int .i64 x))] /\ xs=[.vec 1 true (m.Heap.Bytes.map encI),.vec 1 true (m.Heap.Class.map encI),.vec 1 true (m.Lists.Global.map encSList),.vec 1 true (m.Lists.Own.map encSList)]
theorem c20 (b:List Int) (hb:BytesL b):CtrC prog 20 [.one (.dat (.sl 1 (b.map encB)))] [] Rli:=by
 refine CtrC.body mixed func20 rfl (fun bl=>?_) ?_
 ·refine evl ?_
  refine scs ?_
  refine CallK_cell [] e35 (c35 b hb) rfl rfl ?_
  rintro r0 xs' ⟨h,rfl,rfl⟩ -
  refine evl ?_
  refine scs ?_
  refine CallK_cell [3] e58 (c58 b hb 0 h (Nat.zero_le _)) rfl rfl ?_
  rintro r0 xs' ⟨m,⟨p,u,v⟩,x,hm,rfl,i1,h1,hi1,rfl⟩ -
  refine sv51 ?_
  refine scs ?_
  refine FinCN.nt results20 [4,5,6,7] (.tup [.agg [.own 1,.own 2,.own 3,.own 4],.agg ((encBkt ⟨p,u,v⟩).map .dat),.one (.dat (.int .i64 x))]) [.vec 1 true (m.Heap.Bytes.map encI),.vec 1 true (m.Heap.Class.map encI),.vec 1 true (m.Lists.Global.map encSList),.vec 1 true (m.Lists.Own.map encSList)] (⟨m,⟨p,u,v⟩,x,hm,rfl,rfl⟩) ?_ ?_ ?_ <;> try trivial
  all_goals exact entd
 ·exact ⟨_,_,⟨memNewM,⟨0,0,0⟩,0,(sh_sm memNew_sh).more (by decide),rfl,rfl⟩,by simp [encBkt]⟩
theorem c25 (l k:List Int) (hl:l.length <= maxLen) (hk:k.length <= maxLen):Ctr prog 25 [.one (.dat (.sl 1 (l.map encI))),.one (.dat (.sl 1 (k.map encI)))] [] (.one (.dat (.bool (decide (l=k))))) []:=by
 refine Ctr.bd mixed func25 rfl ?_
 refine sv3 ?_
 constructor <;> intro hq
 ·refine Fin.nt results25 [] ?_ ?_ ?_ <;> try trivial
  (refine rsl ?_;try exact .intro)
  have hq:(l.length:Int) ≠ (k.length:Int):=by simpa using hq
  exact (decide_eq_false fun h=>hq (by rw [h])).symm
 have hq:(l.length:Int)=(k.length:Int):=by simpa using hq
 have hlen:l.length=k.length:=by omega
 refine LoopK_intro (fun zn zs=>∃ i:Nat,i <= l.length /\ zn=l.length - i /\ (∀ j (hj:j < l.length) (hj2:j < k.length),j < i -> l[j]=k[j]) /\ zs=mkSt [(5,.one (.dat (.int .i64 i))),(0,.one (.dat (.sl 1 (l.map encI)))),(1,.one (.dat (.sl 1 (k.map encI))))] []) (l.length) _
  (Ent.wk []) ⟨0,by omega,by omega,by intro j hj hj2 h;omega,rfl⟩ ?_
 rintro zn zs ⟨i,hi,rfl,hinv,rfl⟩ K hK
 rcases Nat.lt_or_ge i (l.length) with hlt | hge
 ·have hdi:decide ((i:Int) < ((l.length:Nat):Int))=true:=decide_eq_true (by omega)
  have hw:=wrap_succ hlt hl
  have hlt2:i < k.length:=by omega
  simp (maxSteps:=2000000) only [go_sem,seval,hdi,getD_map hlt,getD_map hlt2,encI,hw]
  refine ⟨⟨by omega,by omega⟩,hlt,⟨by omega,by omega⟩,hlt2,fun hq=>?_,fun hq=>?_⟩
  ·apply hK
   refine evl ?_
   refine Fin.nt results25 [] ?_ ?_ ?_ <;> try trivial
   (refine rsl ?_;try exact .intro)
   have hq:l[i] ≠ k[i]:=by simpa using hq
   exact (decide_eq_false fun h=>hq (by subst h;rfl)).symm
  ·have hq:l[i]=k[i]:=by simpa using hq
   (apply hK
    exact ⟨l.length - (i + 1),_,by omega,Ent.wk [],i + 1,by omega,rfl,fun j h1 h2 h3=>(Nat.lt_succ_iff_lt_or_eq.1 h3).elim (hinv j h1 h2) fun e=>by subst e;exact hq,rfl⟩)
 ·have hge':l.length=i:=by omega
  subst hge'
  have hdi:decide (((l.length:Nat):Int) < ((l.length:Nat):Int))=false:=by simp
  refine sv1 ?_
  apply hK
  refine evl ?_
  refine Fin.nt results25 [] ?_ ?_ ?_ <;> try trivial
  (refine rsl ?_;try exact .intro)
  exact (decide_eq_true (List.ext_getElem hlen fun j h1 h2=>hinv j h1 h2 h1)).symm
end Go.Proofs.YtcnddedeeplbcaaGreat.Mod
namespace Go.Proofs.YtcnddedeeplbcaaGreat.fnChains
open Go.Proofs.Tryz Go.Abs Go.Proofs.YtcnddedeeplbcaaGreat.Ty Go.ChangeShapes Go.WideShapes Go.ChangeAt Go.RowKit Go.Proofs.YtcnddedeeplbcaaGreat.Mod
set_option linter.unusedSimpArgs false
set_option linter.unusedVariables false
set_option maxHeartbeats 8000000
set_option maxRecDepth 100000
theorem c5 (b:List Int) (hl:b.length <= maxLen) (hbv:∀ x ∈ b,0 <= x /\ x <= 255):Ctr prog 5 [.one (.dat (.sl 1 (b.map encB)))] [] (.one (.dat (.bool true))) []:=by
 have hmx:maxLen=9223372036854775807:=rfl
 refine Ctr.bd mixed func5 rfl ?_
 refine evl ?_
 refine scs ?_
 refine ck e7 (c7 b hl) rfl ?_
 refine evl ?_
 refine scs ?_
 constructor <;> intro hq
 ·refine Fin.nt results5 [] ?_ ?_ ?_ <;> try trivial
 have hb:BytesL b:=⟨by have:=of_decide_eq_false hq;omega,hbv⟩
 refine CallK_cell [] e20 (c20 b hb) rfl rfl ?_
 rintro r0 xs' ⟨m,⟨p,u,v⟩,h,hm,rfl,rfl⟩ -
 have hz:=(hm.siz (by decide)).1
 have hc1:=c21 m hz p
 have hc2:=c22 m hz p
 have hc3:=c19 m hz p
 have hll:=chain_len m p
 have hpl:((pairsM m p).length:Int)=((chainR m p).1.length:Int):=by rw [pairsM,List.length_map]
 have hpb:(((pairsM m p).length:Int) != ((chainR m p).1.length:Int))=false:=by rw [hpl];simp
 have hlk:=c23 m hz ⟨p,u,v⟩ h
 cases his:(linkInM m ⟨p,u,v⟩ h).2.2 with
 | true =>
  obtain ⟨k1,k2,k3,k4⟩:=linkIn_chain his
  rw [his] at hlk
  have hzx:=(linkIn_bnd (b:=⟨p,u,v⟩) (h:=h) hz).1
  generalize (linkInM m ⟨p,u,v⟩ h).1=X at *
  generalize (linkInM m ⟨p,u,v⟩ h).2.1=a at *
  have hzy:=(unlink_bnd (b:=a) (h:=h) hzx).1
  have hck:=c21 X hzx a.Head
  have hul:=c24 X hzx a h
  rw [k1] at hck
  rw [k2] at hul
  generalize (unlinkM X a h).1=Y at *
  generalize (unlinkM X a h).2.1=c at *
  have hcr:=c21 Y hzy c.Head
  rw [k3] at hcr
  obtain ⟨a1,a2,a3⟩:=a
  obtain ⟨c1,c2,c3⟩:=c
  have k4:c1=p:=k4
  subst k4
  generalize (chainR m c1).1=L at *
  generalize (chainR m c1).2=fine at *
  generalize pairsM m c1=P at *
  have hsi:=c25 L L (by omega) (by omega)
  rw [show decide (L=L)=true by simp] at hsi
  simp only [encMem,encHeap,encLists,encBkt,List.map_cons,List.map_nil,List.cons_append,List.nil_append,List.map_append] at hc1 hc2 hc3 hlk hck hul hcr
  refine sv51 ?_
  refine scs ?_
  refine ck e21 (hc1) rfl ?_
  refine evl ?_
  refine scs ?_
  refine ck e22 (hc2) rfl ?_
  refine sv52 ?_
  refine scs ?_
  refine .inl (CCallK_vec e19 (fun hg=>⟨trivial,hc3⟩) rfl ?_)
  refine sv53 ?_
  refine scs ?_
  refine ck e23 (hlk) rfl ?_
  refine evl ?_
  refine scs ?_
  refine ck e21 (hck) rfl ?_
  refine evl ?_
  refine scs ?_
  refine ck e24 (hul) rfl ?_
  refine evl ?_
  refine scs ?_
  refine ck e21 (hcr) rfl ?_
  have hw1:IntKind.i64.wrap ((L.length:Int) + 1)=((L.length + 1:Nat):Int):=by rw [wrap_id (by omega) (by omega)];rfl
  have hsi2:Ctr prog 25 [.one (.dat (.sl 1 (((encI h :: L.map encI).drop 1).take L.length))),.one (.dat (.sl 1 (L.map encI)))] [] (.one (.dat (.bool true))) []:=by
   rw [List.drop_succ_cons,List.drop_zero,List.take_of_length_le (by simp)]
   exact hsi
  simp (maxSteps:=2000000) only [go_sem,seval,List.length_cons,hw1,encI,beq_self_eq_true]
  refine ⟨by omega,⟨by omega,by simp [D.flat]⟩,⟨by omega,by omega⟩,?_⟩
  first | refine CCallK_intro e25 (fun hg=>⟨by first | exact trivial | exact hg | exact ⟨hg,hg⟩ | (simp;done) | (simp_all only [Bool.not_false,Bool.not_true,and_self];done),hsi2⟩) rfl rfl ?_ | refine Or.inl (CCallK_intro e25 (fun hg=>⟨by first | exact trivial | exact hg | exact ⟨hg,hg⟩ | (simp;done) | (simp_all only [Bool.not_false,Bool.not_true,and_self];done),hsi2⟩) rfl rfl ?_)
  simp (maxSteps:=2000000) only [go_sem,seval,beq_self_eq_true]
  refine scs ?_
  first | refine CCallK_intro e25 (fun hg=>⟨by first | exact trivial | exact hg | exact ⟨hg,hg⟩ | (simp;done) | (simp_all only [Bool.not_false,Bool.not_true,and_self];done),hsi⟩) rfl rfl ?_ | refine Or.inl (CCallK_intro e25 (fun hg=>⟨by first | exact trivial | exact hg | exact ⟨hg,hg⟩ | (simp;done) | (simp_all only [Bool.not_false,Bool.not_true,and_self];done),hsi⟩) rfl rfl ?_)
  simp (maxSteps:=2000000) only [go_sem,seval,beq_self_eq_true]
  refine scs ?_
  refine Fin.nt results5 [] ?_ ?_ ?_ <;> try trivial
 | false =>
  have hul:=c24 m hz ⟨p,u,v⟩ h
  have hzx:=(linkIn_bnd (b:=⟨p,u,v⟩) (h:=h) hz).1
  rw [his] at hlk
  generalize (linkInM m ⟨p,u,v⟩ h).1=X at *
  generalize (linkInM m ⟨p,u,v⟩ h).2.1=a at *
  obtain ⟨a1,a2,a3⟩:=a
  have hhas:=c26 (chainR m p).1 (by omega) h
  cases hoff:(unlinkM m ⟨p,u,v⟩ h).2.2 with
  | false =>
   obtain ⟨u1,u2,u3⟩:=unlink_no hoff
   rw [hoff,u1,u2] at hul
   have hsm:=c11 m m (Mem.sok_of hz) (Mem.sok_of hz)
   rw [show decide (m=m)=true by simp] at hsm
   have hbk:=c27 p u v
   have u3:h ∉ (chainR m p).1 \/ bktOk p u v=false:=u3
   generalize (chainR m p).1=L at *
   generalize (chainR m p).2=fine at *
   generalize pairsM m p=P at *
   simp only [encMem,encHeap,encLists,encBkt,List.map_cons,List.map_nil,List.cons_append,List.nil_append,List.map_append] at hc1 hc2 hc3 hlk hul hsm
   refine sv51 ?_
   refine scs ?_
   refine ck e21 (hc1) rfl ?_
   refine evl ?_
   refine scs ?_
   refine ck e22 (hc2) rfl ?_
   refine sv52 ?_
   refine scs ?_
   refine .inl (CCallK_vec e19 (fun hg=>⟨trivial,hc3⟩) rfl ?_)
   refine sv53 ?_
   refine scs ?_
   refine ck e23 (hlk) rfl ?_
   refine evl ?_
   refine scs ?_
   refine ck e24 (hul) rfl ?_
   refine evl ?_
   refine scs ?_
   refine ck e26 (hhas) rfl ?_
   by_cases hin:h ∈ L
   ·have hdt:decide (h ∈ L)=true:=decide_eq_true hin
    rw [show bktOk p u v=false from u3.resolve_left fun h=>h hin] at hbk
    refine sv54 ?_
    first | refine CCallK_of (.one (.dat (.bool false))) ?_ | refine CCallK_og (.one (.dat (.bool false))) ?_
    refine sv54 ?_
    refine scs ?_
    first | refine CCallK_intro e27 (fun hg=>⟨by first | exact trivial | exact hg | exact ⟨hg,hg⟩ | (simp;done) | (simp_all only [Bool.not_false,Bool.not_true,and_self];done),hbk⟩) rfl rfl ?_ | refine Or.inl (CCallK_intro e27 (fun hg=>⟨by first | exact trivial | exact hg | exact ⟨hg,hg⟩ | (simp;done) | (simp_all only [Bool.not_false,Bool.not_true,and_self];done),hbk⟩) rfl rfl ?_)
    refine sv54 ?_
    refine scs ?_
    refine Fin.nt results5 [] ?_ ?_ ?_ <;> try trivial
   ·have hdt:decide (h ∈ L)=false:=decide_eq_false hin
    refine sv54 ?_
    refine scs ?_
    first | refine CCallK_intro e11 (fun hg=>⟨by first | exact trivial | exact hg | exact ⟨hg,hg⟩ | (simp;done) | (simp_all only [Bool.not_false,Bool.not_true,and_self];done),hsm⟩) rfl rfl ?_ | refine Or.inl (CCallK_intro e11 (fun hg=>⟨by first | exact trivial | exact hg | exact ⟨hg,hg⟩ | (simp;done) | (simp_all only [Bool.not_false,Bool.not_true,and_self];done),hsm⟩) rfl rfl ?_)
    refine sv54 ?_
    first | refine CCallK_of (.one (.dat (.bool false))) ?_ | refine CCallK_og (.one (.dat (.bool false))) ?_
    refine sv54 ?_
    refine scs ?_
    refine Fin.nt results5 [] ?_ ?_ ?_ <;> try trivial
  | true =>
   obtain ⟨r,u1,u2,u3,u4⟩:=unlink_yes hoff
   have u3:r.length + 1=(chainR m p).1.length:=u3
   have u4:h ∈ (chainR m p).1:=u4
   have hzy:=(unlink_bnd (b:=⟨p,u,v⟩) (h:=h) hz).1
   rw [hoff] at hul
   generalize (unlinkM m ⟨p,u,v⟩ h).1=Y at *
   generalize (unlinkM m ⟨p,u,v⟩ h).2.1=c at *
   have hcr:=c21 Y hzy c.Head
   rw [u1] at hcr
   obtain ⟨c1,c2,c3⟩:=c
   have hhr:=c26 r (by omega) h
   rw [decide_eq_true u4] at hhas
   rw [decide_eq_false u2] at hhr
   generalize (chainR m p).1=L at *
   generalize (chainR m p).2=fine at *
   generalize pairsM m p=P at *
   simp only [encMem,encHeap,encLists,encBkt,List.map_cons,List.map_nil,List.cons_append,List.nil_append,List.map_append] at hc1 hc2 hc3 hlk hul hcr
   refine sv51 ?_
   refine scs ?_
   refine ck e21 (hc1) rfl ?_
   refine evl ?_
   refine scs ?_
   refine ck e22 (hc2) rfl ?_
   refine sv52 ?_
   refine scs ?_
   refine .inl (CCallK_vec e19 (fun hg=>⟨trivial,hc3⟩) rfl ?_)
   refine sv53 ?_
   refine scs ?_
   refine ck e23 (hlk) rfl ?_
   refine evl ?_
   refine scs ?_
   refine ck e24 (hul) rfl ?_
   refine evl ?_
   refine scs ?_
   refine ck e21 (hcr) rfl ?_
   have hw2:IntKind.i64.wrap ((L.length:Int) - 1)=(r.length:Int):=by rw [wrap_id (by omega) (by omega)];omega
   refine sv33 ?_
   refine scs ?_
   first | refine CCallK_intro e26 (fun hg=>⟨by first | exact trivial | exact hg | exact ⟨hg,hg⟩ | (simp;done) | (simp_all only [Bool.not_false,Bool.not_true,and_self];done),hhr⟩) rfl rfl ?_ | refine Or.inl (CCallK_intro e26 (fun hg=>⟨by first | exact trivial | exact hg | exact ⟨hg,hg⟩ | (simp;done) | (simp_all only [Bool.not_false,Bool.not_true,and_self];done),hhr⟩) rfl rfl ?_)
   simp (maxSteps:=2000000) only [go_sem,seval,hw2,beq_self_eq_true]
   refine scs ?_
   first | refine CCallK_intro e26 (fun hg=>⟨by first | exact trivial | exact hg | exact ⟨hg,hg⟩ | (simp;done) | (simp_all only [Bool.not_false,Bool.not_true,and_self];done),hhas⟩) rfl rfl ?_ | refine Or.inl (CCallK_intro e26 (fun hg=>⟨by first | exact trivial | exact hg | exact ⟨hg,hg⟩ | (simp;done) | (simp_all only [Bool.not_false,Bool.not_true,and_self];done),hhas⟩) rfl rfl ?_)
   simp (maxSteps:=2000000) only [go_sem,seval,hw2,beq_self_eq_true]
   refine scs ?_
   refine Fin.nt results5 [] ?_ ?_ ?_ <;> try trivial
theorem law (dss:List (List D)) (h:WTAll prog 8 f5.params.toList dss):Ctr prog 5 (argAVs prog f5.params.toList dss) [] (.one (.dat (.bool true))) []:=by
 rw [params5] at *
 simp only [WTAll,List.toList_toArray] at h
 obtain ⟨_,_,rfl,h0,rfl⟩:=h
 obtain ⟨b,rfl,hl,hb⟩:=decBytes underlying22 underlying5 tc_5 h0
 simp only [argAVs,argAV,List.toList_toArray,underlying22,List.headD_cons]
 exact c5 b hl hb

theorem own:ownKnob prog.godebug=none:=by kernel_rfl

set_option maxRecDepth 100000 in
theorem lifted (os:Os) (started:os.Started) (H:Type) (enc:TypeId × Value -> H) :
  ReturnsInHanded {} Tryz.checked os 5 .any (Rows.fnChainsSpec.pre6 enc prog f5 Rows.fnChainsRow.domain false) (Rows.fnChainsSpec.post enc prog f5 false true false false):=by
 refine returnsInHanded_of_change (C:=Tryz.checked) own started (by kernel_rfl) func5
  (ChangeSpec.witness6 (enc:=enc) (C:=Tryz.checked) false ⟨#[],#[.slice none 0 0],[]⟩ 8 (by kernel_rfl) (by kernel_rfl) (by kernel_rfl) (by kernel_rfl)) ?_
 intro W base args ds gs before hval0 hW hcnd _
 have hW':=hW
 obtain ⟨p,q,hA0,hV,rfl,hfz,hnd⟩:=hW'
 have hA:DataW.TrodAll enc prog W 0 (fun _=>true) true f5.params.toList args.toList ds p:=hA0
 obtain ⟨dss,h1,h2⟩:=args_rep (n:=8) (by kernel_rfl) (fun j t v hj hv=>hval0 j t v (by simpa using hj) (by simpa using hv)) hA
 have hs:Rows.fnChainsSpec.fn H (ds ++ gs)={ results:=[.lit (.bool true)],args:=ds,vars:=[] }:=by
  obtain ⟨rfl,rfl⟩:=trodVars_none hV
  rw [params5] at hA
  obtain ⟨v0,vs0,d0,ds0,p0,q0,_,rfl,_,_,r0⟩:=trodAll_cons hA
  obtain ⟨_,rfl,_⟩:=trodAll_nil r0
  rfl
 have hc:=law_calls (law dss h1) h2
 rw [Array.toArray_toList] at hc
 refine hc.mono fun e W' ⟨he,hb⟩=>?_
 subst he
 exact ⟨_,rfl,law_post (by kernel_rfl) (by kernel_rfl) rfl hW hs rfl underlying4 hb⟩

theorem closed:joinedFacts prog 5 f5 Rows.fnChainsSpec Rows.fnChainsRow=true:=by
 unfold joinedFacts
 simp only [Bool.and_eq_true,Whole.laidOut,Whole.rowed,Whole.stops,Whole.knobs,Whole.keys,Whole.heard,Whole.enter,Whole.lifts,Whole.make,true_and,and_true]
 repeat' (refine And.intro ?_ ?_)
 all_goals (as_aux_lemma=>kernel_rfl)

theorem over:Rows.fnChainsRow.holds Tryz.pinned (OpenSpec.ofChange Rows.fnChainsSpec) :=
 OpenClaim.holds_of_wide 5 f5 rfl rfl rfl rfl rfl rfl rfl ⟨rfl,rfl,rfl,rfl,rfl⟩ rfl rfl rfl rfl rfl (by kernel_rfl) func5 closed
  (of_decide_eq_true (by kernel_rfl)) (by unfold Func.isWrapper;first | (rw [if_pos (by decide +kernel)];kernel_rfl) | (rw [if_neg (by decide +kernel)];exact ⟨rfl,rfl⟩))
  (fun os started H enc _=>lifted os started H enc)

theorem proved:Rows.FnChainsSaid :=
 over
end Go.Proofs.YtcnddedeeplbcaaGreat.fnChains
