/- Contracts: Store. -/
import Derived.Test.YtcnddedeeplbcaaGreatRows
import Derived.Test.YtcnddedeeplbcaaGreatCTy
import Derived.Test.YtcnddedeeplbcaaGreatAbsTac
import Derived.Test.YtcnddedeeplbcaaGreatAbsData
import Derived.Test.YtcnddedeeplbcaaGreatCHeap
import Derived.Test.YtcnddedeeplbcaaGreatCHist
import Derived.WalkKit
import Derived.ProofKit
import Derived.OpenShut
namespace Go.Proofs.YtcnddedeeplbcaaGreat.Mod
open Go.Proofs.Tryz Go.Abs Go.Proofs.YtcnddedeeplbcaaGreat.Ty Go.ChangeShapes Go.WideShapes Go.ChangeAt Go.RowKit
set_option linter.unusedSimpArgs false
set_option linter.unusedVariables false
set_option maxHeartbeats 8000000
set_option maxRecDepth 100000
theorem c277 (n:Int) (h0:0 <= n) (hn:n <= 1000000):Ctr prog 277 [.one .emp,.one (.dat (.int .i64 n))] [] (.one (.own 0)) [.vec 1 true []]:=by
 have hn0:decide (n < 0)=false:=decide_eq_false (by omega)
 have hw1:IntKind.i64.wrap (0 - 0)=0:=by rw [wrap_id] <;> omega
 have hw0:IntKind.i64.wrap 0=0:=by rw [wrap_id] <;> omega
 have hw2:IntKind.i64.wrap (n - 0)=n:=by rw [wrap_id] <;> omega
 refine Ctr.bd mixed func277 rfl ?_
 simp (maxSteps:=2000000) only [go_sem,seval,hn0,hw1,hw2,hw0]
 refine scs ?_
 constructor <;> intro hq
 ·have hq:=of_decide_eq_true hq
  refine ⟨⟨by omega,by omega,by omega⟩,by omega,?_⟩
  refine Fin.ent (Ent.cut (t:=4) rfl rfl) ?_
  refine evl ?_
  refine Fin.nt results277 [1] ?_ ?_ ?_ <;> try trivial
  all_goals exact entd
 ·refine Fin.ent (Ent.emp (t:=4) (sz:=1) rfl) ?_
  refine evl ?_
  refine Fin.nt results277 [0] ?_ ?_ ?_ <;> try trivial
  all_goals exact entd
def encLL (x:List SList):List D:=[.sl 1 (x.map encSList)]
def sumLL (xs:List (List SList)):Nat:=(xs.map List.length).sum
theorem sumLL_cons (x:List SList) (xs:List (List SList)):sumLL (x :: xs)=x.length + sumLL xs:=by simp [sumLL]
theorem sumLL_flat (xs:List (List SList)):xs.flatten.length=sumLL xs:=by rw [List.length_flatten];rfl
theorem c197 (xs:List (List SList)) (hx:xs.length <= 1048576) (hz:sumLL xs <= 1000000):CtrB prog 197 [.one (.dat (.sl 1 (xs.map encLL)))] (.one (.own 0)) [.vec 1 false (xs.flatten.map encSList)]:=by
 have hmx:maxLen=9223372036854775807:=rfl
 refine CtrB.body mixed func197 rfl (by kernel_rfl) (Nat.le_of_ble_eq_true rfl) (by simp [AV.isDat,Leaf.isDat]) (by simp [AV.Sh,AV.Sh1,Leaf.Sh]) (by simp [AObj.IsVec]) (by simp [AV.up,AV.up1,Leaf.up,AV.Low,AV.Low1,Leaf.Low]) (fun bl=>?_)
 refine evl ?_
 refine scs ?_
 refine LoopK_intro (fun zn zs=>∃ (i:Nat) (z:Nat),i <= xs.length /\ zn=xs.length - i /\ (sumLL xs=z + sumLL (xs.drop i)) /\ zs=mkSt [(11,.one (.dat (.int .i64 i))),(10,.one (.dat (.int .i64 (xs.length)))),(9,.one (.dat (.sl 1 (xs.map encLL)))),(3,.one (.dat (.int .i64 (z:Int)))),(0,.one (.dat (.sl 1 (xs.map encLL))))] [.ballast bl]) (xs.length) _
  (Ent.wk [0]) ⟨0,0,by omega,by omega,by rw [List.drop_zero,Nat.zero_add],rfl⟩ ?_
 rintro zn zs ⟨i,z,hi,rfl,hinv,rfl⟩ K hK
 rcases Nat.lt_or_ge i (xs.length) with hlt | hge
 ·have hdi:decide ((i:Int) < ((xs.length:Nat):Int))=true:=decide_eq_true (by omega)
  have hw:=wrap_succ hlt (show xs.length <= maxLen by omega)
  rw [List.drop_eq_getElem_cons hlt,sumLL_cons] at hinv
  have hn:decide (((z + xs[i].length:Nat):Int) < 0)=false:=decide_eq_false (by omega)
  have hw2:IntKind.i64.wrap ((z:Int) + (xs[i].length:Int))=((z + xs[i].length:Nat):Int):=by rw [wrap_id] <;> omega
  simp (maxSteps:=2000000) only [go_sem,seval,hdi,hw,getD_map hlt,encLL,hw2,hn]
  refine scs ?_
  (apply hK
   exact ⟨xs.length - (i + 1),_,by omega,Ent.wk [0],i + 1,(z + xs[i].length),by omega,rfl,by omega,rfl⟩)
 ·have hge':xs.length=i:=by omega
  subst hge'
  have hdi:decide (((xs.length:Nat):Int) < ((xs.length:Nat):Int))=false:=by simp
  have hz':sumLL xs=z:=by rw [List.drop_length] at hinv;simpa [sumLL] using hinv
  clear hinv
  refine sv1 ?_
  apply hK
  refine evl ?_
  refine ck e277 (c277 (z:Int) (by omega) (by omega)) rfl ?_
  refine evl ?_
  refine LoopK_ent (Ent.unsep (o:=1) rfl) ?_
  refine evl ?_
  refine LoopK_intro (fun zn zs=>∃ (i:Nat) (o:List SList),i <= xs.length /\ zn=xs.length - i /\ (xs.flatten=o ++ (xs.drop i).flatten) /\ zs=mkSt [(27,.one (.dat (.int .i64 i))),(26,.one (.dat (.int .i64 (xs.length)))),(25,.one (.dat (.sl 1 (xs.map encLL)))),(6,.one (.own 1)),(0,.one (.dat (.sl 1 (xs.map encLL))))] [.ballast bl,.vec 1 false (o.map encSList)]) (xs.length) _
   (Ent.wk [0,1]) ⟨0,[],by omega,by omega,rfl,rfl⟩ ?_
  rintro zn zs ⟨i,o,hi,rfl,hinv,rfl⟩ K hK
  rcases Nat.lt_or_ge i (xs.length) with hlt | hge
  ·have hdi:decide ((i:Int) < ((xs.length:Nat):Int))=true:=decide_eq_true (by omega)
   have hw:=wrap_succ hlt (show xs.length <= maxLen by omega)
   rw [List.drop_eq_getElem_cons hlt,List.flatten_cons] at hinv
   have hlen:o.length + xs[i].length <= 1000000:=by
    have:=congrArg List.length hinv
    rw [sumLL_flat] at this
    simp only [List.length_append] at this
    omega
   simp (maxSteps:=2000000) only [go_sem,seval,hdi,hw,getD_map hlt,encLL]
   refine scs ?_
   (apply hK
    exact ⟨xs.length - (i + 1),_,by omega,Ent.wk [0,2],i + 1,(o ++ xs[i]),by omega,rfl,by rw [List.append_assoc];exact hinv,rfl⟩)
  ·have hge':xs.length=i:=by omega
   subst hge'
   have hdi:decide (((xs.length:Nat):Int) < ((xs.length:Nat):Int))=false:=by simp
   have hoe:xs.flatten=o:=by rw [List.drop_length] at hinv;simpa using hinv
   clear hinv
   refine sv1 ?_
   apply hK
   refine evl ?_
   subst hoe
   refine Fin.nt results197 [0,1] ?_ ?_ ?_ <;> try trivial
   all_goals exact entd
def metL (seen:List Int):List Leaf:=(List.range 24).map fun (k:Nat)=>.dat (.bool (decide ((k:Int) ∈ seen)))
@[simp] theorem metL_nil:metL []=[.dat (.bool false),.dat (.bool false),.dat (.bool false),.dat (.bool false),.dat (.bool false),.dat (.bool false),.dat (.bool false),.dat (.bool false),.dat (.bool false),.dat (.bool false),.dat (.bool false),.dat (.bool false),.dat (.bool false),.dat (.bool false),.dat (.bool false),.dat (.bool false),.dat (.bool false),.dat (.bool false),.dat (.bool false),.dat (.bool false),.dat (.bool false),.dat (.bool false),.dat (.bool false),.dat (.bool false)]:=by
 simp [metL]
 rfl
theorem metL_len (seen:List Int):(metL seen).length=24:=by simp [metL]
@[simp] theorem metL_ren (seen:List Int) (ids:List Nat):(metL seen).map (Leaf.renF ids)=metL seen:=by simp [metL,Leaf.renF]
@[simp] theorem metL_mem (seen:List Int) (l:Leaf):l ∈ metL seen ↔ ∃ k:Nat,k < 24 /\ Leaf.dat (.bool (decide ((k:Int) ∈ seen)))=l:=by simp [metL]
theorem metL_get {seen:List Int} {x:Int} {d:Leaf} (h:within x 0 23=true):(metL seen).getD (x.toNat * 1) d=.dat (.bool (decide (x ∈ seen))):=by
 simp only [within,Bool.and_eq_true,decide_eq_true_eq] at h
 have:x.toNat < 24:=by omega
 simp [metL,List.getD_eq_getElem?_getD,this,show max x 0=x by omega]
theorem metL_off (seen:List Int) (k:Nat):∃ b,(metL seen).getD k ((metL seen).getD 0 .emp)=.dat (.bool b):=by
 by_cases h:k < 24
 ·simp [metL,List.getD_eq_getElem?_getD,h]
 ·simp [metL,List.getD_eq_getElem?_getD,h]
theorem metL_set {seen:List Int} {x:Int} (h:within x 0 23=true):splice (metL seen) (x.toNat * 1) [.dat (.bool true)]=metL (seen ++ [x]):=by
 simp only [within,Bool.and_eq_true,decide_eq_true_eq] at h
 have hk:x.toNat * 1 < (metL seen).length:=by rw [metL_len];omega
 have e:splice (metL seen) (x.toNat * 1) [.dat (.bool true)]=(metL seen).set (x.toNat * 1) (.dat (.bool true)):=by
  rw [List.set_eq_take_append_cons_drop,if_pos hk]
  simp [splice]
 rw [e]
 refine List.ext_getElem (by simp [metL_len]) fun j h1 h2=>?_
 rw [metL_len] at h2
 rw [List.getElem_set]
 simp only [metL,List.getElem_map,List.getElem_range,List.mem_append,List.mem_singleton]
 split
 ·rename_i hj
  have:(j:Int)=x:=by omega
  simp [this]
 ·rename_i hj
  have:¬ (j:Int)=x:=by omega
  simp [this]
theorem goodSlots_iff (l:List Int):goodSlots l=true ↔ (∀ x ∈ l,within x 0 23=true) /\ l.Nodup:=by simp [goodSlots]
theorem goodSlots_comm (a b:List Int):goodSlots (a ++ b)=goodSlots (b ++ a):=by
 rw [Bool.eq_iff_iff,goodSlots_iff,goodSlots_iff,(List.perm_append_comm (l₁:=a) (l₂:=b)).nodup_iff]
 simp only [List.mem_append,or_comm]
theorem goodSlots_snoc {q:List Int} {x:Int} (h:goodSlots q=true) (hw:within x 0 23=true) (hx:x ∉ q):goodSlots (q ++ [x])=true:=by
 obtain ⟨h1,h2⟩:=(goodSlots_iff _).1 h
 refine (goodSlots_iff _).2 ⟨fun y hy=>?_,?_⟩
 ·rcases List.mem_append.1 hy with hy | hy
  ·exact h1 y hy
  ·rw [List.mem_singleton.1 hy];exact hw
 ·exact List.nodup_append.2 ⟨h2,by simp,fun a ha b hb e=>hx (by rw [List.mem_singleton.1 hb] at e;exact e ▸ ha)⟩
theorem goodSlots_bad {a b:List Int} {x:Int} (h:within x 0 23=false \/ x ∈ a):goodSlots (a ++ x :: b)=false:=by
 rw [Bool.eq_false_iff]
 intro hg
 obtain ⟨h1,h2⟩:=(goodSlots_iff _).1 hg
 rcases h with h | h
 ·rw [h1 x (by simp)] at h;cases h
 ·exact (List.nodup_append.1 h2).2.2 x h x (by simp) rfl
theorem listsOk_big {l:Lists} {L:List SList} (hL:L=l.Own ++ l.Global) {i:Nat} (hi:i < L.length) (h9:i < l.Own.length) (h:2 < (L[i].Slots.length:Int)):listsOk l=false:=by
 subst hL
 rw [List.getElem_append_left h9] at h
 have:l.Own.all (fun s=>decide ((s.Slots.length:Int) <= 2))=false:=by
  rw [Bool.eq_false_iff]
  intro ha
  have:=of_decide_eq_true (List.all_eq_true.1 ha _ (List.getElem_mem h9))
  omega
 simp [listsOk,this]
theorem slotsOf_app (a b:List SList):slotsOf (a ++ b)=slotsOf a ++ slotsOf b:=by simp [slotsOf]
theorem listsOk_bad {l:Lists} {L:List SList} (hL:L=l.Own ++ l.Global) {a b:List Int} {x:Int} (hs:slotsOf L=a ++ x :: b) (h:within x 0 23=false \/ x ∈ a):listsOk l=false:=by
 rw [hL,slotsOf_app] at hs
 simp only [listsOk,goodSlots_comm (slotsOf l.Global),hs,goodSlots_bad h,Bool.and_false]
theorem listsOk_good {l:Lists} {L:List SList} (hL:L=l.Own ++ l.Global) (h3:l.Global.length=3) (h9:l.Own.length=9) (hs:goodSlots (slotsOf L)=true) (h:∀ j,j < 9 -> ((L.getD j ⟨[]⟩).Slots.length:Int) <= 2):listsOk l=true:=by
 rw [hL,slotsOf_app] at hs
 have:l.Own.all (fun s=>decide ((s.Slots.length:Int) <= 2))=true:=by
  rw [List.all_eq_true]
  intro s hm
  obtain ⟨j,hj,rfl⟩:=List.getElem_of_mem hm
  have:=h j (by omega)
  rw [hL,List.getD_eq_getElem?_getD,List.getElem?_append_left hj,List.getElem?_eq_getElem hj] at this
  exact decide_eq_true this
 simp only [listsOk,goodSlots_comm (slotsOf l.Global),hs,this,h3,h9]
 rfl
theorem c109 (l:Lists) (hz:sizLists l <= 1048576):Ctr prog 109 [.agg ((encLists l).map .dat)] [] (.one (.dat (.bool (listsOk l)))) []:=by
 have hmx:maxLen=9223372036854775807:=rfl
 unfold sizLists sizSListS at hz
 simp only [encLists,List.map_cons,List.map_nil]
 refine Ctr.bd mixed func109 rfl ?_
 simp (maxSteps:=2000000) only [go_sem,seval,frzAll]
 refine scs ?_
 constructor <;> intro hq
 ·refine Fin.nt results109 [] ?_ ?_ ?_ <;> try trivial
  (refine rsl ?_;try exact .intro)
  simp only [listsOk]
  cases h1:decide ((l.Global.length:Int)=3) <;> cases h2:decide ((l.Own.length:Int)=9) <;> simp_all
 have h3:l.Global.length=3 /\ l.Own.length=9:=by
  cases h1:decide ((l.Global.length:Int)=3) <;> cases h2:decide ((l.Own.length:Int)=9) <;> simp_all <;> omega
 have hcc:=c197 [l.Own,l.Global] (by simp) (by simp [sumLL];omega)
 simp only [List.flatten_cons,List.flatten_nil,List.append_nil] at hcc
 obtain ⟨L,hL⟩:∃ L,L=l.Own ++ l.Global:=⟨_,rfl⟩
 rw [<- hL] at hcc
 have hLl:L.length=12:=by rw [hL,List.length_append];omega
 have hls:(L.map sizSList).sum <= 1048576:=by rw [hL,List.map_append,List.sum_append];omega
 refine CallK_share [2] e197 (hcc) rfl ?_
 simp (maxSteps:=2000000) only [go_sem,seval,frzAll]

 refine LoopK_intro (fun zn zs=>∃ (i:Nat) (seen:List Int),i <= L.length /\ zn=L.length - i /\ (slotsOf L=seen ++ slotsOf (L.drop i) /\ goodSlots seen=true /\ ∀ j,j < i -> j < 9 -> ((L.getD j ⟨[]⟩).Slots.length:Int) <= 2) /\ zs=mkSt [(26,.one (.dat (.int .i64 i))),(25,.one (.dat (.int .i64 (L.length)))),(24,.one (.own 2)),(1,.one (.ptr (.own 0 0 0))),(3,.one (.ptr (.own 1 0 0)))] [.box [.dat (.sl 1 (l.Global.map encSList)),.dat (.sl 1 (l.Own.map encSList))],.box (metL seen),.vec 1 false (L.map encSList)]) (L.length) _
  (Ent.wk [0,1,3]) ⟨0,[],by omega,by omega,⟨rfl,rfl,by omega⟩,rfl⟩ ?_
 rintro zn zs ⟨i,seen,hi,rfl,hinv,rfl⟩ K hK
 rcases Nat.lt_or_ge i (L.length) with hlt | hge
 ·have hdi:decide ((i:Int) < ((L.length:Nat):Int))=true:=decide_eq_true (by omega)
  have hw:=wrap_succ hlt (show L.length <= maxLen by omega)
  obtain ⟨hv1,hv2,hv3⟩:=hinv
  rw [slotsOf_drop hlt] at hv1
  refine sv6 ?_
  refine scs ?_
  constructor <;> intro hq2
  ·apply hK
   refine sv6 ?_
   refine Fin.nt results109 [] ?_ ?_ ?_ <;> try trivial
   (refine rsl ?_;try exact .intro)
   have h9:i < l.Own.length:=by
    refine Classical.byContradiction fun hn=>?_
    rw [decide_eq_false (by omega)] at hq2
    cases hq2
   rw [decide_eq_true (by omega),cond_true] at hq2
   exact (listsOk_big hL hlt h9 (of_decide_eq_true hq2)).symm
  have hv4:i < 9 -> (L[i].Slots.length:Int) <= 2:=fun h9=>by
   rw [decide_eq_true (by omega),cond_true] at hq2
   have:=of_decide_eq_false hq2
   omega
  clear hq2
  have hsl:L[i].Slots.length <= 1048576:=by
   have:=sum_mem sizSList (List.getElem_mem hlt)
   have hx:sizSList L[i]=L[i].Slots.length:=rfl
   omega
  generalize hsd:L[i].Slots=sl at hv1 hv4 hsl ⊢
  refine LoopK_intro (fun zn zs=>∃ (k:Nat) (q:List Int),k <= sl.length /\ zn=sl.length - k /\ (seen ++ sl=q ++ sl.drop k /\ goodSlots q=true) /\ zs=mkSt [(45,.one (.dat (.int .i64 k))),(44,.one (.dat (.int .i64 (sl.length)))),(43,.one (.dat (.sl 1 (sl.map encI)))),(1,.one (.ptr (.own 0 0 0))),(3,.one (.ptr (.own 1 0 0))),(24,.one (.own 2)),(25,.one (.dat (.int .i64 (L.length:Nat)))),(26,.one (.dat (.int .i64 i)))] [.box [.dat (.sl 1 (l.Global.map encSList)),.dat (.sl 1 (l.Own.map encSList))],.box (metL q),.vec 1 false (L.map encSList)]) (sl.length) _
   (Ent.wk [0,1,2]) ⟨0,seen,by omega,by omega,⟨rfl,hv2⟩,rfl⟩ ?_
  rintro zn zs ⟨k,q,hi2,rfl,hinv2,rfl⟩ K2 hK2
  rcases Nat.lt_or_ge k (sl.length) with hlt2 | hge2
  ·have hdi2:decide ((k:Int) < ((sl.length:Nat):Int))=true:=decide_eq_true (by omega)
   have hw2:=wrap_succ hlt2 (show sl.length <= maxLen by omega)
   obtain ⟨hu1,hu2⟩:=hinv2
   refine sv12 ?_
   have hx1:seen ++ sl=q ++ sl[k] :: sl.drop (k + 1):=by rw [hu1,List.drop_eq_getElem_cons hlt2]
   have hx2:slotsOf L=q ++ sl[k] :: (sl.drop (k + 1) ++ slotsOf (L.drop (i + 1))):=by rw [hv1,<- List.append_assoc,hx1];simp only [List.append_assoc,List.cons_append]
   refine scs ?_
   refine ck e198 (c198 sl[k]) rfl ?_
   cases hwi:within sl[k] 0 23 with
   | false =>
    obtain ⟨bo,hbo⟩:=metL_off q (sl[k].toNat * 1)
    simp (maxSteps:=2000000) only [go_sem,seval,hdi2,hw2,getD_map hlt2,encI,hwi,hbo]
    refine scs ?_
    apply hK2
    refine sv12 ?_
    apply hK
    refine sv12 ?_
    refine Fin.nt results109 [] ?_ ?_ ?_ <;> try trivial
    (refine rsl ?_;try exact .intro)
    exact (listsOk_bad hL hx2 (.inl hwi)).symm
   | true =>
    have hmg:=fun d=>metL_get (seen:=q) (d:=d) hwi
    have hms:=metL_set (seen:=q) hwi
    simp only [splice,List.length_cons,List.length_nil,Nat.zero_add] at hms
    have hwb:0 <= sl[k] /\ sl[k] <= 23:=by simpa [within] using hwi
    have hwc:sl[k].toNat * 1 < 24:=by omega
    simp (maxSteps:=2000000) only [go_sem,seval,hdi2,hw2,getD_map hlt2,encI,hwi,hmg,hms,metL_len]
    refine scs ?_
    constructor <;> intro hq3
    ·apply hK2
     refine sv12 ?_
     apply hK
     refine sv12 ?_
     refine Fin.nt results109 [] ?_ ?_ ?_ <;> try trivial
     (refine rsl ?_;try exact .intro)
     exact (listsOk_bad hL hx2 (.inr (by simpa using hq3))).symm
    ·refine scs ?_
     (apply hK2
      exact ⟨sl.length - (k + 1),_,by omega,Ent.wk [0,1,2],k + 1,(q ++ [sl[k]]),by omega,rfl,⟨by rw [hx1];simp only [List.append_assoc,List.cons_append,List.nil_append],goodSlots_snoc hu2 hwi (by simpa using hq3)⟩,rfl⟩)
  ·have hge2':sl.length=k:=by omega
   subst hge2'
   have hdi2:decide (((sl.length:Nat):Int) < ((sl.length:Nat):Int))=false:=by simp
   have hu3:seen ++ sl=q:=by rw [hinv2.1,List.drop_length,List.append_nil]
   refine sv13 ?_
   apply hK2
   refine sv2 ?_
   have hnx:∀ j,j < i + 1 -> j < 9 -> ((L.getD j ⟨[]⟩).Slots.length:Int) <= 2:=fun j hj h9=>by
    rcases Nat.lt_succ_iff_lt_or_eq.1 hj with hj | rfl
    ·exact hv3 j hj h9
    ·rw [List.getD_eq_getElem?_getD,List.getElem?_eq_getElem hlt,Option.getD_some,hsd];exact hv4 h9
   (apply hK
    exact ⟨L.length - (i + 1),_,by omega,Ent.wk [0,1,2],i + 1,q,by omega,rfl,⟨by rw [hv1,<- List.append_assoc,hu3],hinv2.2,hnx⟩,rfl⟩)
 ·have hge':L.length=i:=by omega
  subst hge'
  have hdi:decide (((L.length:Nat):Int) < ((L.length:Nat):Int))=false:=by simp
  have hs':slotsOf L=seen:=by rw [hinv.1,List.drop_length];simp [slotsOf]
  refine sv1 ?_
  apply hK
  refine evl ?_
  refine Fin.nt results109 [] ?_ ?_ ?_ <;> try trivial
  (refine rsl ?_;try exact .intro)
  exact (listsOk_good hL h3.1 h3.2 (by rw [hs'];exact hinv.2.1) (fun j hj=>hinv.2.2 j (by omega) hj)).symm
theorem c54 (l:Lists) (hz:sizLists l <= 1048576):Ctr prog 54 [.agg ((encLists l).map .dat)] [] (.one (.dat (.bool (listsOk l)))) []:=by
 have hmx:maxLen=9223372036854775807:=rfl
 have hca:=c132 l hz
 unfold sizLists sizSListS at hz
 simp only [encLists,List.map_cons,List.map_nil] at hca ⊢
 refine Ctr.bd mixed func54 rfl ?_
 refine sv3 ?_
 refine scs ?_
 constructor <;> intro hq
 ·refine Fin.nt results54 [] ?_ ?_ ?_ <;> try trivial
  (refine rsl ?_;try exact .intro)
  simp only [listsOk]
  cases h1:decide ((l.Global.length:Int)=3) <;> cases h2:decide ((l.Own.length:Int)=9) <;> simp_all
 have h3:l.Global.length=3 /\ l.Own.length=9:=by
  cases h1:decide ((l.Global.length:Int)=3) <;> cases h2:decide ((l.Own.length:Int)=9) <;> simp_all <;> omega
 have hlk:listsOk l=(l.Own.all (fun s=>decide ((s.Slots.length:Int) <= 2)) && goodSlots (slotsOf l.Global ++ slotsOf l.Own)):=by
  simp only [listsOk,h3.1,h3.2];rfl
 rw [hlk]
 refine LoopK_intro (fun zn zs=>∃ i:Nat,i <= l.Own.length /\ zn=l.Own.length - i /\ ((l.Own.all fun s=>decide ((s.Slots.length:Int) <= 2))=(l.Own.drop i).all fun s=>decide ((s.Slots.length:Int) <= 2)) /\ zs=mkSt [(3,.one (.dat (.int .i64 i))),(1,.one (.ptr (.own 0 0 0)))] [.box [.dat (.sl 1 (l.Global.map encSList)),.dat (.sl 1 (l.Own.map encSList))]]) (l.Own.length) _
  (Ent.wk [0]) ⟨0,by omega,by omega,rfl,rfl⟩ ?_
 rintro zn zs ⟨i,hi,rfl,hinv,rfl⟩ K hK
 rcases Nat.lt_or_ge i (l.Own.length) with hlt | hge
 ·have hdi:decide ((i:Int) < ((l.Own.length:Nat):Int))=true:=decide_eq_true (by omega)
  have hw:=wrap_succ hlt (show l.Own.length <= maxLen by omega)
  rw [List.drop_eq_getElem_cons hlt,List.all_cons] at hinv
  refine sv6 ?_
  refine scs ?_
  constructor <;> intro hq2
  ·have hd:decide ((l.Own[i].Slots.length:Int) <= 2)=false:=decide_eq_false (by have:=of_decide_eq_true hq2;omega)
   rw [hd,Bool.false_and] at hinv
   apply hK
   refine sv6 ?_
   refine Fin.nt results54 [] ?_ ?_ ?_ <;> try trivial
   (refine rsl ?_;try exact .intro)
   rw [hinv,Bool.false_and]
  ·have hd:decide ((l.Own[i].Slots.length:Int) <= 2)=true:=decide_eq_true (by have:=of_decide_eq_false hq2;omega)
   rw [hd,Bool.true_and] at hinv
   (apply hK
    exact ⟨l.Own.length - (i + 1),_,by omega,Ent.wk [0],i + 1,by omega,rfl,hinv,rfl⟩)
 ·have hge':l.Own.length=i:=by omega
  subst hge'
  have hdi:decide (((l.Own.length:Nat):Int) < ((l.Own.length:Nat):Int))=false:=by simp
  rw [List.drop_length,List.all_nil] at hinv
  have hown:=hinv
  have hgl:=slotsOf_len l.Global
  have hol:=slotsOf_len l.Own
  generalize hA:slotsOf l.Global ++ slotsOf l.Own=A at hca
  have hAl:A.length <= 1048576:=by rw [<- hA,List.length_append];omega
  clear hinv
  refine sv1 ?_
  apply hK
  refine evl ?_
  refine ck e132 (hca) rfl ?_
  refine evl ?_
  refine LoopK_intro (fun zn zs=>∃ k:Nat,k <= A.length /\ zn=A.length - k /\ (goodSlots (A.take k)=true) /\ zs=mkSt [(5,.one (.dat (.int .i64 k))),(1,.one (.ptr (.own 0 0 0))),(4,.one (.own 1))] [.box [.dat (.sl 1 (l.Global.map encSList)),.dat (.sl 1 (l.Own.map encSList))],.vec 1 true (A.map encI)]) (A.length) _
   (Ent.wk [0,1]) ⟨0,by omega,by omega,rfl,rfl⟩ ?_
  rintro zn zs ⟨k,hi2,rfl,hinv2,rfl⟩ K2 hK2
  rcases Nat.lt_or_ge k (A.length) with hlt2 | hge2
  ·have hdi2:decide ((k:Int) < ((A.length:Nat):Int))=true:=decide_eq_true (by omega)
   have hw2:=wrap_succ hlt2 (show A.length <= maxLen by omega)
   have hch:=c133 (A.take k) (by rw [List.length_take];omega) A[k]
   rw [List.map_take] at hch
   refine sv12 ?_
   refine scs ?_
   first | refine CCallK_pl e67 (c67 A[k] 0 23) rfl rfl ?_ | refine CCallK_pm e67 (c67 A[k] 0 23) rfl rfl ?_
   refine sv12 ?_
   refine scs ?_
   first | refine CCallK_pl e133 (hch) rfl rfl ?_ | refine CCallK_pm e133 (hch) rfl rfl ?_
   refine sv12 ?_
   refine scs ?_
   have hsp:A=A.take k ++ A[k] :: A.drop (k + 1):=by rw [<- List.drop_eq_getElem_cons hlt2,List.take_append_drop]
   have htk:A.take (k + 1)=A.take k ++ [A[k]]:=List.take_succ_eq_append_getElem hlt2
   constructor <;> intro hq3
   ·apply hK2
    refine sv12 ?_
    refine Fin.nt results54 [] ?_ ?_ ?_ <;> try trivial
    (refine rsl ?_;try exact .intro)
    rw [hA,hown,hsp,goodSlots_bad,Bool.and_false]
    by_cases hwi:within A[k] 0 23=true
    ·refine .inr ?_
     simpa [hwi] using hq3
    ·exact .inl (by simpa using hwi)
   ·have hwi:within A[k] 0 23=true:=by
     cases hwi:within A[k] 0 23 with
     | true=>rfl
     | false=>simp [hwi] at hq3
    have hni:A[k] ∉ A.take k:=fun hm=>by simp [hwi] at hq3;exact hq3 _ hm rfl
    (apply hK2
     exact ⟨A.length - (k + 1),_,by omega,Ent.wk [0,1],k + 1,by omega,rfl,by rw [htk];exact goodSlots_snoc hinv2 hwi hni,rfl⟩)
  ·have hge2':A.length=k:=by omega
   subst hge2'
   have hdi2:decide (((A.length:Nat):Int) < ((A.length:Nat):Int))=false:=by simp
   rw [List.take_length] at hinv2
   refine sv13 ?_
   apply hK2
   refine evl ?_
   refine Fin.nt results54 [] ?_ ?_ ?_ <;> try trivial
   (refine rsl ?_;try exact .intro)
   rw [hA,hown,hinv2]
   rfl
theorem c311 (x:SList) (hl:x.Slots.length <= maxLen) (s:Int):Ctr prog 311 [.agg ((encSList x).map .dat),.one (.ptr (.ro 1 [[.int .i64 s]] 0 0))] [] (.one (.dat (.bool (x.Slots.any fun y=>y == s)))) []:=by
 simp only [encSList,List.map_cons,List.map_nil]
 refine Ctr.bd mixed func311 rfl ?_
 refine evl ?_
 refine scs ?_
 refine ck e62 (c62 x.Slots hl s) rfl ?_
 refine evl ?_
 refine Fin.nt results311 [] ?_ ?_ ?_ <;> try trivial
theorem slotsOf_any (l:List SList) (p:Int -> Bool):(slotsOf l).any p=l.any fun x=>x.Slots.any p:=by
 simp only [slotsOf,List.any_flatten,List.any_map];rfl
theorem c279 (l:Lists) (hz:sizLists l <= 1048576) (s:Int):Ctr prog 279 [.agg ((encLists l).map .dat),.one (.dat (.int .i64 s))] [] (.one (.dat (.bool (onListM l s)))) []:=by
 obtain ⟨hl1,hq1,hl2,hq2,_⟩:=Lists.lok_of (x:=l) (by omega)
 simp only [encLists,List.map_cons,List.map_nil]
 refine Ctr.bd mixed func279 rfl ?_
 refine evl ?_
 refine scs ?_
 refine ck e312 (c312_k1 l.Global hl1 e311 (fun x hx=>c311 x (hq1 x hx).1 s)) rfl ?_
 refine evl ?_
 refine scs ?_
 refine ck e312 (c312_k1 l.Own hl2 e311 (fun x hx=>c311 x (hq2 x hx).1 s)) rfl ?_
 refine evl ?_
 refine scs ?_
 refine Fin.nt results279 [] ?_ ?_ ?_ <;> try trivial
 (refine rsl ?_;try exact .intro)
 rw [onListM,List.any_append,slotsOf_any,slotsOf_any]
 cases l.Global.any _ <;> rfl
theorem c204 (l:Lists) (hz:sizLists l <= 1048576) (s:Int):Ctr prog 204 [.agg ((encLists l).map .dat),.one (.dat (.int .i64 s))] [] (.one (.dat (.bool (onListM l s)))) []:=by
 have hmx:maxLen=9223372036854775807:=rfl
 have hca:=c132 l hz
 unfold sizLists sizSListS at hz
 have hg:=slotsOf_len l.Global
 have ho:=slotsOf_len l.Own
 simp only [encLists,List.map_cons,List.map_nil] at hca ⊢
 refine Ctr.bd mixed func204 rfl ?_
 refine evl ?_
 refine scs ?_
 refine ck e132 (hca) rfl ?_
 refine evl ?_
 refine scs ?_
 refine ck e133 (c133 (slotsOf l.Global ++ slotsOf l.Own) (by rw [List.length_append];omega) s) rfl ?_
 refine evl ?_
 refine Fin.nt results204 [] ?_ ?_ ?_ <;> try trivial
theorem not_t {b:Bool} (h:(!b)=true):b=false:=by simpa using h
theorem not_f {b:Bool} (h:(!b)=false):b=true:=by simpa using h
def listFitsM (h:Heap) (l:List Int) (c:Int):Bool:=l.all fun s=>(classInM h s == c) && decide (genInM h s <= 6)
def stateM (m:Mem) (s:Int):Int:=if classInM m.Heap s < 0 then 0 else if onListM m.Lists s=true then 1 else if 6 < genInM m.Heap s then 2 else 3
def isLiveM (m:Mem) (h:Int):Bool:=handleOk h && (stateM m (h % 32) == 3) && (genInM m.Heap (h % 32) == h / 32)
def globFits (m:Mem) (j:Nat):Bool:=listFitsM m.Heap (m.Lists.Global.getD j ⟨[]⟩).Slots j
def ownFits (m:Mem) (j:Nat):Bool:=listFitsM m.Heap (m.Lists.Own.getD j ⟨[]⟩).Slots ((j % 3:Nat):Int)
def memOk (m:Mem):Bool:=heapOk m.Heap && listsOk m.Lists && (List.range 3).all (globFits m) && (List.range 9).all (ownFits m)
theorem genOf_in {h:Heap} {s:Int} (hs:shapedM h=true) (hc:0 <= classInM h s):genOfM h s=genInM h s:=by
 have:classAtM h s=classInM h s:=by simp [classAtM,hs]
 rw [genOfM,this,if_neg (by omega)]
theorem fits_in {h:Heap} {s c:Int} (hs:shapedM h=true) (hc:0 <= c):(bif (classInM h s != c) then true else decide (6 < genOfM h s))=!((classInM h s == c) && decide (genInM h s <= 6)):=by
 by_cases h1:classInM h s=c
 ·rw [genOf_in hs (by omega)]
  have e1:(classInM h s == c)=true:=by simp [h1]
  simp only [bne,e1,Bool.not_true,cond_false,Bool.true_and]
  by_cases h2:genInM h s <= 6
  ·rw [decide_eq_true h2,decide_eq_false (by omega)];rfl
  ·rw [decide_eq_false h2,decide_eq_true (by omega)];rfl
 ·have e1:(classInM h s == c)=false:=by simp [h1]
  simp only [bne,e1,Bool.not_false,cond_true,Bool.false_and]
theorem fits_sp {h:Heap} {s c:Int}:(bif (classInM h s != c) then true else decide (6 < genInM h s))=!((classInM h s == c) && decide (genInM h s <= 6)):=by
 by_cases h1:classInM h s=c
 ·have e1:(classInM h s == c)=true:=by simp [h1]
  simp only [bne,e1,Bool.not_true,cond_false,Bool.true_and]
  by_cases h2:genInM h s <= 6
  ·rw [decide_eq_true h2,decide_eq_false (by omega)];rfl
  ·rw [decide_eq_false h2,decide_eq_true (by omega)];rfl
 ·have e1:(classInM h s == c)=false:=by simp [h1]
  simp only [bne,e1,Bool.not_false,cond_true,Bool.false_and]
theorem memOk_heap {m:Mem} (h:memOk m=true):heapOk m.Heap=true /\ listsOk m.Lists=true /\ shapedM m.Heap=true:=by
 simp only [memOk,Bool.and_eq_true] at h
 exact ⟨h.1.1.1,h.1.1.2,heapOk_shaped h.1.1.1⟩
theorem memOk_h {m:Mem} (h:heapOk m.Heap=false \/ listsOk m.Lists=false):memOk m=false:=by
 rcases h with h | h <;> simp [memOk,h]
theorem memOk_g {m:Mem} {j:Nat} (hj:j < 3) (h:globFits m j=false):memOk m=false:=by
 have:(List.range 3).all (globFits m)=false:=by
  rw [Bool.eq_false_iff];intro ha
  rw [List.all_eq_true.1 ha j (List.mem_range.2 hj)] at h;cases h
 simp [memOk,this]
theorem memOk_o {m:Mem} {j:Nat} (hj:j < 9) (h:ownFits m j=false):memOk m=false:=by
 have:(List.range 9).all (ownFits m)=false:=by
  rw [Bool.eq_false_iff];intro ha
  rw [List.all_eq_true.1 ha j (List.mem_range.2 hj)] at h;cases h
 simp [memOk,this]
theorem memOk_t {m:Mem} (h1:heapOk m.Heap=true) (h2:listsOk m.Lists=true) (hg:∀ j,j < 3 -> globFits m j=true) (ho:∀ j,j < 9 -> ownFits m j=true):memOk m=true:=by
 simp only [memOk,h1,h2,Bool.true_and,Bool.and_eq_true,List.all_eq_true,List.mem_range]
 exact ⟨hg,ho⟩
theorem listsOk_len {l:Lists} (h:listsOk l=true):l.Global.length=3 /\ l.Own.length=9:=by
 simp only [listsOk,Bool.and_eq_true,decide_eq_true_eq] at h
 omega
theorem c110 (h:Heap) (hz:sizHeap h <= 1048576) (hs:shapedM h=true) (x:SList) (hl:x.Slots.length <= maxLen) (c:Int) (hc:0 <= c):Ctr prog 110 [.agg ((encHeap h).map .dat),.agg ((encSList x).map .dat),.one (.dat (.int .i64 c))] [] (.one (.dat (.bool (listFitsM h x.Slots c)))) []:=by
 have hcc:=fun s=>c114 h (shaped_iff hs).2.2.1 s
 have hcg:=fun s=>c199 h hz s
 simp only [encHeap,encSList,List.map_cons,List.map_nil] at hcc hcg ⊢
 refine Ctr.bd mixed func110 rfl ?_
 refine evl ?_
 refine scs ?_
 refine LoopK_intro (fun zn zs=>∃ i:Nat,i <= x.Slots.length /\ zn=x.Slots.length - i /\ (listFitsM h x.Slots c=listFitsM h (x.Slots.drop i) c) /\ zs=mkSt [(12,.one (.dat (.int .i64 i))),(11,.one (.dat (.int .i64 (x.Slots.length)))),(10,.one (.dat (.sl 1 (x.Slots.map encI)))),(3,.one (.ptr (.own 0 0 0))),(4,.one (.ptr (.own 1 0 0))),(2,.one (.dat (.int .i64 c)))] [.box [.dat (.sl 1 (h.Bytes.map encI)),.dat (.sl 1 (h.Class.map encI))],.box [.dat (.sl 1 (x.Slots.map encI))]]) (x.Slots.length) _
  (Ent.wk [0,1]) ⟨0,by omega,by omega,rfl,rfl⟩ ?_
 rintro zn zs ⟨i,hi,rfl,hinv,rfl⟩ K hK
 rcases Nat.lt_or_ge i (x.Slots.length) with hlt | hge
 ·have hdi:decide ((i:Int) < ((x.Slots.length:Nat):Int))=true:=decide_eq_true (by omega)
  have hw:=wrap_succ hlt hl
  have hst:listFitsM h (x.Slots.drop i) c=(((classInM h x.Slots[i] == c) && decide (genInM h x.Slots[i] <= 6)) && listFitsM h (x.Slots.drop (i + 1)) c):=by
   simp only [listFitsM];rw [List.drop_eq_getElem_cons hlt,List.all_cons]
  have hfi:=fits_in (s:=x.Slots[i]) hs hc
  refine sv0 ?_
  refine scs ?_
  refine ck e114 (hcc x.Slots[i]) rfl ?_
  refine sv0 ?_
  refine scs ?_
  refine ck e199 (hcg x.Slots[i]) rfl ?_
  simp (maxSteps:=2000000) only [go_sem,seval,hdi,hw,getD_map hlt,encI,hfi]
  refine scs ?_
  constructor <;> intro hq
  ·apply hK
   refine sv0 ?_
   refine Fin.nt results110 [] ?_ ?_ ?_ <;> try trivial
   (refine rsl ?_;try exact .intro)
   rw [hinv,hst,not_t hq,Bool.false_and]
  ·have hq':=not_f hq
   (apply hK
    exact ⟨x.Slots.length - (i + 1),_,by omega,Ent.wk [0,1],i + 1,by omega,rfl,by rw [hinv,hst,hq',Bool.true_and],rfl⟩)
 ·have hge':x.Slots.length=i:=by omega
  subst hge'
  have hdi:decide (((x.Slots.length:Nat):Int) < ((x.Slots.length:Nat):Int))=false:=by simp
  have hre:listFitsM h x.Slots c=true:=by rw [hinv,List.drop_length];rfl
  clear hinv
  refine sv1 ?_
  apply hK
  refine evl ?_
  refine Fin.nt results110 [] ?_ ?_ ?_ <;> try trivial
  (refine rsl ?_;try exact .intro)
  exact hre.symm
theorem c55 (h:Heap) (hs:shapedM h=true) (l:List Int) (hl:l.length <= maxLen) (c:Int) (hc:0 <= c):Ctr prog 55 [.agg ((encHeap h).map .dat),.one (.dat (.sl 1 (l.map encI))),.one (.dat (.int .i64 c))] [] (.one (.dat (.bool (listFitsM h l c)))) []:=by
 have hcc:=fun s=>c123 h (shaped_iff hs).2.2.1 s
 have hcg:=fun s hc=>c121 h hs s hc
 simp only [encHeap,List.map_cons,List.map_nil] at hcc hcg ⊢
 refine Ctr.bd mixed func55 rfl ?_
 refine evl ?_
 refine scs ?_
 refine LoopK_intro (fun zn zs=>∃ i:Nat,i <= l.length /\ zn=l.length - i /\ (listFitsM h l c=listFitsM h (l.drop i) c) /\ zs=mkSt [(7,.one (.dat (.int .i64 i))),(3,.one (.ptr (.own 0 0 0))),(1,.one (.dat (.sl 1 (l.map encI)))),(2,.one (.dat (.int .i64 c)))] [.box [.dat (.sl 1 (h.Bytes.map encI)),.dat (.sl 1 (h.Class.map encI))]]) (l.length) _
  (Ent.wk [0]) ⟨0,by omega,by omega,rfl,rfl⟩ ?_
 rintro zn zs ⟨i,hi,rfl,hinv,rfl⟩ K hK
 rcases Nat.lt_or_ge i (l.length) with hlt | hge
 ·have hdi:decide ((i:Int) < ((l.length:Nat):Int))=true:=decide_eq_true (by omega)
  have hw:=wrap_succ hlt hl
  have hst:listFitsM h (l.drop i) c=(((classInM h l[i] == c) && decide (genInM h l[i] <= 6)) && listFitsM h (l.drop (i + 1)) c):=by
   simp only [listFitsM];rw [List.drop_eq_getElem_cons hlt,List.all_cons]
  have hfi:=fits_sp (h:=h) (s:=l[i]) (c:=c)
  refine sv0 ?_
  refine scs ?_
  first | refine CCallK_pl e123 (hcc l[i]) rfl rfl ?_ | refine CCallK_pm e123 (hcc l[i]) rfl rfl ?_
  refine sv0 ?_
  refine scs ?_
  first | refine CCallK_intro e121 (fun hg=>⟨by first | exact trivial | exact hg | exact ⟨hg,hg⟩ | (simp;done) | (simp_all only [Bool.not_false,Bool.not_true,and_self];done),hcg l[i] (by have:=hg;simp at this;omega)⟩) rfl rfl ?_ | refine Or.inl (CCallK_intro e121 (fun hg=>⟨by first | exact trivial | exact hg | exact ⟨hg,hg⟩ | (simp;done) | (simp_all only [Bool.not_false,Bool.not_true,and_self];done),hcg l[i] (by have:=hg;simp at this;omega)⟩) rfl rfl ?_)
  simp (maxSteps:=2000000) only [go_sem,seval,hdi,hw,getD_map hlt,encI,hfi]
  refine scs ?_
  constructor <;> intro hq
  ·apply hK
   refine sv0 ?_
   refine Fin.nt results55 [] ?_ ?_ ?_ <;> try trivial
   (refine rsl ?_;try exact .intro)
   rw [hinv,hst,not_t hq,Bool.false_and]
  ·have hq':=not_f hq
   (apply hK
    exact ⟨l.length - (i + 1),_,by omega,Ent.wk [0],i + 1,by omega,rfl,by rw [hinv,hst,hq',Bool.true_and],rfl⟩)
 ·have hge':l.length=i:=by omega
  subst hge'
  have hdi:decide (((l.length:Nat):Int) < ((l.length:Nat):Int))=false:=by simp
  have hre:listFitsM h l c=true:=by rw [hinv,List.drop_length];rfl
  clear hinv
  refine sv1 ?_
  apply hK
  refine evl ?_
  refine Fin.nt results55 [] ?_ ?_ ?_ <;> try trivial
  (refine rsl ?_;try exact .intro)
  exact hre.symm
theorem c39 (m:Mem) (hz:sizMem m <= 1048576):Ctr prog 39 [.agg ((encMem m).map .dat)] [] (.one (.dat (.bool (memOk m)))) []:=by
 have hmx:maxLen=9223372036854775807:=rfl
 unfold sizMem at hz
 have hlk:=Lists.lok_of (x:=m.Lists) (by omega)
 obtain ⟨hl1,hq1,hl2,hq2,_⟩:=hlk
 have hch:=c108 m.Heap (by omega)
 have hcl:=c109 m.Lists (by omega)
 have hcf:=fun hs x hl c hc=>c110 m.Heap (by omega) hs x hl c hc
 simp only [encHeap,encLists,encSList,List.map_cons,List.map_nil] at hch hcl hcf
 simp only [encMem,List.map_cons,List.map_nil]
 refine Ctr.bd mixed func39 rfl ?_
 refine evl ?_
 refine scs ?_
 refine ck e108 (hch) rfl ?_
 refine evl ?_
 refine scs ?_
 refine ck e109 (hcl) rfl ?_
 refine evl ?_
 refine scs ?_
 constructor <;> intro hq
 ·refine Fin.nt results39 [] ?_ ?_ ?_ <;> try trivial
  (refine rsl ?_;try exact .intro)
  refine (memOk_h ?_).symm
  cases h1:heapOk m.Heap with
  | false=>exact .inl rfl
  | true=>exact .inr (by simpa [h1] using hq)
 have h1:heapOk m.Heap=true:=by
  cases h1:heapOk m.Heap with
  | true=>rfl
  | false=>simp [h1] at hq
 have h2:listsOk m.Lists=true:=by simpa [h1] using hq
 have hs:=heapOk_shaped h1
 obtain ⟨h3,h9⟩:=listsOk_len h2
 clear hq hch hcl
 refine LoopK_intro (fun zn zs=>∃ i:Nat,i <= m.Lists.Global.length /\ zn=m.Lists.Global.length - i /\ (∀ j,j < i -> globFits m j=true) /\ zs=mkSt [(21,.one (.dat (.int .i64 i))),(20,.one (.dat (.int .i64 (m.Lists.Global.length)))),(19,.one (.dat (.sl 1 (m.Lists.Global.map encSList)))),(1,.one (.ptr (.own 0 0 0)))] [.box [.dat (.sl 1 (m.Heap.Bytes.map encI)),.dat (.sl 1 (m.Heap.Class.map encI)),.dat (.sl 1 (m.Lists.Global.map encSList)),.dat (.sl 1 (m.Lists.Own.map encSList))]]) (m.Lists.Global.length) _
  (Ent.wk [0]) ⟨0,by omega,by omega,fun j hj=>absurd hj (Nat.not_lt_zero j),rfl⟩ ?_
 rintro zn zs ⟨i,hi,rfl,hinv,rfl⟩ K hK
 rcases Nat.lt_or_ge i (m.Lists.Global.length) with hlt | hge
 ·have hdi:decide ((i:Int) < ((m.Lists.Global.length:Nat):Int))=true:=decide_eq_true (by omega)
  have hw:=wrap_succ hlt hl1
  have hgf:globFits m i=listFitsM m.Heap m.Lists.Global[i].Slots (i:Int):=by
   rw [globFits,List.getD_eq_getElem?_getD,List.getElem?_eq_getElem hlt,Option.getD_some]
  refine sv6 ?_
  refine scs ?_
  refine ck e110 (hcf hs m.Lists.Global[i] (hq1 _ (List.getElem_mem hlt)).1 (i:Int) (by omega)) rfl ?_
  refine sv6 ?_
  rw [<- hgf]
  constructor <;> intro hq
  ·apply hK
   refine sv6 ?_
   refine Fin.nt results39 [] ?_ ?_ ?_ <;> try trivial
   (refine rsl ?_;try exact .intro)
   exact (memOk_g (by omega) (not_t hq)).symm
  ·have hq':=not_f hq
   (apply hK
    exact ⟨m.Lists.Global.length - (i + 1),_,by omega,Ent.wk [0],i + 1,by omega,rfl,(fun j hj=>by rcases Nat.lt_succ_iff_lt_or_eq.1 hj with hj | rfl;exact hinv j hj;exact hq'),rfl⟩)
 ·have hge':m.Lists.Global.length=i:=by omega
  subst hge'
  have hdi:decide (((m.Lists.Global.length:Nat):Int) < ((m.Lists.Global.length:Nat):Int))=false:=by simp
  have hglob:∀ j,j < 3 -> globFits m j=true:=fun j hj=>hinv j (by omega)
  clear hinv
  refine sv1 ?_
  apply hK
  refine evl ?_
  refine LoopK_intro (fun zn zs=>∃ i:Nat,i <= m.Lists.Own.length /\ zn=m.Lists.Own.length - i /\ (∀ j,j < i -> ownFits m j=true) /\ zs=mkSt [(37,.one (.dat (.int .i64 i))),(36,.one (.dat (.int .i64 (m.Lists.Own.length)))),(35,.one (.dat (.sl 1 (m.Lists.Own.map encSList)))),(1,.one (.ptr (.own 0 0 0)))] [.box [.dat (.sl 1 (m.Heap.Bytes.map encI)),.dat (.sl 1 (m.Heap.Class.map encI)),.dat (.sl 1 (m.Lists.Global.map encSList)),.dat (.sl 1 (m.Lists.Own.map encSList))]]) (m.Lists.Own.length) _
   (Ent.wk [0]) ⟨0,by omega,by omega,fun j hj=>absurd hj (Nat.not_lt_zero j),rfl⟩ ?_
  rintro zn zs ⟨i,hi,rfl,hinv,rfl⟩ K hK
  rcases Nat.lt_or_ge i (m.Lists.Own.length) with hlt | hge
  ·have hdi:decide ((i:Int) < ((m.Lists.Own.length:Nat):Int))=true:=decide_eq_true (by omega)
   have hw:=wrap_succ hlt hl2
   have hof:ownFits m i=listFitsM m.Heap m.Lists.Own[i].Slots ((i % 3:Nat):Int):=by
    rw [ownFits,List.getD_eq_getElem?_getD,List.getElem?_eq_getElem hlt,Option.getD_some]
   have hm3:Int.tmod (i:Int) 3=((i % 3:Nat):Int):=by rw [Int.tmod_eq_emod_of_nonneg (by omega)];omega
   simp (maxSteps:=2000000) only [go_sem,seval,hdi,hw,getD_map hlt,encSList,hm3]
   refine scs ?_
   refine ck e110 (hcf hs m.Lists.Own[i] (hq2 _ (List.getElem_mem hlt)).1 ((i % 3:Nat):Int) (by omega)) rfl ?_
   refine sv6 ?_
   rw [<- hof]
   constructor <;> intro hq
   ·apply hK
    refine sv6 ?_
    refine Fin.nt results39 [] ?_ ?_ ?_ <;> try trivial
    (refine rsl ?_;try exact .intro)
    exact (memOk_o (by omega) (not_t hq)).symm
   ·have hq':=not_f hq
    (apply hK
     exact ⟨m.Lists.Own.length - (i + 1),_,by omega,Ent.wk [0],i + 1,by omega,rfl,(fun j hj=>by rcases Nat.lt_succ_iff_lt_or_eq.1 hj with hj | rfl;exact hinv j hj;exact hq'),rfl⟩)
  ·have hge':m.Lists.Own.length=i:=by omega
   subst hge'
   have hdi:decide (((m.Lists.Own.length:Nat):Int) < ((m.Lists.Own.length:Nat):Int))=false:=by simp
   have hown:∀ j,j < 9 -> ownFits m j=true:=fun j hj=>hinv j (by omega)
   clear hinv
   refine sv1 ?_
   apply hK
   refine evl ?_
   refine Fin.nt results39 [] ?_ ?_ ?_ <;> try trivial
   (refine rsl ?_;try exact .intro)
   exact (memOk_t h1 h2 hglob hown).symm
theorem c14 (m:Mem) (hz:sizMem m <= 1048576):Ctr prog 14 [.agg ((encMem m).map .dat)] [] (.one (.dat (.bool (memOk m)))) []:=by
 have hmx:maxLen=9223372036854775807:=rfl
 unfold sizMem at hz
 have hlk:=Lists.lok_of (x:=m.Lists) (by omega)
 obtain ⟨hl1,hq1,hl2,hq2,_⟩:=hlk
 have hch:=c53 m.Heap (by omega)
 have hcl:=c54 m.Lists (by omega)
 have hcf:=fun hs l hl c hc=>c55 m.Heap hs l hl c hc
 simp only [encHeap,encLists,encSList,List.map_cons,List.map_nil] at hch hcl hcf
 simp only [encMem,List.map_cons,List.map_nil]
 refine Ctr.bd mixed func14 rfl ?_
 refine evl ?_
 refine scs ?_
 refine ck e53 (hch) rfl ?_
 refine evl ?_
 refine scs ?_
 refine ck e54 (hcl) rfl ?_
 refine evl ?_
 refine scs ?_
 constructor <;> intro hq
 ·refine Fin.nt results14 [] ?_ ?_ ?_ <;> try trivial
  (refine rsl ?_;try exact .intro)
  refine (memOk_h ?_).symm
  cases h1:heapOk m.Heap with
  | false=>exact .inl rfl
  | true=>exact .inr (by simpa [h1] using hq)
 have h1:heapOk m.Heap=true:=by
  cases h1:heapOk m.Heap with
  | true=>rfl
  | false=>simp [h1] at hq
 have h2:listsOk m.Lists=true:=by simpa [h1] using hq
 have hs:=heapOk_shaped h1
 obtain ⟨h3,h9⟩:=listsOk_len h2
 clear hq hch hcl
 refine LoopK_intro (fun zn zs=>∃ i:Nat,i <= 3 /\ zn=3 - i /\ (∀ j,j < i -> globFits m j=true /\ ∀ w,w < 3 -> ownFits m (w * 3 + j)=true) /\ zs=mkSt [(3,.one (.dat (.int .i64 i))),(1,.one (.ptr (.own 0 0 0)))] [.box [.dat (.sl 1 (m.Heap.Bytes.map encI)),.dat (.sl 1 (m.Heap.Class.map encI)),.dat (.sl 1 (m.Lists.Global.map encSList)),.dat (.sl 1 (m.Lists.Own.map encSList))]]) (3) _
  (Ent.wk [0]) ⟨0,by omega,by omega,fun j hj=>absurd hj (Nat.not_lt_zero j),rfl⟩ ?_
 rintro zn zs ⟨i,hi,rfl,hinv,rfl⟩ K hK
 rcases Nat.lt_or_ge i (3) with hlt | hge
 ·have hdi:decide ((i:Int) < ((3:Nat):Int))=true:=decide_eq_true (by omega)
  have hw:=wrap_succ hlt (show 3 <= maxLen by decide)
  have hd3:decide ((i:Int) < 3)=true:=decide_eq_true (by omega)
  have hgi:i < m.Lists.Global.length:=by omega
  have hgf:globFits m i=listFitsM m.Heap m.Lists.Global[i].Slots (i:Int):=by
   rw [globFits,List.getD_eq_getElem?_getD,List.getElem?_eq_getElem hgi,Option.getD_some]
  refine sv14 ?_
  refine scs ?_
  first | refine CCallK_pl e55 (hcf hs m.Lists.Global[i].Slots (hq1 _ (List.getElem_mem hgi)).1 (i:Int) (by omega)) rfl rfl ?_ | refine CCallK_pm e55 (hcf hs m.Lists.Global[i].Slots (hq1 _ (List.getElem_mem hgi)).1 (i:Int) (by omega)) rfl rfl ?_
  refine sv14 ?_
  rw [<- hgf]
  constructor <;> intro hq
  ·apply hK
   refine sv14 ?_
   refine Fin.nt results14 [] ?_ ?_ ?_ <;> try trivial
   (refine rsl ?_;try exact .intro)
   exact (memOk_g (by omega) (not_t hq)).symm
  have hq':=not_f hq
  clear hq
  refine LoopK_intro (fun zn zs=>∃ w:Nat,w <= 3 /\ zn=3 - w /\ (∀ j,j < w -> ownFits m (j * 3 + i)=true) /\ zs=mkSt [(4,.one (.dat (.int .i64 w))),(1,.one (.ptr (.own 0 0 0))),(3,.one (.dat (.int .i64 i)))] [.box [.dat (.sl 1 (m.Heap.Bytes.map encI)),.dat (.sl 1 (m.Heap.Class.map encI)),.dat (.sl 1 (m.Lists.Global.map encSList)),.dat (.sl 1 (m.Lists.Own.map encSList))]]) (3) _
   (Ent.wk [0]) ⟨0,by omega,by omega,fun j hj=>absurd hj (Nat.not_lt_zero j),rfl⟩ ?_
  rintro zn zs ⟨w,hi2,rfl,hinv2,rfl⟩ K2 hK2
  rcases Nat.lt_or_ge w (3) with hlt2 | hge2
  ·have hdi2:decide ((w:Int) < ((3:Nat):Int))=true:=decide_eq_true (by omega)
   have hw2:=wrap_succ hlt2 (show 3 <= maxLen by decide)
   have hd4:decide ((w:Int) < 3)=true:=decide_eq_true (by omega)
   have hoi:w * 3 + i < m.Lists.Own.length:=by omega
   have hof:ownFits m (w * 3 + i)=listFitsM m.Heap m.Lists.Own[w * 3 + i].Slots (i:Int):=by
    rw [ownFits,List.getD_eq_getElem?_getD,List.getElem?_eq_getElem hoi,Option.getD_some]
    congr 1;omega
   have hti:((w:Int) * 3 + (i:Int)).toNat=w * 3 + i:=by omega
   refine sv15 ?_
   refine scs ?_
   first | refine CCallK_pl e56 (c56 (w:Int) (i:Int) (by omega) (by omega)) rfl rfl ?_ | refine CCallK_pm e56 (c56 (w:Int) (i:Int) (by omega) (by omega)) rfl rfl ?_
   refine sv15 ?_
   refine scs ?_
   first | refine CCallK_pl e55 (hcf hs m.Lists.Own[w * 3 + i].Slots (hq2 _ (List.getElem_mem hoi)).1 (i:Int) (by omega)) rfl rfl ?_ | refine CCallK_pm e55 (hcf hs m.Lists.Own[w * 3 + i].Slots (hq2 _ (List.getElem_mem hoi)).1 (i:Int) (by omega)) rfl rfl ?_
   refine sv15 ?_
   rw [<- hof]
   constructor <;> intro hq
   ·apply hK2
    refine sv15 ?_
    apply hK
    refine sv15 ?_
    refine Fin.nt results14 [] ?_ ?_ ?_ <;> try trivial
    (refine rsl ?_;try exact .intro)
    exact (memOk_o (by omega) (not_t hq)).symm
   ·have hq2':=not_f hq
    (apply hK2
     exact ⟨3 - (w + 1),_,by omega,Ent.wk [0],w + 1,by omega,rfl,(fun j hj=>by rcases Nat.lt_succ_iff_lt_or_eq.1 hj with hj | rfl;exact hinv2 j hj;exact hq2'),rfl⟩)
  ·have hge2':3=w:=by omega
   subst hge2'
   have hdi2:decide (((3:Nat):Int) < ((3:Nat):Int))=false:=by simp
   have hd4:decide (((3:Nat):Int) < 3)=false:=rfl
   simp (maxSteps:=2000000) only [go_sem,seval,hd4]
   apply hK2
   refine sv2 ?_
   have hnx:∀ j,j < i + 1 -> globFits m j=true /\ ∀ w,w < 3 -> ownFits m (w * 3 + j)=true:=fun j hj=>by
    rcases Nat.lt_succ_iff_lt_or_eq.1 hj with hj | rfl
    ·exact hinv j hj
    ·exact ⟨hq',hinv2⟩
   (apply hK
    exact ⟨3 - (i + 1),_,by omega,Ent.wk [0],i + 1,by omega,rfl,hnx,rfl⟩)
 ·have hge':3=i:=by omega
  subst hge'
  have hdi:decide (((3:Nat):Int) < ((3:Nat):Int))=false:=by simp
  have hd3:decide (((3:Nat):Int) < 3)=false:=rfl
  have hown:∀ j,j < 9 -> ownFits m j=true:=fun j hj=>by
   have:=(hinv (j % 3) (by omega)).2 (j / 3) (by omega)
   rwa [show j / 3 * 3 + j % 3=j by omega] at this
  have hglob:∀ j,j < 3 -> globFits m j=true:=fun j hj=>(hinv j hj).1
  clear hinv
  refine sv16 ?_
  apply hK
  refine evl ?_
  refine Fin.nt results14 [] ?_ ?_ ?_ <;> try trivial
  (refine rsl ?_;try exact .intro)
  exact (memOk_t h1 h2 hglob hown).symm
theorem c200 (m:Mem) (hz:sizMem m <= 1048576) (hs:shapedM m.Heap=true) (s:Int):Ctr prog 200 [.agg ((encMem m).map .dat),.one (.dat (.int .i64 s))] [] (.one (.dat (.int .i64 (stateM m s)))) []:=by
 unfold sizMem at hz
 have hcc:=c114 m.Heap (shaped_iff hs).2.2.1 s
 have hcl:=c279 m.Lists (by omega) s
 have hcg:=c199 m.Heap (by omega) s
 simp only [encHeap,encLists,List.map_cons,List.map_nil] at hcc hcl hcg
 simp only [encMem,List.map_cons,List.map_nil]
 refine Ctr.bd mixed func200 rfl ?_
 refine evl ?_
 refine scs ?_
 refine ck e114 (hcc) rfl ?_
 refine evl ?_
 constructor <;> intro hq
 ·refine Fin.nt results200 [] ?_ ?_ ?_ <;> try trivial
  (refine rsl ?_;try exact .intro)
  rw [stateM,if_pos (of_decide_eq_true hq)]
 have hc0:=of_decide_eq_false hq
 refine scs ?_
 refine ck e279 (hcl) rfl ?_
 refine evl ?_
 constructor <;> intro hq2
 ·refine Fin.nt results200 [] ?_ ?_ ?_ <;> try trivial
  (refine rsl ?_;try exact .intro)
  rw [stateM,if_neg hc0,if_pos hq2]
 have hg:genOfM m.Heap s=genInM m.Heap s:=genOf_in hs (by omega)
 have hl0:¬ onListM m.Lists s=true:=by rw [hq2];exact Bool.false_ne_true
 refine scs ?_
 refine ck e199 (hcg) rfl ?_
 refine evl ?_
 rw [hg]
 constructor <;> intro hq3
 ·refine Fin.nt results200 [] ?_ ?_ ?_ <;> try trivial
  (refine rsl ?_;try exact .intro)
  rw [stateM,if_neg hc0,if_neg hl0,if_pos (of_decide_eq_true hq3)]
 ·refine Fin.nt results200 [] ?_ ?_ ?_ <;> try trivial
  (refine rsl ?_;try exact .intro)
  rw [stateM,if_neg hc0,if_neg hl0,if_neg (of_decide_eq_false hq3)]
theorem c119 (m:Mem) (hz:sizMem m <= 1048576) (hs:shapedM m.Heap=true) (s:Int):Ctr prog 119 [.agg ((encMem m).map .dat),.one (.dat (.int .i64 s))] [] (.one (.dat (.int .i64 (stateM m s)))) []:=by
 unfold sizMem at hz
 have hcc:=c123 m.Heap (shaped_iff hs).2.2.1 s
 have hcl:=c204 m.Lists (by omega) s
 have hcg:=fun hc=>c121 m.Heap hs s hc
 simp only [encHeap,encLists,List.map_cons,List.map_nil] at hcc hcl hcg
 simp only [encMem,List.map_cons,List.map_nil]
 refine Ctr.bd mixed func119 rfl ?_
 refine evl ?_
 refine scs ?_
 refine ck e123 (hcc) rfl ?_
 refine evl ?_
 constructor <;> intro hq
 ·refine Fin.nt results119 [] ?_ ?_ ?_ <;> try trivial
  (refine rsl ?_;try exact .intro)
  rw [stateM,if_pos (of_decide_eq_true hq)]
 have hc0:=of_decide_eq_false hq
 refine scs ?_
 refine ck e204 (hcl) rfl ?_
 refine evl ?_
 constructor <;> intro hq2
 ·refine Fin.nt results119 [] ?_ ?_ ?_ <;> try trivial
  (refine rsl ?_;try exact .intro)
  rw [stateM,if_neg hc0,if_pos hq2]
 have hl0:¬ onListM m.Lists s=true:=by rw [hq2];exact Bool.false_ne_true
 refine scs ?_
 refine ck e121 (hcg (by omega)) rfl ?_
 refine evl ?_
 constructor <;> intro hq3
 ·refine Fin.nt results119 [] ?_ ?_ ?_ <;> try trivial
  (refine rsl ?_;try exact .intro)
  rw [stateM,if_neg hc0,if_neg hl0,if_pos (of_decide_eq_true hq3)]
 ·refine Fin.nt results119 [] ?_ ?_ ?_ <;> try trivial
  (refine rsl ?_;try exact .intro)
  rw [stateM,if_neg hc0,if_neg hl0,if_neg (of_decide_eq_false hq3)]
theorem state3_class {m:Mem} {s:Int} (h:stateM m s=3):0 <= classInM m.Heap s:=by
 unfold stateM at h
 split at h
 ·omega
 ·omega
theorem handle_pos {h:Int} (hh:handleOk h=true):h.tmod 32=h % 32 /\ h.tdiv 32=h / 32 /\ IntKind.i64.wrap (h / 32)=h / 32:=by
 have hb:=(handleOk_iff h).1 hh
 exact ⟨Int.tmod_eq_emod_of_nonneg (by omega),Int.tdiv_eq_ediv_of_nonneg (by omega),wrap_id (by omega) (by omega)⟩
theorem c111 (m:Mem) (hz:sizMem m <= 1048576) (hs:shapedM m.Heap=true) (h:Int):Ctr prog 111 [.agg ((encMem m).map .dat),.one (.dat (.int .i64 h))] [] (.one (.dat (.bool (isLiveM m h)))) []:=by
 have hcs:=fun s=>c200 m hz hs s
 unfold sizMem at hz
 have hcg:=fun s=>c199 m.Heap (by omega) s
 simp only [encHeap,List.map_cons,List.map_nil] at hcg
 simp only [encMem,List.map_cons,List.map_nil] at hcs ⊢
 cases hh:handleOk h with
 | false =>
  refine Ctr.bd mixed func111 rfl ?_
  refine evl ?_
  refine scs ?_
  refine ck e129 (c129 h) rfl ?_
  refine sv17 ?_
  refine scs ?_
  first | refine CCallK_of (.one (.dat (.int .i64 0))) ?_ | refine CCallK_og (.one (.dat (.int .i64 0))) ?_
  refine evl ?_
  refine scs ?_
  first | refine CCallK_of (.one (.dat (.int .i64 0))) ?_ | refine CCallK_og (.one (.dat (.int .i64 0))) ?_
  refine evl ?_
  refine scs ?_
  refine Fin.nt results111 [] ?_ ?_ ?_ <;> try trivial
  (refine rsl ?_;try exact .intro)
  simp only [isLiveM,hh,Bool.false_and]
 | true =>
  obtain ⟨ht,hd,hw⟩:=handle_pos hh
  refine Ctr.bd mixed func111 rfl ?_
  refine evl ?_
  refine scs ?_
  refine ck e129 (c129 h) rfl ?_
  refine sv18 ?_
  refine scs ?_
  refine ck e200 (hcs (h % 32)) rfl ?_
  refine sv18 ?_
  refine scs ?_
  refine ck e199 (hcg (h % 32)) rfl ?_
  refine sv18 ?_
  refine scs ?_
  refine Fin.nt results111 [] ?_ ?_ ?_ <;> try trivial
  (refine rsl ?_;try exact .intro)
  simp only [isLiveM,hh,Bool.true_and]
  by_cases h3:stateM m (h % 32)=3
  ·rw [genOf_in hs (state3_class h3),h3];rfl
  ·have:(stateM m (h % 32) == 3)=false:=by simp [h3]
   rw [this];rfl
theorem c46 (m:Mem) (hz:sizMem m <= 1048576) (hs:shapedM m.Heap=true) (h:Int):Ctr prog 46 [.agg ((encMem m).map .dat),.one (.dat (.int .i64 h))] [] (.one (.dat (.bool (isLiveM m h)))) []:=by
 have hcs:=fun s=>c119 m hz hs s
 have hcg:=fun s hc=>c121 m.Heap hs s hc
 simp only [encHeap,List.map_cons,List.map_nil] at hcg
 simp only [encMem,List.map_cons,List.map_nil] at hcs ⊢
 cases hh:handleOk h with
 | false =>
  refine Ctr.bd mixed func46 rfl ?_
  refine evl ?_
  refine scs ?_
  first | refine CCallK_pl e118 (c118 h) rfl rfl ?_ | refine CCallK_pm e118 (c118 h) rfl rfl ?_
  refine sv17 ?_
  refine scs ?_
  first | refine CCallK_of (.one (.dat (.int .i64 0))) ?_ | refine CCallK_og (.one (.dat (.int .i64 0))) ?_
  refine evl ?_
  refine scs ?_
  first | refine CCallK_of (.one (.dat (.int .i64 0))) ?_ | refine CCallK_og (.one (.dat (.int .i64 0))) ?_
  refine evl ?_
  refine scs ?_
  first | refine CCallK_of (.one (.dat (.int .i64 0))) ?_ | refine CCallK_og (.one (.dat (.int .i64 0))) ?_
  refine evl ?_
  refine scs ?_
  first | refine CCallK_of (.one (.dat (.int .i64 0))) ?_ | refine CCallK_og (.one (.dat (.int .i64 0))) ?_
  refine evl ?_
  refine scs ?_
  first | refine CCallK_of (.one (.dat (.int .i64 0))) ?_ | refine CCallK_og (.one (.dat (.int .i64 0))) ?_
  refine evl ?_
  refine scs ?_
  refine Fin.nt results46 [] ?_ ?_ ?_ <;> try trivial
  (refine rsl ?_;try exact .intro)
  simp only [isLiveM,hh,Bool.false_and]
 | true =>
  have e1:handleSlot h=h % 32:=by simp [handleSlot,hh]
  have e2:handleGen h=h / 32:=by simp [handleGen,hh]
  refine Ctr.bd mixed func46 rfl ?_
  refine evl ?_
  refine scs ?_
  first | refine CCallK_pl e118 (c118 h) rfl rfl ?_ | refine CCallK_pm e118 (c118 h) rfl rfl ?_
  refine sv17 ?_
  refine scs ?_
  first | refine CCallK_pl e120 (c120 h) rfl rfl ?_ | refine CCallK_pm e120 (c120 h) rfl rfl ?_
  refine sv19 ?_
  refine scs ?_
  first | refine CCallK_pl e119 (hcs (h % 32)) rfl rfl ?_ | refine CCallK_pm e119 (hcs (h % 32)) rfl rfl ?_
  refine sv19 ?_
  refine scs ?_
  first | refine CCallK_pl e120 (c120 h) rfl rfl ?_ | refine CCallK_pm e120 (c120 h) rfl rfl ?_
  refine sv19 ?_
  refine scs ?_
  first | refine CCallK_intro e121 (fun hg=>⟨by first | exact trivial | exact hg | exact ⟨hg,hg⟩ | (simp;done) | (simp_all only [Bool.not_false,Bool.not_true,and_self];done),hcg (h % 32) (state3_class (by have:=hg;simpa using this))⟩) rfl rfl ?_ | refine Or.inl (CCallK_intro e121 (fun hg=>⟨by first | exact trivial | exact hg | exact ⟨hg,hg⟩ | (simp;done) | (simp_all only [Bool.not_false,Bool.not_true,and_self];done),hcg (h % 32) (state3_class (by have:=hg;simpa using this))⟩) rfl rfl ?_)
  refine sv19 ?_
  refine scs ?_
  first | refine CCallK_pl e122 (c122 h) rfl rfl ?_ | refine CCallK_pm e122 (c122 h) rfl rfl ?_
  simp (maxSteps:=2000000) only [go_sem,seval,hh,e2]
  refine scs ?_
  refine Fin.nt results46 [] ?_ ?_ ?_ <;> try trivial
  (refine rsl ?_;try exact .intro)
  simp only [isLiveM,hh,Bool.true_and]
  cases (stateM m (h % 32) == 3) <;> rfl
def hasNodeM (h:Heap) (s:Int):Bool:=decide (10 <= sizeOf (classInM h s))
def startM (h:Heap) (s:Int):Int:=startOf s (classInM h s)
def loadNode (b:List Int) (a:Nat):Node:=⟨loadN b a 2,loadN b (a + 2) 4,loadN b (a + 6) 4⟩
def nodeInM (h:Heap) (s:Int):Node:=loadNode h.Bytes (startM h s).toNat
def spotM (m:Mem) (h:Int):Int × Int :=
 if handleOk h=true /\ 0 <= classInM m.Heap (h % 32) then
  if hasNodeM m.Heap (h % 32)=true then (startM m.Heap (h % 32),0) else (0,2)
 else (0,4)
def nodeAtM (m:Mem) (h:Int):Node × Int :=
 if memOk m=true then
  if (spotM m h).2=0 then (loadNode m.Heap.Bytes (spotM m h).1.toNat,0) else (⟨0,0,0⟩,(spotM m h).2)
 else (⟨0,0,0⟩,1)
theorem start_bound {h:Heap} {s:Int} (hs:shapedM h=true) (hn:hasNodeM h s=true):0 <= classInM h s /\ 0 <= startM h s /\ startM h s + 10 <= 384 /\ startM h s=((startM h s).toNat:Int):=by
 have h10:=of_decide_eq_true hn
 have hc:0 <= classInM h s:=by
  refine Classical.byContradiction fun hn=>?_
  have:sizeOf (classInM h s)=0:=by
   rcases class_cases (classInM h s) with h1 | h1 | h1 | ⟨_,h1,_⟩
   ·omega
   ·omega
   ·omega
   ·exact h1
  omega
 have hb:=classInM_bound hs hc
 have hst:startM h s=genAt s (classInM h s) + 4:=by rw [startM,startOf,if_neg (by omega)]
 omega
theorem c112 (h:Heap) (hs:shapedM h=true) (s:Int):Ctr prog 112 [.agg ((encHeap h).map .dat),.one (.dat (.int .i64 s))] [] (.one (.dat (.bool (hasNodeM h s)))) []:=by
 have hcc:=c114 h (shaped_iff hs).2.2.1 s
 simp only [encHeap,List.map_cons,List.map_nil] at hcc ⊢
 refine Ctr.bd mixed func112 rfl ?_
 refine evl ?_
 refine scs ?_
 refine ck e114 (hcc) rfl ?_
 refine evl ?_
 refine scs ?_
 refine ck e201 (c201 (classInM h s)) rfl ?_
 refine evl ?_
 refine Fin.nt results112 [] ?_ ?_ ?_ <;> try trivial
theorem c42 (h:Heap) (hs:shapedM h=true) (s:Int):Ctr prog 42 [.agg ((encHeap h).map .dat),.one (.dat (.int .i64 s))] [] (.one (.dat (.int .i64 (startM h s)))) []:=by
 have hcc:=c114 h (shaped_iff hs).2.2.1 s
 simp only [encHeap,List.map_cons,List.map_nil] at hcc ⊢
 refine Ctr.bd mixed func42 rfl ?_
 refine evl ?_
 refine scs ?_
 refine ck e114 (hcc) rfl ?_
 refine evl ?_
 refine scs ?_
 refine ck e113 (c113 s (classInM h s)) rfl ?_
 refine evl ?_
 refine Fin.nt results42 [] ?_ ?_ ?_ <;> try trivial
theorem c60 (h:Heap) (hs:shapedM h=true) (s:Int) (hn:hasNodeM h s=true):Ctr prog 60 [.agg ((encHeap h).map .dat),.one (.dat (.int .i64 s))] [] (.agg ((encNode (nodeInM h s)).map .dat)) []:=by
 have hcs:=c42 h hs s
 obtain ⟨hc,h0,h1,_⟩:=start_bound hs hn
 obtain ⟨hlb,hbb,_⟩:=shaped_iff hs
 generalize hA:startM h s=A at hcs h0 h1
 have hnd:nodeInM h s=loadNode h.Bytes A.toNat:=by rw [nodeInM,hA]
 have hw2:IntKind.i64.wrap (A + 2)=A + 2:=wrap_id (by omega) (by omega)
 have hw6:IntKind.i64.wrap (A + 6)=A + 6:=wrap_id (by omega) (by omega)
 have hcl:=fun (k w:Nat) hw7 hkw=>c138 h.Bytes (by omega) ((A.toNat + k:Nat):Int) (A.toNat + k) rfl (w:Int) w rfl hw7 hkw hbb
 have hl0:=hcl 0 2 (by omega) (by omega)
 have hl2:=hcl 2 4 (by omega) (by omega)
 have hl6:=hcl 6 4 (by omega) (by omega)
 rw [show ((A.toNat + 0:Nat):Int)=A by omega] at hl0
 rw [show ((A.toNat + 2:Nat):Int)=A + 2 by omega] at hl2
 rw [show ((A.toNat + 6:Nat):Int)=A + 6 by omega] at hl6
 rw [hnd]
 simp only [encHeap,encNode,loadNode,List.map_cons,List.map_nil] at hcs ⊢
 refine Ctr.bd mixed func60 rfl ?_
 refine evl ?_
 refine scs ?_
 refine ck e42 (hcs) rfl ?_
 refine sv20 ?_
 refine scs ?_
 first | refine CCallK_pl e138 (hl0) rfl rfl ?_ | refine CCallK_pm e138 (hl0) rfl rfl ?_
 refine sv20 ?_
 refine scs ?_
 first | refine CCallK_pl e138 (hl2) rfl rfl ?_ | refine CCallK_pm e138 (hl2) rfl rfl ?_
 refine sv20 ?_
 refine scs ?_
 first | refine CCallK_pl e138 (hl6) rfl rfl ?_ | refine CCallK_pm e138 (hl6) rfl rfl ?_
 refine sv20 ?_
 repeat ((with_reducible show _=true /\ _);refine ⟨by kernel_rfl,?_⟩)
 refine Fin.nt results60 [] ?_ ?_ ?_ <;> try trivial
theorem c47 (m:Mem) (hs:shapedM m.Heap=true) (h:Int):Ctr prog 47 [.agg ((encMem m).map .dat),.one (.dat (.int .i64 h))] [] (.tup [.one (.dat (.int .i64 (spotM m h).1)),.one (.dat (.int .i64 (spotM m h).2))]) []:=by
 have hcc:=fun s=>c123 m.Heap (shaped_iff hs).2.2.1 s
 simp only [encHeap,List.map_cons,List.map_nil] at hcc
 simp only [encMem,List.map_cons,List.map_nil]
 cases hh:handleOk h with
 | false =>
  have hr:spotM m h=(0,4):=by simp [spotM,hh]
  rw [hr]
  refine Ctr.bd mixed func47 rfl ?_
  refine evl ?_
  refine scs ?_
  first | refine CCallK_pl e118 (c118 h) rfl rfl ?_ | refine CCallK_pm e118 (c118 h) rfl rfl ?_
  refine sv17 ?_
  refine scs ?_
  first | refine CCallK_of (.one (.dat (.int .i64 0))) ?_ | refine CCallK_og (.one (.dat (.int .i64 0))) ?_
  refine evl ?_
  refine scs ?_
  first | refine CCallK_of (.one (.dat (.int .i64 0))) ?_ | refine CCallK_og (.one (.dat (.int .i64 0))) ?_
  refine evl ?_
  refine scs ?_
  refine Fin.nt results47 [] ?_ ?_ ?_ <;> try trivial
 | true =>
  have e1:handleSlot h=h % 32:=by simp [handleSlot,hh]
  cases hc:decide (classInM m.Heap (h % 32) < 0) with
  | true =>
   have hc':=of_decide_eq_true hc
   have hr:spotM m h=(0,4):=by simp [spotM,hh,show ¬ 0 <= classInM m.Heap (h % 32) by omega]
   rw [hr]
   refine Ctr.bd mixed func47 rfl ?_
   refine evl ?_
   refine scs ?_
   first | refine CCallK_pl e118 (c118 h) rfl rfl ?_ | refine CCallK_pm e118 (c118 h) rfl rfl ?_
   refine sv17 ?_
   refine scs ?_
   first | refine CCallK_pl e120 (c120 h) rfl rfl ?_ | refine CCallK_pm e120 (c120 h) rfl rfl ?_
   refine sv19 ?_
   refine scs ?_
   first | refine CCallK_pl e123 (hcc (h % 32)) rfl rfl ?_ | refine CCallK_pm e123 (hcc (h % 32)) rfl rfl ?_
   refine sv21 ?_
   refine scs ?_
   refine Fin.nt results47 [] ?_ ?_ ?_ <;> try trivial
  | false =>
   have hc':=of_decide_eq_false hc
   cases hn:decide (sizeOf (classInM m.Heap (h % 32)) < 10) with
   | true =>
    have hn':=of_decide_eq_true hn
    have hr:spotM m h=(0,2):=by simp [spotM,hh,show 0 <= classInM m.Heap (h % 32) by omega,hasNodeM,show ¬ 10 <= sizeOf (classInM m.Heap (h % 32)) by omega]
    rw [hr]
    refine Ctr.bd mixed func47 rfl ?_
    refine evl ?_
    refine scs ?_
    first | refine CCallK_pl e118 (c118 h) rfl rfl ?_ | refine CCallK_pm e118 (c118 h) rfl rfl ?_
    refine sv17 ?_
    refine scs ?_
    first | refine CCallK_pl e120 (c120 h) rfl rfl ?_ | refine CCallK_pm e120 (c120 h) rfl rfl ?_
    refine sv19 ?_
    refine scs ?_
    first | refine CCallK_pl e123 (hcc (h % 32)) rfl rfl ?_ | refine CCallK_pm e123 (hcc (h % 32)) rfl rfl ?_
    refine sv21 ?_
    refine scs ?_
    first | refine CCallK_pl e120 (c120 h) rfl rfl ?_ | refine CCallK_pm e120 (c120 h) rfl rfl ?_
    refine sv19 ?_
    refine scs ?_
    first | refine CCallK_pl e123 (hcc (h % 32)) rfl rfl ?_ | refine CCallK_pm e123 (hcc (h % 32)) rfl rfl ?_
    refine sv21 ?_
    refine scs ?_
    refine ck e124 (c124 (classInM m.Heap (h % 32))) rfl ?_
    refine sv22 ?_
    refine scs ?_
    refine Fin.nt results47 [] ?_ ?_ ?_ <;> try trivial
   | false =>
    have hn':=of_decide_eq_false hn
    have hr:spotM m h=(startOf (h % 32) (classInM m.Heap (h % 32)),0):=by simp [spotM,hh,show 0 <= classInM m.Heap (h % 32) by omega,hasNodeM,show 10 <= sizeOf (classInM m.Heap (h % 32)) by omega,startM]
    rw [hr]
    refine Ctr.bd mixed func47 rfl ?_
    refine evl ?_
    refine scs ?_
    first | refine CCallK_pl e118 (c118 h) rfl rfl ?_ | refine CCallK_pm e118 (c118 h) rfl rfl ?_
    refine sv17 ?_
    refine scs ?_
    first | refine CCallK_pl e120 (c120 h) rfl rfl ?_ | refine CCallK_pm e120 (c120 h) rfl rfl ?_
    refine sv19 ?_
    refine scs ?_
    first | refine CCallK_pl e123 (hcc (h % 32)) rfl rfl ?_ | refine CCallK_pm e123 (hcc (h % 32)) rfl rfl ?_
    refine sv21 ?_
    refine scs ?_
    first | refine CCallK_pl e120 (c120 h) rfl rfl ?_ | refine CCallK_pm e120 (c120 h) rfl rfl ?_
    refine sv19 ?_
    refine scs ?_
    first | refine CCallK_pl e123 (hcc (h % 32)) rfl rfl ?_ | refine CCallK_pm e123 (hcc (h % 32)) rfl rfl ?_
    refine sv21 ?_
    refine scs ?_
    refine ck e124 (c124 (classInM m.Heap (h % 32))) rfl ?_
    refine sv22 ?_
    refine scs ?_
    refine ck e120 (c120 h) rfl ?_
    refine sv19 ?_
    refine scs ?_
    refine ck e125 (c125 (h % 32) (classInM m.Heap (h % 32))) rfl ?_
    refine evl ?_
    refine scs ?_
    refine Fin.nt results47 [] ?_ ?_ ?_ <;> try trivial
theorem c139 (m:Mem) (hs:shapedM m.Heap=true) (A:Int) (h0:0 <= A) (h1:A + 10 <= 384):Ctr prog 139 [.agg ((encMem m).map .dat),.one (.dat (.int .i64 A))] [] (.agg ((encNode (loadNode m.Heap.Bytes A.toNat)).map .dat)) []:=by
 obtain ⟨hlb,hbb,_⟩:=shaped_iff hs
 have hw2:IntKind.i64.wrap (A + 2)=A + 2:=wrap_id (by omega) (by omega)
 have hw6:IntKind.i64.wrap (A + 6)=A + 6:=wrap_id (by omega) (by omega)
 have hcl:=fun (k w:Nat) hw7 hkw=>c205 m.Heap.Bytes (by omega) ((A.toNat + k:Nat):Int) (A.toNat + k) rfl (w:Int) w rfl hw7 hkw hbb
 have hl0:=hcl 0 2 (by omega) (by omega)
 have hl2:=hcl 2 4 (by omega) (by omega)
 have hl6:=hcl 6 4 (by omega) (by omega)
 rw [show ((A.toNat + 0:Nat):Int)=A by omega] at hl0
 rw [show ((A.toNat + 2:Nat):Int)=A + 2 by omega] at hl2
 rw [show ((A.toNat + 6:Nat):Int)=A + 6 by omega] at hl6
 simp only [encMem,encNode,loadNode,List.map_cons,List.map_nil]
 refine Ctr.bd mixed func139 rfl ?_
 refine sv20 ?_
 refine scs ?_
 first | refine CCallK_pl e205 (hl0) rfl rfl ?_ | refine CCallK_pm e205 (hl0) rfl rfl ?_
 refine sv20 ?_
 refine scs ?_
 first | refine CCallK_pl e205 (hl2) rfl rfl ?_ | refine CCallK_pm e205 (hl2) rfl rfl ?_
 refine sv20 ?_
 refine scs ?_
 first | refine CCallK_pl e205 (hl6) rfl rfl ?_ | refine CCallK_pm e205 (hl6) rfl rfl ?_
 refine sv20 ?_
 repeat ((with_reducible show _=true /\ _);refine ⟨by kernel_rfl,?_⟩)
 refine Fin.nt results139 [] ?_ ?_ ?_ <;> try trivial
end Go.Proofs.YtcnddedeeplbcaaGreat.Mod
