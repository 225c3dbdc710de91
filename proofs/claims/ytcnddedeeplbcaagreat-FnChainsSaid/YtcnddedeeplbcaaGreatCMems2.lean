/- Contracts: Mems. -/
import Derived.Test.YtcnddedeeplbcaaGreatRows
import Derived.Test.YtcnddedeeplbcaaGreatCTy
import Derived.Test.YtcnddedeeplbcaaGreatAbsTac
import Derived.Test.YtcnddedeeplbcaaGreatAbsData
import Derived.Test.YtcnddedeeplbcaaGreatCMems
import Derived.WalkKit
import Derived.ProofKit
import Derived.OpenShut
namespace Go.Proofs.YtcnddedeeplbcaaGreat.Mod
open Go.Proofs.Tryz Go.Abs Go.Proofs.YtcnddedeeplbcaaGreat.Ty Go.ChangeShapes Go.WideShapes Go.ChangeAt Go.RowKit
set_option linter.unusedSimpArgs false
set_option linter.unusedVariables false
set_option maxHeartbeats 8000000
set_option maxRecDepth 100000
def addL (l:List SList) (k:Nat) (r:List Int):List SList:=l.set k ⟨(l.getD k ⟨[]⟩).Slots ++ r⟩
theorem addL_len (l:List SList) (k:Nat) (r:List Int):(addL l k r).length=l.length:=List.length_set ..
theorem addL_sum:∀ (l:List SList) (k:Nat) (r:List Int),((addL l k r).map sizSList).sum <= (l.map sizSList).sum + r.length
 | [],k,r=>Nat.zero_le _
 | x :: l,0,r=>by
  unfold addL sizSList
  simp only [List.set_cons_zero,List.getD_cons_zero,List.map_cons,List.sum_cons,List.length_append]
  omega
 | x :: l,k + 1,r=>by
  have:=addL_sum l k r
  unfold addL at this ⊢
  simp only [List.set_cons_succ,List.getD_cons_succ,List.map_cons,List.sum_cons]
  omega
theorem addL_glob (l:Lists) (k:Nat) (r:List Int):sizLists ⟨addL l.Global k r,l.Own⟩ <= sizLists l + r.length:=by
 have hsum:=addL_sum l.Global k r
 unfold sizLists sizSListS
 show (addL l.Global k r).length + ((addL l.Global k r).map sizSList).sum + (l.Own.length + (l.Own.map sizSList).sum) <= l.Global.length + (l.Global.map sizSList).sum + (l.Own.length + (l.Own.map sizSList).sum) + r.length
 rw [addL_len];omega
theorem addL_own (l:Lists) (k:Nat) (r:List Int):sizLists ⟨l.Global,addL l.Own k r⟩ <= sizLists l + r.length:=by
 have hsum:=addL_sum l.Own k r
 unfold sizLists sizSListS
 show l.Global.length + (l.Global.map sizSList).sum + ((addL l.Own k r).length + ((addL l.Own k r).map sizSList).sum) <= l.Global.length + (l.Global.map sizSList).sum + (l.Own.length + (l.Own.map sizSList).sum) + r.length
 rw [addL_len];omega
theorem add_same {l:List SList} {k:Nat} {S r:List Int} (hk:k < l.length) (h:l[k]=⟨S⟩):addL l k r=l.set k ⟨S ++ r⟩:=by
 unfold addL
 rw [List.getD_eq_getElem?_getD,List.getElem?_eq_getElem hk,h]
 rfl
theorem c191 (m:Mem) (hs:shapedM m.Heap=true) (hg:m.Lists.Global.length=3) (hz:sizLists m.Lists <= 1048500) (k:Nat) (hk:k <= 2):∃ (m':Mem) (s:Int),shapedM m'.Heap=true /\ m'.Lists.Global.length=3 /\ m'.Lists.Own=m.Lists.Own /\ sizLists m'.Lists <= sizLists m.Lists + 4 /\ (s=-1 \/ classInM m'.Heap s=(k:Int)) /\ Ctr prog 191 [.agg [.own 0,.own 1,.own 2,.own 3],.one (.dat (.int .i64 (k:Int)))] [.vec 1 true (m.Heap.Bytes.map encI),.vec 1 true (m.Heap.Class.map encI),.vec 1 true (m.Lists.Global.map encSList),.vec 1 true (m.Lists.Own.map encSList)] (.tup [.agg [.own 0,.own 1,.own 2,.own 3],.one (.dat (.int .i64 s))]) [.vec 1 true (m'.Heap.Bytes.map encI),.vec 1 true (m'.Heap.Class.map encI),.vec 1 true (m'.Lists.Global.map encSList),.vec 1 true (m'.Lists.Own.map encSList)]:=by
 have hmx:maxLen=9223372036854775807:=rfl
 obtain ⟨h',l,g1,g2,g3,hcg⟩:=c270 m.Heap hs (k:Int) (by omega)
 obtain ⟨hl1,_,hl2,_⟩:=shaped_iff hs
 obtain ⟨hl3,_,hl4,_⟩:=shaped_iff g1
 cases l with
 | nil =>
  refine ⟨⟨h',m.Lists⟩,-1,g1,hg,rfl,Nat.le_add_right _ _,.inl rfl,?_⟩
  refine Ctr.of_body mixed func191 rfl (by kernel_rfl) (Nat.le_of_ble_eq_true rfl) (by simp [AV.Clean,AV.Clean1,Leaf.Clean,D.flat]) (by simp [AObj.Sep]) (by simp) ?_ (by simp [AV.Low,AV.Low1,Leaf.Low]) ?_
  ·intro o ho
   have:o=0 \/ o=1 \/ o=2 \/ o=3:=by have:o < 4:=ho;omega
   rcases this with rfl | rfl | rfl | rfl <;> simp [Objs,Compat,hl1,hl2,hl3,hl4]
  show wpA _ _ _ (FinQ _ _ _ _ _) _
  refine evl ?_
  refine scs ?_
  refine CallK_os [0,1] e270 (by simp [osOk,St.obj,find]) hcg rfl ?_
  simp (maxSteps:=2000000) only [go_sem,seval,List.map_nil]
  refine scs ?_
  refine Fin.nt results191 [0,1,2,3] ?_ ?_ ?_ <;> try trivial
  all_goals exact entd
 | cons s0 r =>
  rw [List.length_cons] at g2
  have hkl:k < m.Lists.Global.length:=by omega
  obtain ⟨X,hX⟩:∃ X,m.Lists.Global[k]=X:=⟨_,rfl⟩
  obtain ⟨S,rfl⟩:∃ S,X=⟨S⟩:=⟨X.Slots,rfl⟩
  have hSl:S.length <= 1048576:=by
   have:=((Lists.sok_of (show sizLists m.Lists <= 1048576 by omega)).2.1 _ (List.getElem_mem hkl)).1
   rw [hX] at this;exact this
  have hadd:=add_same (r:=r) hkl hX
  have hsum:=addL_glob m.Lists k r
  refine ⟨⟨h',addL m.Lists.Global k r,m.Lists.Own⟩,s0,g1,(addL_len _ _ _).trans hg,rfl,Nat.le_trans hsum (by omega),.inr (g3 s0 (by simp)),?_⟩
  refine Ctr.of_body mixed func191 rfl (by kernel_rfl) (Nat.le_of_ble_eq_true rfl) (by simp [AV.Clean,AV.Clean1,Leaf.Clean,D.flat]) (by simp [AObj.Sep]) (by simp) ?_ (by simp [AV.Low,AV.Low1,Leaf.Low]) ?_
  ·intro o ho
   have:o=0 \/ o=1 \/ o=2 \/ o=3:=by have:o < 4:=ho;omega
   rcases this with rfl | rfl | rfl | rfl <;> simp [Objs,Compat,hl1,hl2,hl3,hl4,addL_len]
  show wpA _ _ _ (FinQ _ _ _ _ _) _
  refine evl ?_
  refine scs ?_
  refine CallK_os [0,1] e270 (by simp [osOk,St.obj,find]) hcg rfl ?_
  have gen:∀ {ops:Array Oper} {l:List Oper} {st:St} {K:St -> Prop},(∀ K':St -> Prop,(∀ s,K s -> K' s) -> regQ prog ops l st K') -> regQ prog ops l st K:=fun h=>h _ fun _ h=>h
  rw [SomeK_app,PutK_app,RegK_app]
  refine gen fun K1 hK1=>?_
  refine sv3 ?_
  refine scs ?_
  apply hK1
  clear hK1 gen
  clear K1
  have sg:∀ {x y:Code} {Q:Exit -> St -> Prop} {st:St},(∀ y',y'=y -> wpA prog 4 (.seq x y') Q st) -> wpA prog 4 (.seq x y) Q st:=fun h=>h _ rfl
  rw [Nrm_app,Then_normal]
  refine sg fun y2 hy2=>?_
  refine evl ?_
  refine scs ?_
  subst hy2
  refine sg fun y2 hy2=>?_
  have hd1:((((r.length + 1:Nat):Int)) == 0)=false:=by rw [beq_eq_false_iff_ne];omega
  simp (maxSteps:=2000000) only [go_sem,seval,hd1]
  refine scs ?_
  subst hy2
  refine sv3 ?_
  refine scs ?_
  refine FloatO_intro 2 k 0 [(0,[]),(1,[]),(2,[]),(3,[]),(4,[]),(5,[]),(6,[]),(7,[]),(8,[]),(9,[]),(10,[]),(11,[]),(12,[]),(13,[0,1,2,3]),(14,[]),(15,[]),(16,[])] [] rfl (by rw [getD_map hkl,hX];rfl) (by rw [List.length_map];exact hkl) (by decide) (by kernel_rfl) ?_
  intro v
  have hgh:=set_get hkl [D.hdr v]
  have hrow2:(m.Lists.Global.map encSList).getD k []=[.sl 1 (S.map encI)]:=by rw [getD_map hkl,hX];rfl
  simp (maxSteps:=2000000) only [go_sem,seval,List.length_set,hrow2,hgh]
  refine ⟨⟨by omega,by omega⟩,⟨hkl,by simp [D.flat]⟩,⟨by omega,by omega⟩,⟨?_,by simp,by rw [List.length_take];simp;omega,by rw [List.length_take];simp;omega⟩,⟨by omega,by omega⟩,⟨by simp,by simp,hkl⟩,?_⟩
  ·intro row hr d hd
   obtain ⟨y,_,rfl⟩:=List.mem_map.1 (show row ∈ (s0 :: r).map encI from hr)
   simp only [encI,List.mem_cons,List.not_mem_nil,or_false] at hd
   subst hd;rfl
  have htk:List.take r.length (r.map encI)=r.map encI:=List.take_of_length_le (by simp)
  have hrw:((m.Lists.Global.map encSList).set k [.hdr v]).set k [.sl 1 (S.map encI ++ r.map encI)]=(addL m.Lists.Global k r).map encSList:=by rw [hadd,<- List.map_append];exact set_row _ k v (S ++ r)
  rw [htk,hrw]
  refine FloatR_intro [(0,[]),(1,[]),(2,[]),(3,[]),(4,[1,2,3]),(5,[])] (by kernel_rfl) ?_
  simp (maxSteps:=2000000) only [go_sem,seval,List.length_set,List.map_cons,encI]
  refine ⟨fun lf hlf=>?_,by omega,⟨by omega,by simp [D.flat]⟩,⟨by omega,by omega,by simp [D.flat]⟩,?_⟩
  ·simp only [List.mem_cons,List.not_mem_nil,or_false] at hlf
   rcases hlf with rfl | rfl | rfl | rfl <;> trivial
  refine Fin.nt results191 [0,1,2,3] ?_ ?_ ?_ <;> try trivial
  all_goals exact entd
theorem c271 (l:Lists) (hl3:l.Global.length=3) (hl9:l.Own.length=9) (hz:sizLists l <= 1048500) (w c:Int) (hw:0 <= w /\ w <= 2) (hc:0 <= c /\ c <= 2) (s:Int):∃ l':Lists,(l'.Global.length=l.Global.length /\ l'.Own.length=l.Own.length) /\ sizLists l' <= sizLists l + 1 /\ Ctr prog 271 [.agg [.own 0,.own 1],.one (.dat (.int .i64 w)),.one (.dat (.int .i64 c)),.one (.dat (.int .i64 s))] [.vec 1 true (l.Global.map encSList),.vec 1 true (l.Own.map encSList)] (.agg [.own 0,.own 1]) [.vec 1 true (l'.Global.map encSList),.vec 1 true (l'.Own.map encSList)]:=by
 have hmx:maxLen=9223372036854775807:=rfl
 have hoa:=c56 w c hw hc
 obtain ⟨k,hk⟩:∃ k:Nat,w * 3 + c=k:=⟨(w * 3 + c).toNat,by omega⟩
 rw [hk] at hoa
 have hkk:k < l.Own.length:=by omega
 obtain ⟨X,hX⟩:∃ X,l.Own[k]=X:=⟨_,rfl⟩
 obtain ⟨S,rfl⟩:∃ S,X=⟨S⟩:=⟨X.Slots,rfl⟩
 by_cases hS:(S.length:Int) < 2
 ·skip
  have hkl:k < l.Own.length:=by omega
  have hadd:=add_same (r:=[s]) hkl hX
  refine ⟨⟨l.Global,addL l.Own k [s]⟩,⟨rfl,addL_len _ _ _⟩,addL_own l k [s],?_⟩
  refine Ctr.of_body mixed func271 rfl (by kernel_rfl) (Nat.le_of_ble_eq_true rfl) (by simp [AV.Clean,AV.Clean1,Leaf.Clean,D.flat]) (by simp [AObj.Sep]) (by simp) ?_ (by simp [AV.Low,AV.Low1,Leaf.Low]) ?_
  ·intro o ho
   have:o=0 \/ o=1:=by have:o < 2:=ho;omega
   rcases this with rfl | rfl <;> simp [Objs,Compat,addL_len]
  show wpA _ _ _ (FinQ _ _ _ _ _) _
  have hrow:=getD_map (f:=encSList) hkk
  rw [hX] at hrow
  have hrow2:(l.Own.map encSList).getD k []=[.sl 1 (S.map encI)]:=hrow
  refine sv3 ?_
  refine scs ?_
  refine ck e56 (hoa) rfl ?_
  have hdS:decide ((S.length:Int) < 2)=true:=decide_eq_true hS
  simp (maxSteps:=2000000) only [go_sem,seval,hrow2,hdS]
  refine ⟨⟨by omega,by omega⟩,hkk,?_⟩
  intro v
  refine FloatR_intro [(0,[]),(1,[]),(2,[]),(3,[]),(4,[]),(5,[]),(6,[]),(7,[]),(8,[]),(9,[]),(10,[0,1,2,3,4,5,6,7,8]),(11,[0,1,2]),(12,[]),(13,[]),(14,[])] (by kernel_rfl) ?_
  have hgh:=set_get hkk [D.hdr v]
  simp (maxSteps:=2000000) only [go_sem,seval,List.length_set,hgh]
  refine ⟨⟨by omega,by omega⟩,⟨hkk,by simp [D.flat]⟩,⟨rfl,by simp⟩,⟨⟨by omega,by omega⟩,hkk,by simp [D.flat]⟩,⟨by simp [D.flat],by simp,by omega,by omega⟩,⟨by omega,by omega⟩,⟨by simp,by simp,hkk⟩,?_⟩
  have hrw:((l.Own.map encSList).set k [.hdr v]).set k [.sl 1 (S.map encI ++ [[.int .i64 s]])]=(addL l.Own k [s]).map encSList:=by
   rw [hadd]
   have:=set_row l.Own k v (S ++ [s])
   rwa [List.map_append] at this
  rw [hrw]
  refine Fin.nt results271 [0,1] ?_ ?_ ?_ <;> try trivial
  all_goals exact entd
 ·obtain ⟨j,rfl⟩:∃ j:Nat,c=j:=⟨c.toNat,by omega⟩
  have hkl:j < l.Global.length:=by omega
  obtain ⟨Z,hY⟩:∃ Z,l.Global[j]=Z:=⟨_,rfl⟩
  obtain ⟨Y,rfl⟩:∃ Y,Z=⟨Y⟩:=⟨Z.Slots,rfl⟩
  have hYl:Y.length <= 1048576:=by
   have:=((Lists.sok_of (show sizLists l <= 1048576 by omega)).2.1 _ (List.getElem_mem hkl)).1
   rw [hY] at this;exact this
  have hadd:=add_same (r:=[s]) hkl hY
  refine ⟨⟨addL l.Global j [s],l.Own⟩,⟨addL_len _ _ _,rfl⟩,addL_glob l j [s],?_⟩
  refine Ctr.of_body mixed func271 rfl (by kernel_rfl) (Nat.le_of_ble_eq_true rfl) (by simp [AV.Clean,AV.Clean1,Leaf.Clean,D.flat]) (by simp [AObj.Sep]) (by simp) ?_ (by simp [AV.Low,AV.Low1,Leaf.Low]) ?_
  ·intro o ho
   have:o=0 \/ o=1:=by have:o < 2:=ho;omega
   rcases this with rfl | rfl <;> simp [Objs,Compat,addL_len]
  show wpA _ _ _ (FinQ _ _ _ _ _) _
  have hrow2:(l.Own.map encSList).getD k []=[.sl 1 (S.map encI)]:=by rw [getD_map hkk,hX];rfl
  have hrow3:(l.Global.map encSList).getD j []=[.sl 1 (Y.map encI)]:=by rw [getD_map hkl,hY];rfl
  have hdS:decide ((S.length:Int) < 2)=false:=decide_eq_false hS
  refine sv3 ?_
  refine scs ?_
  refine ck e56 (hoa) rfl ?_
  simp (maxSteps:=2000000) only [go_sem,seval,hrow2,hdS]
  refine ⟨⟨by omega,by omega⟩,hkk,?_⟩
  intro v
  refine FloatO_intro 0 j 0 [(0,[]),(1,[]),(2,[]),(3,[]),(4,[]),(5,[]),(6,[]),(7,[]),(8,[]),(9,[]),(10,[0,1,2,3,4,5,6,7,8]),(11,[0,1,2]),(12,[]),(13,[]),(14,[])] [] rfl (by rw [hrow3];rfl) (by rw [List.length_map];exact hkl) (by decide) (by kernel_rfl) ?_
  intro v2
  have hgh:=set_get hkl [D.hdr v2]
  simp (maxSteps:=2000000) only [go_sem,seval,List.length_set,hrow3,hgh]
  refine ⟨⟨by omega,by omega⟩,⟨hkl,by simp [D.flat]⟩,⟨rfl,by simp⟩,⟨⟨by omega,by omega⟩,hkl,by simp [D.flat]⟩,⟨by simp [D.flat],by simp,by omega,by omega⟩,⟨by omega,by omega⟩,⟨by simp,by simp,hkl⟩,?_⟩
  have hrw:((l.Global.map encSList).set j [.hdr v2]).set j [.sl 1 (Y.map encI ++ [[.int .i64 s]])]=(addL l.Global j [s]).map encSList:=by
   rw [hadd]
   have:=set_row l.Global j v2 (Y ++ [s])
   rwa [List.map_append] at this
  rw [hrw]
  have hgk:=set_get hkk [D.hdr v]
  refine Fin.ent (Ent.closeL (k:=1) (n:=4) (p:=5) (i:=k) (j:=0) rfl (by simp;omega) (by decide) (v:=v) (by rw [hgk];rfl) (s2:=1) (rs:=S.map encI) rfl rfl (by decide)) ?_
  have hback:((l.Own.map encSList).set k [.hdr v]).set k [.sl 1 (S.map encI)]=l.Own.map encSList:=by
   have hb:l.Own.set k ⟨S⟩=l.Own:=by rw [<- hX];exact List.set_getElem_self hkk
   have:=set_row l.Own k v S
   rwa [hb] at this
  simp (maxSteps:=2000000) only [go_sem,seval,hgk,closeSt]
  rw [hback]
  refine Fin.nt results271 [0,1] ?_ ?_ ?_ <;> try trivial
  all_goals exact entd
theorem c193 (m:Mem) (hs:shapedM m.Heap=true) (hl3:m.Lists.Global.length=3) (hl9:m.Lists.Own.length=9) (hz:sizLists m.Lists <= 1048500) (w s:Int) (hw:0 <= w /\ w <= 2) (hc:0 <= classInM m.Heap s):∃ m':Mem,shapedM m'.Heap=true /\ m'.Lists.Global.length=3 /\ m'.Lists.Own.length=9 /\ sizLists m'.Lists <= sizLists m.Lists + 1 /\ Ctr prog 193 [.agg [.own 0,.own 1,.own 2,.own 3],.one (.dat (.int .i64 w)),.one (.dat (.int .i64 s))] [.vec 1 true (m.Heap.Bytes.map encI),.vec 1 true (m.Heap.Class.map encI),.vec 1 true (m.Lists.Global.map encSList),.vec 1 true (m.Lists.Own.map encSList)] (.agg [.own 0,.own 1,.own 2,.own 3]) [.vec 1 true (m'.Heap.Bytes.map encI),.vec 1 true (m'.Heap.Class.map encI),.vec 1 true (m'.Lists.Global.map encSList),.vec 1 true (m'.Lists.Own.map encSList)]:=by
 have hmx:maxLen=9223372036854775807:=rfl
 obtain ⟨b1,b2,b3,b4⟩:=shaped_iff hs
 obtain ⟨s0,s1,_,cc,g0,g1⟩:=classInM_bound hs hc
 have hsz:=sizeOf_pos (classInM m.Heap s)
 have hgb:=loadN_bound b2 (genAt s (classInM m.Heap s)).toNat (w:=4) (by decide)
 have hgd:genInM m.Heap s=loadN m.Heap.Bytes (genAt s (classInM m.Heap s)).toNat 4:=rfl
 obtain ⟨g,hg⟩:∃ g,genInM m.Heap s=g:=⟨_,rfl⟩
 have hg0:0 <= g /\ g < 72057594037927936:=by omega
 have hwg:IntKind.i64.wrap (g + 1)=g + 1:=wrap_id (by omega) (by omega)
 have hc1:=c123 m.Heap b3 s
 have hc2:=c121 m.Heap hs s hc
 rw [hg] at hc2
 have hc3:=c206 s (classInM m.Heap s)
 have hc4:=c126 m.Heap.Bytes (by omega) (genAt s (classInM m.Heap s)) 4 (by omega) (g + 1) (by omega) (by omega) g0 (by omega)
 obtain ⟨l',⟨e1,e2⟩,e3,hc5⟩:=c271 m.Lists hl3 hl9 hz w (classInM m.Heap s) hw ⟨hc,cc⟩ s
 have hsh:shapedM (setBytes m (putL m.Heap.Bytes (genAt s (classInM m.Heap s)).toNat (fixNs 4 (g + 1)))).Heap=true:=setBytes_shaped hs (putL_len ..) (putL_byte _ _ _ b2 (fixNs_in 4 _))
 simp only [encHeap,List.map_cons,List.map_nil] at hc1 hc2
 cases hd:decide (g + 1 <= 6) with
 | true =>
  refine ⟨⟨⟨putL m.Heap.Bytes (genAt s (classInM m.Heap s)).toNat (fixNs 4 (g + 1)),m.Heap.Class⟩,l'⟩,hsh,e1.trans hl3,e2.trans hl9,e3,?_⟩
  refine Ctr.of_body mixed func193 rfl (by kernel_rfl) (Nat.le_of_ble_eq_true rfl) (by simp [AV.Clean,AV.Clean1,Leaf.Clean,D.flat]) (by simp [AObj.Sep]) (by simp) ?_ (by simp [AV.Low,AV.Low1,Leaf.Low]) ?_
  ·intro o ho
   have:o=0 \/ o=1 \/ o=2 \/ o=3:=by have:o < 4:=ho;omega
   rcases this with rfl | rfl | rfl | rfl <;> simp [Objs,Compat,putL_len,e1,e2]
  show wpA _ _ _ (FinQ _ _ _ _ _) _
  refine evl ?_
  refine scs ?_
  refine ck e123 (hc1) rfl ?_
  refine evl ?_
  refine scs ?_
  refine ck e121 (hc2) rfl ?_
  refine sv41 ?_
  refine FloatR_intro [(0,[]),(1,[]),(2,[]),(3,[]),(4,[]),(6,[]),(5,[0,1,2,6]),(7,[]),(8,[]),(9,[]),(10,[])] (by kernel_rfl) ?_
  refine sv41 ?_
  refine scs ?_
  refine ck e206 (hc3) rfl ?_
  refine sv41 ?_
  refine scs ?_
  refine CallK_os [0] e126 (by simp [osOk,St.obj,find]) hc4 rfl ?_
  simp (maxSteps:=2000000) only [go_sem,seval,hwg,hd]
  refine scs ?_
  refine CallK_os [2,3] e271 (by simp [osOk,St.obj,find]) hc5 rfl ?_
  refine evl ?_
  refine scs ?_
  refine Fin.nt results193 [0,1,2,3] ?_ ?_ ?_ <;> try trivial
  all_goals exact entd
 | false =>
  refine ⟨⟨⟨putL m.Heap.Bytes (genAt s (classInM m.Heap s)).toNat (fixNs 4 (g + 1)),m.Heap.Class⟩,m.Lists⟩,hsh,hl3,hl9,Nat.le_add_right _ _,?_⟩
  refine Ctr.of_body mixed func193 rfl (by kernel_rfl) (Nat.le_of_ble_eq_true rfl) (by simp [AV.Clean,AV.Clean1,Leaf.Clean,D.flat]) (by simp [AObj.Sep]) (by simp) ?_ (by simp [AV.Low,AV.Low1,Leaf.Low]) ?_
  ·intro o ho
   have:o=0 \/ o=1 \/ o=2 \/ o=3:=by have:o < 4:=ho;omega
   rcases this with rfl | rfl | rfl | rfl <;> simp [Objs,Compat,putL_len,e1,e2]
  show wpA _ _ _ (FinQ _ _ _ _ _) _
  refine evl ?_
  refine scs ?_
  refine ck e123 (hc1) rfl ?_
  refine evl ?_
  refine scs ?_
  refine ck e121 (hc2) rfl ?_
  refine sv41 ?_
  refine FloatR_intro [(0,[]),(1,[]),(2,[]),(3,[]),(4,[]),(6,[]),(5,[0,1,2,6]),(7,[]),(8,[]),(9,[]),(10,[])] (by kernel_rfl) ?_
  refine sv41 ?_
  refine scs ?_
  refine ck e206 (hc3) rfl ?_
  refine sv41 ?_
  refine scs ?_
  refine CallK_os [0] e126 (by simp [osOk,St.obj,find]) hc4 rfl ?_
  simp (maxSteps:=2000000) only [go_sem,seval,hwg,hd]
  refine scs ?_
  refine Fin.nt results193 [0,1,2,3] ?_ ?_ ?_ <;> try trivial
  all_goals exact entd
def Sh (m:Mem) (n:Nat):Prop:=shapedM m.Heap=true /\ m.Lists.Global.length=3 /\ m.Lists.Own.length=9 /\ sizLists m.Lists <= n
theorem Sh.siz {m:Mem} {n:Nat} (h:Sh m n) (hn:n <= 1048000):sizMem m <= 1048576 /\ sizHeap m.Heap <= 1048576:=by
 obtain ⟨h1,_,_,h2⟩:=h
 obtain ⟨b1,_,b2,_⟩:=shaped_iff h1
 unfold sizMem sizHeap
 omega
theorem Sh.more {m:Mem} {n k:Nat} (h:Sh m n) (hn:n <= k):Sh m k:=⟨h.1,h.2.1,h.2.2.1,Nat.le_trans h.2.2.2 hn⟩
theorem c103 (m:Mem) (N:Nat) (hN:N <= 1048000) (hm:Sh m N) (w h:Int) (hw:0 <= w /\ w <= 2):∃ (m':Mem) (code:Int),Sh m' (N + 1) /\ Ctr prog 103 [.agg ((encMem m).map .dat),.one (.dat (.int .i64 w)),.one (.dat (.int .i64 h))] [] (.tup [.agg [.own 0,.own 1,.own 2,.own 3],.one (.dat (.int .i64 code))]) [.vec 1 true (m'.Heap.Bytes.map encI),.vec 1 true (m'.Heap.Class.map encI),.vec 1 true (m'.Lists.Global.map encSList),.vec 1 true (m'.Lists.Own.map encSList)]:=by
 have hmx:maxLen=9223372036854775807:=rfl
 obtain ⟨z1,z2⟩:=hm.siz hN
 obtain ⟨hs,hl3,hl9,hz⟩:=hm
 have hc1:=c44 m z2 (Lists.sok_of (show sizLists m.Lists <= 1048576 by omega))
 have hc2:=c14 m z1
 have hc3:=c46 m z1 hs h
 have hww:within w 0 2=true:=by unfold within;exact decide_eq_true hw
 simp only [encMem,encHeap,encLists,List.map_cons,List.map_nil,List.cons_append,List.nil_append,List.map_append] at hc1 hc2 hc3
 cases ho:memOk m with
 | false =>
  refine ⟨m,1,⟨hs,hl3,hl9,by omega⟩,?_⟩
  rw [ho] at hc2
  simp only [encMem,encHeap,encLists,List.map_cons,List.map_nil,List.cons_append,List.nil_append,List.map_append]
  refine Ctr.bd mixed func103 rfl ?_
  refine evl ?_
  refine scs ?_
  refine ck e44 (hc1) rfl ?_
  refine evl ?_
  refine scs ?_
  refine ck e14 (hc2) rfl ?_
  refine sv42 ?_
  first | refine CCallK_of (.one (.dat (.bool false))) ?_ | refine CCallK_og (.one (.dat (.bool false))) ?_
  refine evl ?_
  refine Fin.nt results103 [2,3,4,5] ?_ ?_ ?_ <;> try trivial
  all_goals exact entd
 | true =>
  rw [ho] at hc2
  cases hv:isLiveM m h with
  | false =>
   rw [hv] at hc3
   refine ⟨m,4,⟨hs,hl3,hl9,by omega⟩,?_⟩
   simp only [encMem,encHeap,encLists,List.map_cons,List.map_nil,List.cons_append,List.nil_append,List.map_append]
   refine Ctr.bd mixed func103 rfl ?_
   refine evl ?_
   refine scs ?_
   refine ck e44 (hc1) rfl ?_
   refine evl ?_
   refine scs ?_
   refine ck e14 (hc2) rfl ?_
   refine sv42 ?_
   refine scs ?_
   first | refine CCallK_intro e67 (fun hg=>⟨by first | exact trivial | exact hg | exact ⟨hg,hg⟩ | (simp;done) | (simp_all only [Bool.not_false,Bool.not_true,and_self];done),c67 ..⟩) rfl rfl ?_ | refine Or.inl (CCallK_intro e67 (fun hg=>⟨by first | exact trivial | exact hg | exact ⟨hg,hg⟩ | (simp;done) | (simp_all only [Bool.not_false,Bool.not_true,and_self];done),c67 ..⟩) rfl rfl ?_)
   refine sv42 ?_
   refine scs ?_
   refine ck e46 (hc3) rfl ?_
   refine sv42 ?_
   refine scs ?_
   refine Fin.nt results103 [2,3,4,5] ?_ ?_ ?_ <;> try trivial
   all_goals exact entd
  | true =>
   rw [hv] at hc3
   obtain ⟨v1,v2,_⟩:=live_iff hv
   have hcl:=state3_class v2
   have hhs:handleSlot h=h % 32:=by simp [handleSlot,v1]
   have hc4:=c120 h
   rw [hhs] at hc4
   obtain ⟨m',e1,e2,e3,e4,hc5⟩:=c193 m hs hl3 hl9 (by omega) w (h % 32) hw hcl
   refine ⟨m',0,⟨e1,e2,e3,by omega⟩,?_⟩
   simp only [encMem,encHeap,encLists,List.map_cons,List.map_nil,List.cons_append,List.nil_append,List.map_append]
   refine Ctr.bd mixed func103 rfl ?_
   refine evl ?_
   refine scs ?_
   refine ck e44 (hc1) rfl ?_
   refine evl ?_
   refine scs ?_
   refine ck e14 (hc2) rfl ?_
   refine sv42 ?_
   refine scs ?_
   first | refine CCallK_intro e67 (fun hg=>⟨by first | exact trivial | exact hg | exact ⟨hg,hg⟩ | (simp;done) | (simp_all only [Bool.not_false,Bool.not_true,and_self];done),c67 ..⟩) rfl rfl ?_ | refine Or.inl (CCallK_intro e67 (fun hg=>⟨by first | exact trivial | exact hg | exact ⟨hg,hg⟩ | (simp;done) | (simp_all only [Bool.not_false,Bool.not_true,and_self];done),c67 ..⟩) rfl rfl ?_)
   refine sv42 ?_
   refine scs ?_
   refine ck e46 (hc3) rfl ?_
   refine sv42 ?_
   refine FloatR_intro [(0,[]),(1,[]),(2,[]),(3,[0,1]),(4,[]),(5,[]),(6,[])] (by kernel_rfl) ?_
   refine sv42 ?_
   refine scs ?_
   refine ck e120 (hc4) rfl ?_
   refine sv42 ?_
   refine scs ?_
   refine CallK_os [2,3,4,5] e193 (by simp [osOk,St.obj,find]) hc5 rfl ?_
   refine sv42 ?_
   refine scs ?_
   refine Fin.nt results103 [2,3,4,5] ?_ ?_ ?_ <;> try trivial
   all_goals exact entd
theorem own_class {m:Mem} (ho:memOk m=true) {w:Int} (hw:0 <= w /\ w <= 2) {c k:Nat} (hc:c <= 2) (hk:w * 3 + c=k) {s:Int} (hs:s ∈ (m.Lists.Own.getD k ⟨[]⟩).Slots):classInM m.Heap s=(c:Int):=by
 simp only [memOk,Bool.and_eq_true,List.all_eq_true,List.mem_range] at ho
 have h1:=ho.2 k (by omega)
 unfold ownFits listFitsM at h1
 rw [List.all_eq_true] at h1
 have h2:=h1 s hs
 rw [Bool.and_eq_true,beq_iff_eq] at h2
 have h3:k % 3=c:=by omega
 rw [h2.1,h3]
theorem glob_class {m:Mem} (ho:memOk m=true) {c:Nat} (hc:c <= 2) {s:Int} (hs:s ∈ (m.Lists.Global.getD c ⟨[]⟩).Slots):classInM m.Heap s=(c:Int):=by
 simp only [memOk,Bool.and_eq_true,List.all_eq_true,List.mem_range] at ho
 have h1:=ho.1.2 c (by omega)
 unfold globFits listFitsM at h1
 rw [List.all_eq_true] at h1
 have h2:=h1 s hs
 rw [Bool.and_eq_true,beq_iff_eq] at h2
 exact h2.1
theorem slot_pos {m:Mem} (hs:shapedM m.Heap=true) {s:Int} {c:Nat} (h:classInM m.Heap s=(c:Int)):0 <= s:=(classInM_bound hs (by omega)).1
theorem c102 (m:Mem) (N:Nat) (hN:N <= 1048000) (hm:Sh m N) (w z:Int) (hw:0 <= w /\ w <= 2):∃ (m':Mem) (h code:Int),Sh m' (N + 4) /\ Ctr prog 102 [.agg ((encMem m).map .dat),.one (.dat (.int .i64 w)),.one (.dat (.int .i64 z))] [] (.tup [.agg [.own 0,.own 1,.own 2,.own 3],.one (.dat (.int .i64 h)),.one (.dat (.int .i64 code))]) [.vec 1 true (m'.Heap.Bytes.map encI),.vec 1 true (m'.Heap.Class.map encI),.vec 1 true (m'.Lists.Global.map encSList),.vec 1 true (m'.Lists.Own.map encSList)]:=by
 have hmx:maxLen=9223372036854775807:=rfl
 obtain ⟨z1,z2⟩:=hm.siz hN
 obtain ⟨hs,hl3,hl9,hz⟩:=hm
 have hc1:=c44 m z2 (Lists.sok_of (show sizLists m.Lists <= 1048576 by omega))
 have hc2:=c14 m z1
 have hc3:=c188 z
 have hww:within w 0 2=true:=by unfold within;exact decide_eq_true hw
 simp only [encMem,encHeap,encLists,List.map_cons,List.map_nil,List.cons_append,List.nil_append,List.map_append] at hc1 hc2
 cases ho:memOk m with
 | false =>
  refine ⟨m,0,1,⟨hs,hl3,hl9,by omega⟩,?_⟩
  rw [ho] at hc2
  simp only [encMem,encHeap,encLists,List.map_cons,List.map_nil,List.cons_append,List.nil_append,List.map_append]
  refine Ctr.bd mixed func102 rfl ?_
  refine evl ?_
  refine scs ?_
  refine ck e44 (hc1) rfl ?_
  refine evl ?_
  refine scs ?_
  refine ck e188 (hc3) rfl ?_
  refine evl ?_
  refine scs ?_
  refine ck e14 (hc2) rfl ?_
  refine sv42 ?_
  first | refine CCallK_of (.one (.dat (.bool false))) ?_ | refine CCallK_og (.one (.dat (.bool false))) ?_
  refine evl ?_
  refine Fin.nt results102 [2,3,4,5] ?_ ?_ ?_ <;> try trivial
  all_goals exact entd
 | true =>
  rw [ho] at hc2
  rcases classOf_in z with hcm | hcm
  ·rw [hcm] at hc3
   refine ⟨m,0,2,⟨hs,hl3,hl9,by omega⟩,?_⟩
   simp only [encMem,encHeap,encLists,List.map_cons,List.map_nil,List.cons_append,List.nil_append,List.map_append]
   refine Ctr.bd mixed func102 rfl ?_
   refine evl ?_
   refine scs ?_
   refine ck e44 (hc1) rfl ?_
   refine evl ?_
   refine scs ?_
   refine ck e188 (hc3) rfl ?_
   refine evl ?_
   refine scs ?_
   refine ck e14 (hc2) rfl ?_
   refine sv42 ?_
   refine scs ?_
   first | refine CCallK_intro e67 (fun hg=>⟨by first | exact trivial | exact hg | exact ⟨hg,hg⟩ | (simp;done) | (simp_all only [Bool.not_false,Bool.not_true,and_self];done),c67 ..⟩) rfl rfl ?_ | refine Or.inl (CCallK_intro e67 (fun hg=>⟨by first | exact trivial | exact hg | exact ⟨hg,hg⟩ | (simp;done) | (simp_all only [Bool.not_false,Bool.not_true,and_self];done),c67 ..⟩) rfl rfl ?_)
   refine sv42 ?_
   refine scs ?_
   refine Fin.nt results102 [2,3,4,5] ?_ ?_ ?_ <;> try trivial
   all_goals exact entd
  obtain ⟨c,hcc⟩:∃ c:Nat,classOfM z=c:=⟨(classOfM z).toNat,by omega⟩
  have hc2':c <= 2:=by omega
  rw [hcc] at hc3
  obtain ⟨k,hk⟩:∃ k:Nat,w * 3 + c=k:=⟨(w * 3 + c).toNat,by omega⟩
  have hcn:decide ((c:Int) < 0)=false:=decide_eq_false (by omega)
  obtain ⟨l1,s1,r1,q1,i1,hc5⟩:=c189 m.Lists (by omega) w (c:Int) hw ⟨by omega,by omega⟩ k hk
  simp only [encLists,List.map_cons,List.map_nil] at hc5
  rcases i1 with rfl | i1
  ·obtain ⟨l2,s2,r2,q2,i2,hc6⟩:=c190 l1 (by have:=r1.2.2;omega) c hc2'
   have r3:=r1.trans r2
   simp only [encLists,List.map_cons,List.map_nil] at hc6
   rcases i2 with rfl | i2
   ·obtain ⟨m3,s3,e1,e2,e3,e4,i3,hc7⟩:=c191 ⟨m.Heap,l2⟩ hs (r3.1.trans hl3) (by show sizLists l2 <= 1048500;have:=r3.2.2;omega) c hc2'
    have e4':sizLists m3.Lists <= sizLists l2 + 4:=e4
    have hsh:Sh m3 (N + 4):=⟨e1,e2,by rw [e3];exact r3.2.1.trans hl9,by have:=r3.2.2;omega⟩
    rcases i3 with rfl | i3
    ·refine ⟨m3,0,3,hsh,?_⟩
     simp only [encMem,encHeap,encLists,List.map_cons,List.map_nil,List.cons_append,List.nil_append,List.map_append]
     refine Ctr.bd mixed func102 rfl ?_
     refine evl ?_
     refine scs ?_
     refine ck e44 (hc1) rfl ?_
     refine evl ?_
     refine scs ?_
     refine ck e188 (hc3) rfl ?_
     refine evl ?_
     refine scs ?_
     refine ck e14 (hc2) rfl ?_
     refine sv42 ?_
     refine scs ?_
     first | refine CCallK_intro e67 (fun hg=>⟨by first | exact trivial | exact hg | exact ⟨hg,hg⟩ | (simp;done) | (simp_all only [Bool.not_false,Bool.not_true,and_self];done),c67 ..⟩) rfl rfl ?_ | refine Or.inl (CCallK_intro e67 (fun hg=>⟨by first | exact trivial | exact hg | exact ⟨hg,hg⟩ | (simp;done) | (simp_all only [Bool.not_false,Bool.not_true,and_self];done),c67 ..⟩) rfl rfl ?_)
     refine sv43 ?_
     refine scs ?_
     refine ck e189 (hc5) rfl ?_
     refine sv43 ?_
     refine scs ?_
     refine ck e190 (hc6) rfl ?_
     refine sv43 ?_
     refine scs ?_
     refine CallK_os [2,3,10,11] e191 (by simp [osOk,St.obj,find]) hc7 rfl ?_
     refine sv43 ?_
     refine scs ?_
     refine Fin.nt results102 [2,3,10,11] ?_ ?_ ?_ <;> try trivial
     all_goals exact entd
    ·have hp3:=(classInM_bound e1 (show 0 <= classInM m3.Heap s3 by omega)).1
     have hn3:decide (s3 < 0)=false:=decide_eq_false (by omega)
     have hc8:=c192 m3 e1 s3 (by omega)
     simp only [encMem,encHeap,encLists,List.map_cons,List.map_nil,List.cons_append,List.nil_append,List.map_append] at hc8
     refine ⟨m3,handleOfM s3 (genInM m3.Heap s3),0,hsh,?_⟩
     simp only [encMem,encHeap,encLists,List.map_cons,List.map_nil,List.cons_append,List.nil_append,List.map_append]
     refine Ctr.bd mixed func102 rfl ?_
     refine evl ?_
     refine scs ?_
     refine ck e44 (hc1) rfl ?_
     refine evl ?_
     refine scs ?_
     refine ck e188 (hc3) rfl ?_
     refine evl ?_
     refine scs ?_
     refine ck e14 (hc2) rfl ?_
     refine sv42 ?_
     refine scs ?_
     first | refine CCallK_intro e67 (fun hg=>⟨by first | exact trivial | exact hg | exact ⟨hg,hg⟩ | (simp;done) | (simp_all only [Bool.not_false,Bool.not_true,and_self];done),c67 ..⟩) rfl rfl ?_ | refine Or.inl (CCallK_intro e67 (fun hg=>⟨by first | exact trivial | exact hg | exact ⟨hg,hg⟩ | (simp;done) | (simp_all only [Bool.not_false,Bool.not_true,and_self];done),c67 ..⟩) rfl rfl ?_)
     refine sv43 ?_
     refine scs ?_
     refine ck e189 (hc5) rfl ?_
     refine sv43 ?_
     refine scs ?_
     refine ck e190 (hc6) rfl ?_
     refine sv43 ?_
     refine scs ?_
     refine CallK_os [2,3,10,11] e191 (by simp [osOk,St.obj,find]) hc7 rfl ?_
     simp (maxSteps:=2000000) only [go_sem,seval,hww,hcn,hn3]
     refine scs ?_
     refine ck e192 (hc8) rfl ?_
     refine evl ?_
     repeat ((with_reducible show _=true /\ _);refine ⟨by kernel_rfl,?_⟩)
     refine scs ?_
     refine Fin.nt results102 [2,3,10,11] ?_ ?_ ?_ <;> try trivial
     all_goals exact entd
   ·have hcl:=glob_class ho hc2' (by rw [<- q1];exact i2)
    have hp2:=slot_pos hs hcl
    have hn2:decide (s2 < 0)=false:=decide_eq_false (by omega)
    have hc8:=c192 ⟨m.Heap,l2⟩ hs s2 (by show 0 <= classInM m.Heap s2;omega)
    simp only [encMem,encHeap,encLists,List.map_cons,List.map_nil,List.cons_append,List.nil_append,List.map_append] at hc8
    refine ⟨⟨m.Heap,l2⟩,handleOfM s2 (genInM m.Heap s2),0,⟨hs,r3.1.trans hl3,r3.2.1.trans hl9,Nat.le_trans r3.2.2 (by omega)⟩,?_⟩
    simp only [encMem,encHeap,encLists,List.map_cons,List.map_nil,List.cons_append,List.nil_append,List.map_append]
    refine Ctr.bd mixed func102 rfl ?_
    refine evl ?_
    refine scs ?_
    refine ck e44 (hc1) rfl ?_
    refine evl ?_
    refine scs ?_
    refine ck e188 (hc3) rfl ?_
    refine evl ?_
    refine scs ?_
    refine ck e14 (hc2) rfl ?_
    refine sv42 ?_
    refine scs ?_
    first | refine CCallK_intro e67 (fun hg=>⟨by first | exact trivial | exact hg | exact ⟨hg,hg⟩ | (simp;done) | (simp_all only [Bool.not_false,Bool.not_true,and_self];done),c67 ..⟩) rfl rfl ?_ | refine Or.inl (CCallK_intro e67 (fun hg=>⟨by first | exact trivial | exact hg | exact ⟨hg,hg⟩ | (simp;done) | (simp_all only [Bool.not_false,Bool.not_true,and_self];done),c67 ..⟩) rfl rfl ?_)
    refine sv43 ?_
    refine scs ?_
    refine ck e189 (hc5) rfl ?_
    refine sv43 ?_
    refine scs ?_
    refine ck e190 (hc6) rfl ?_
    simp (maxSteps:=2000000) only [go_sem,seval,hww,hcn,hn2]
    refine scs ?_
    refine ck e192 (hc8) rfl ?_
    refine evl ?_
    repeat ((with_reducible show _=true /\ _);refine ⟨by kernel_rfl,?_⟩)
    refine scs ?_
    refine Fin.nt results102 [2,3,10,11] ?_ ?_ ?_ <;> try trivial
    all_goals exact entd
  ·have hcl:=own_class ho hw hc2' hk i1
   have hp1:=slot_pos hs hcl
   have hn1:decide (s1 < 0)=false:=decide_eq_false (by omega)
   have hc8:=c192 ⟨m.Heap,l1⟩ hs s1 (by show 0 <= classInM m.Heap s1;omega)
   simp only [encMem,encHeap,encLists,List.map_cons,List.map_nil,List.cons_append,List.nil_append,List.map_append] at hc8
   refine ⟨⟨m.Heap,l1⟩,handleOfM s1 (genInM m.Heap s1),0,⟨hs,r1.1.trans hl3,r1.2.1.trans hl9,Nat.le_trans r1.2.2 (by omega)⟩,?_⟩
   simp only [encMem,encHeap,encLists,List.map_cons,List.map_nil,List.cons_append,List.nil_append,List.map_append]
   refine Ctr.bd mixed func102 rfl ?_
   refine evl ?_
   refine scs ?_
   refine ck e44 (hc1) rfl ?_
   refine evl ?_
   refine scs ?_
   refine ck e188 (hc3) rfl ?_
   refine evl ?_
   refine scs ?_
   refine ck e14 (hc2) rfl ?_
   refine sv42 ?_
   refine scs ?_
   first | refine CCallK_intro e67 (fun hg=>⟨by first | exact trivial | exact hg | exact ⟨hg,hg⟩ | (simp;done) | (simp_all only [Bool.not_false,Bool.not_true,and_self];done),c67 ..⟩) rfl rfl ?_ | refine Or.inl (CCallK_intro e67 (fun hg=>⟨by first | exact trivial | exact hg | exact ⟨hg,hg⟩ | (simp;done) | (simp_all only [Bool.not_false,Bool.not_true,and_self];done),c67 ..⟩) rfl rfl ?_)
   refine sv43 ?_
   refine scs ?_
   refine ck e189 (hc5) rfl ?_
   simp (maxSteps:=2000000) only [go_sem,seval,hww,hcn,hn1]
   refine scs ?_
   refine ck e192 (hc8) rfl ?_
   refine evl ?_
   repeat ((with_reducible show _=true /\ _);refine ⟨by kernel_rfl,?_⟩)
   refine scs ?_
   refine Fin.nt results102 [2,3,7,8] ?_ ?_ ?_ <;> try trivial
   all_goals exact entd
theorem c284 (m:Mem) (N:Nat) (hN:N <= 1048000) (hm:Sh m N) (h a:Int) (ha:0 <= a /\ a <= 1000) (nw:Nat) (hnw:1 <= nw /\ nw <= 7):∃ (k code:Int),(code=0 -> 0 <= k /\ k + nw <= 384) /\ (code=0 \/ code=1 \/ code=2 \/ code=4) /\ Ctr prog 284 [.agg ((encMem m).map .dat),.one (.dat (.int .i64 h)),.one (.dat (.int .i64 a)),.one (.dat (.int .i64 (nw:Int)))] [] (.tup [.one (.dat (.int .i64 k)),.one (.dat (.int .i64 code))]) []:=by
 have hmx:maxLen=9223372036854775807:=rfl
 obtain ⟨z1,z2⟩:=hm.siz hN
 obtain ⟨hs,hl3,hl9,hz⟩:=hm
 obtain ⟨_,_,b3,_⟩:=shaped_iff hs
 have hc2:=c14 m z1
 have hc3:=c46 m z1 hs h
 have hww:within (nw:Int) 1 7=true:=by unfold within;exact decide_eq_true (by omega)
 simp only [encMem,encHeap,encLists,List.map_cons,List.map_nil,List.cons_append,List.nil_append,List.map_append] at hc2 hc3
 cases ho:memOk m with
 | false =>
  refine ⟨0,1,fun e=>by omega,by omega,?_⟩
  rw [ho] at hc2
  simp only [encMem,encHeap,encLists,List.map_cons,List.map_nil,List.cons_append,List.nil_append,List.map_append]
  refine Ctr.bd mixed func284 rfl ?_
  refine evl ?_
  refine scs ?_
  refine ck e14 (hc2) rfl ?_
  refine sv42 ?_
  first | refine CCallK_of (.one (.dat (.bool false))) ?_ | refine CCallK_og (.one (.dat (.bool false))) ?_
  refine evl ?_
  refine Fin.nt results284 [] ?_ ?_ ?_ <;> try trivial
 | true =>
  rw [ho] at hc2
  cases hv:isLiveM m h with
  | false =>
   rw [hv] at hc3
   refine ⟨0,4,fun e=>by omega,by omega,?_⟩
   simp only [encMem,encHeap,encLists,List.map_cons,List.map_nil,List.cons_append,List.nil_append,List.map_append]
   refine Ctr.bd mixed func284 rfl ?_
   refine evl ?_
   refine scs ?_
   refine ck e14 (hc2) rfl ?_
   refine sv42 ?_
   refine scs ?_
   first | refine CCallK_intro e67 (fun hg=>⟨by first | exact trivial | exact hg | exact ⟨hg,hg⟩ | (simp;done) | (simp_all only [Bool.not_false,Bool.not_true,and_self];done),c67 ..⟩) rfl rfl ?_ | refine Or.inl (CCallK_intro e67 (fun hg=>⟨by first | exact trivial | exact hg | exact ⟨hg,hg⟩ | (simp;done) | (simp_all only [Bool.not_false,Bool.not_true,and_self];done),c67 ..⟩) rfl rfl ?_)
   refine sv42 ?_
   refine scs ?_
   refine ck e46 (hc3) rfl ?_
   refine sv42 ?_
   refine scs ?_
   refine Fin.nt results284 [] ?_ ?_ ?_ <;> try trivial
  | true =>
   rw [hv] at hc3
   obtain ⟨v1,v2,_⟩:=live_iff hv
   have hcl:=state3_class v2
   have hhs:handleSlot h=h % 32:=by simp [handleSlot,v1]
   have hc4:=c120 h
   rw [hhs] at hc4
   have hc5:=c123 m.Heap b3 (h % 32)
   obtain ⟨s0,s1,_,cc,g0,g1⟩:=classInM_bound hs hcl
   obtain ⟨c,hcc⟩:∃ c,classInM m.Heap (h % 32)=c:=⟨_,rfl⟩
   rw [hcc] at hc5 g0 g1
   have hsz:=sizeOf_pos c
   have hst:startOf (h % 32) c=genAt (h % 32) c + 4:=by rw [startOf,if_neg (by omega)]
   have hw1:IntKind.i64.wrap (sizeOf c - 1)=sizeOf c - 1:=wrap_id (by omega) (by omega)
   have hw2:IntKind.i64.wrap (sizeOf c - a)=sizeOf c - a:=wrap_id (by omega) (by omega)
   have hw3:IntKind.i64.wrap (startOf (h % 32) c + a)=startOf (h % 32) c + a:=wrap_id (by omega) (by omega)
   have hc6:=c124 c
   have hc7:=c125 (h % 32) c
   simp only [encHeap,List.map_cons,List.map_nil] at hc5
   cases hi:within a 0 (sizeOf c - 1) with
   | false =>
    refine ⟨0,2,fun e=>by omega,by omega,?_⟩
    simp only [encMem,encHeap,encLists,List.map_cons,List.map_nil,List.cons_append,List.nil_append,List.map_append]
    refine Ctr.bd mixed func284 rfl ?_
    refine evl ?_
    refine scs ?_
    refine ck e14 (hc2) rfl ?_
    refine sv42 ?_
    refine scs ?_
    first | refine CCallK_intro e67 (fun hg=>⟨by first | exact trivial | exact hg | exact ⟨hg,hg⟩ | (simp;done) | (simp_all only [Bool.not_false,Bool.not_true,and_self];done),c67 ..⟩) rfl rfl ?_ | refine Or.inl (CCallK_intro e67 (fun hg=>⟨by first | exact trivial | exact hg | exact ⟨hg,hg⟩ | (simp;done) | (simp_all only [Bool.not_false,Bool.not_true,and_self];done),c67 ..⟩) rfl rfl ?_)
    refine sv42 ?_
    refine scs ?_
    refine ck e46 (hc3) rfl ?_
    refine sv42 ?_
    refine scs ?_
    refine ck e120 (hc4) rfl ?_
    refine evl ?_
    refine scs ?_
    refine ck e123 (hc5) rfl ?_
    refine evl ?_
    refine scs ?_
    refine ck e124 (hc6) rfl ?_
    refine sv44 ?_
    refine scs ?_
    refine ck e67 (c67 ..) rfl ?_
    refine sv45 ?_
    first | refine CCallK_of (.one (.dat (.int .i64 0))) ?_ | refine CCallK_og (.one (.dat (.int .i64 0))) ?_
    refine sv45 ?_
    refine Fin.nt results284 [] ?_ ?_ ?_ <;> try trivial
   | true =>
    cases hg:decide (sizeOf c - a < (nw:Int)) with
    | true =>
     refine ⟨0,2,fun e=>by omega,by omega,?_⟩
     simp only [encMem,encHeap,encLists,List.map_cons,List.map_nil,List.cons_append,List.nil_append,List.map_append]
     refine Ctr.bd mixed func284 rfl ?_
     refine evl ?_
     refine scs ?_
     refine ck e14 (hc2) rfl ?_
     refine sv42 ?_
     refine scs ?_
     first | refine CCallK_intro e67 (fun hg=>⟨by first | exact trivial | exact hg | exact ⟨hg,hg⟩ | (simp;done) | (simp_all only [Bool.not_false,Bool.not_true,and_self];done),c67 ..⟩) rfl rfl ?_ | refine Or.inl (CCallK_intro e67 (fun hg=>⟨by first | exact trivial | exact hg | exact ⟨hg,hg⟩ | (simp;done) | (simp_all only [Bool.not_false,Bool.not_true,and_self];done),c67 ..⟩) rfl rfl ?_)
     refine sv42 ?_
     refine scs ?_
     refine ck e46 (hc3) rfl ?_
     refine sv42 ?_
     refine scs ?_
     refine ck e120 (hc4) rfl ?_
     refine evl ?_
     refine scs ?_
     refine ck e123 (hc5) rfl ?_
     refine evl ?_
     refine scs ?_
     refine ck e124 (hc6) rfl ?_
     refine sv44 ?_
     refine scs ?_
     refine ck e67 (c67 ..) rfl ?_
     refine sv45 ?_
     refine scs ?_
     first | refine CCallK_intro e124 (fun hg=>⟨by first | exact trivial | exact hg | exact ⟨hg,hg⟩ | (simp;done) | (simp_all only [Bool.not_false,Bool.not_true,and_self];done),hc6⟩) rfl rfl ?_ | refine Or.inl (CCallK_intro e124 (fun hg=>⟨by first | exact trivial | exact hg | exact ⟨hg,hg⟩ | (simp;done) | (simp_all only [Bool.not_false,Bool.not_true,and_self];done),hc6⟩) rfl rfl ?_)
     simp (maxSteps:=2000000) only [go_sem,seval,hi,hw2,hg]
     refine Fin.nt results284 [] ?_ ?_ ?_ <;> try trivial
    | false =>
     have hgn:=of_decide_eq_false hg
     refine ⟨startOf (h % 32) c + a,0,fun _=>by omega,.inl rfl,?_⟩
     simp only [encMem,encHeap,encLists,List.map_cons,List.map_nil,List.cons_append,List.nil_append,List.map_append]
     refine Ctr.bd mixed func284 rfl ?_
     refine evl ?_
     refine scs ?_
     refine ck e14 (hc2) rfl ?_
     refine sv42 ?_
     refine scs ?_
     first | refine CCallK_intro e67 (fun hg=>⟨by first | exact trivial | exact hg | exact ⟨hg,hg⟩ | (simp;done) | (simp_all only [Bool.not_false,Bool.not_true,and_self];done),c67 ..⟩) rfl rfl ?_ | refine Or.inl (CCallK_intro e67 (fun hg=>⟨by first | exact trivial | exact hg | exact ⟨hg,hg⟩ | (simp;done) | (simp_all only [Bool.not_false,Bool.not_true,and_self];done),c67 ..⟩) rfl rfl ?_)
     refine sv42 ?_
     refine scs ?_
     refine ck e46 (hc3) rfl ?_
     refine sv42 ?_
     refine scs ?_
     refine ck e120 (hc4) rfl ?_
     refine evl ?_
     refine scs ?_
     refine ck e123 (hc5) rfl ?_
     refine evl ?_
     refine scs ?_
     refine ck e124 (hc6) rfl ?_
     refine sv44 ?_
     refine scs ?_
     refine ck e67 (c67 ..) rfl ?_
     refine sv45 ?_
     refine scs ?_
     first | refine CCallK_intro e124 (fun hg=>⟨by first | exact trivial | exact hg | exact ⟨hg,hg⟩ | (simp;done) | (simp_all only [Bool.not_false,Bool.not_true,and_self];done),hc6⟩) rfl rfl ?_ | refine Or.inl (CCallK_intro e124 (fun hg=>⟨by first | exact trivial | exact hg | exact ⟨hg,hg⟩ | (simp;done) | (simp_all only [Bool.not_false,Bool.not_true,and_self];done),hc6⟩) rfl rfl ?_)
     simp (maxSteps:=2000000) only [go_sem,seval,hi,hw2,hg]
     refine scs ?_
     refine ck e125 (hc7) rfl ?_
     simp (maxSteps:=2000000) only [go_sem,seval,hw3]
     refine Fin.nt results284 [] ?_ ?_ ?_ <;> try trivial
def fixGo:Nat -> Int -> ByteArray -> ByteArray × Int
 | 0,x,o=>(o,x)
 | f + 1,x,o=>fixGo f (x / 256) (bytesOf [IntKind.u8.wrap (x % 256)] ++ o)
theorem c285 (n:Int) (hn:0 <= n /\ n <= 1000000) (nw:Nat) (hnw:1 <= nw /\ nw <= 7):∃ z:ByteArray,Ctr prog 285 [.one (.dat (.int .i64 n)),.one (.dat (.int .i64 (nw:Int)))] [] (.one (.dat (.str z))) []:=by
 have hmx:maxLen=9223372036854775807:=rfl
 have hww:within (nw:Int) 1 7=true:=by unfold within;exact decide_eq_true (by omega)
 have hn0:decide (n < 0)=false:=decide_eq_false (by omega)
 refine ⟨if 0 < (fixGo nw n ⟨#[]⟩).2 then ⟨#[]⟩ else (fixGo nw n ⟨#[]⟩).1,?_⟩
 refine Ctr.bd mixed func285 rfl ?_
 refine evl ?_
 refine scs ?_
 refine ck e67 (c67 ..) rfl ?_
 simp (maxSteps:=2000000) only [go_sem,seval,hww,hn0]
 refine LoopK_intro (fun zn zs=>∃ (i:Nat) (x:Int) (o:ByteArray),i <= nw /\ zn=nw - i /\ ((0 <= x /\ x <= 1000000) /\ o.size <= i /\ fixGo nw n ⟨#[]⟩=fixGo (nw - i) x o) /\ zs=mkSt [(6,.one (.dat (.int .i64 i))),(1,.one (.dat (.int .i64 (nw:Int)))),(0,.one (.dat (.int .i64 x))),(5,.one (.dat (.str o)))] []) (nw) _
  (Ent.wk []) ⟨0,n,⟨#[]⟩,by omega,by omega,⟨hn,Nat.le_refl _,rfl⟩,rfl⟩ ?_
 rintro zn zs ⟨i,x,o,hi,rfl,hinv,rfl⟩ K hK
 rcases Nat.lt_or_ge i (nw) with hlt | hge
 ·have hdi:decide ((i:Int) < ((nw:Nat):Int))=true:=decide_eq_true (by omega)
  have hw:=wrap_succ hlt (show nw <= maxLen by omega)
  obtain ⟨hx,ho,hgo⟩:=hinv
  have hm:Int.tmod x 256=x % 256:=Int.tmod_eq_emod_of_nonneg hx.1
  have hq:Int.tdiv x 256=x / 256:=Int.tdiv_eq_ediv_of_nonneg hx.1
  have hwm:IntKind.i64.wrap (x % 256)=x % 256:=wrap_id (by omega) (by omega)
  have hwq:IntKind.i64.wrap (x / 256)=x / 256:=wrap_id (by omega) (by omega)
  have hb1:(bytesOf [IntKind.u8.wrap (x % 256)]).size=1:=rfl
  obtain ⟨f,hf⟩:∃ f,nw - i=f + 1:=⟨nw - i - 1,by omega⟩
  rw [hf,fixGo] at hgo
  simp (maxSteps:=2000000) only [go_sem,seval,hdi,hw,hm,hq,hwm,hwq]
  refine ⟨⟨rfl,by simp⟩,by omega,?_⟩
  (apply hK
   exact ⟨nw - (i + 1),_,by omega,Ent.wk [],i + 1,(x / 256),(bytesOf [IntKind.u8.wrap (x % 256)] ++ o),by omega,rfl,⟨⟨by omega,by omega⟩,by rw [ByteArray.size_append];omega,by rw [hgo,show nw - (i + 1)=f by omega]⟩,rfl⟩)
 ·have hge':nw=i:=by omega
  subst hge'
  have hdi:decide (((nw:Nat):Int) < ((nw:Nat):Int))=false:=by simp
  obtain ⟨hx,ho,hgo⟩:=hinv
  rw [Nat.sub_self,fixGo] at hgo

  refine sv1 ?_
  apply hK
  rw [hgo]
  refine evl ?_
  constructor <;> intro h0
  ·rw [if_pos (of_decide_eq_true h0)]
   refine Fin.nt results285 [] ?_ ?_ ?_ <;> try trivial
  ·rw [if_neg (of_decide_eq_false h0)]
   refine Fin.nt results285 [] ?_ ?_ ?_ <;> try trivial
theorem c213 (m:Mem) (N:Nat) (hN:N <= 1048000) (hm:Sh m N) (h a:Int) (ha:0 <= a /\ a <= 1000) (nw:Nat) (hnw:1 <= nw /\ nw <= 7) (n:Int) (hn:0 <= n /\ n <= 1000000):∃ (m':Mem) (code:Int),Sh m' N /\ Ctr prog 213 [.agg ((encMem m).map .dat),.one (.dat (.int .i64 h)),.one (.dat (.int .i64 a)),.one (.dat (.int .i64 (nw:Int))),.one (.dat (.int .i64 n))] [] (.tup [.agg [.own 0,.own 1,.own 2,.own 3],.one (.dat (.int .i64 code))]) [.vec 1 true (m'.Heap.Bytes.map encI),.vec 1 true (m'.Heap.Class.map encI),.vec 1 true (m'.Lists.Global.map encSList),.vec 1 true (m'.Lists.Own.map encSList)]:=by
 have hmx:maxLen=9223372036854775807:=rfl
 obtain ⟨z1,z2⟩:=hm.siz hN
 obtain ⟨k,code,hk,hcode,hc4⟩:=c284 m N hN hm h a ha nw hnw
 obtain ⟨z,hc5⟩:=c285 n hn nw hnw
 obtain ⟨hs,hl3,hl9,hz⟩:=hm
 obtain ⟨b1,b2,b3,b4⟩:=shaped_iff hs
 have hc1:=c44 m z2 (Lists.sok_of (show sizLists m.Lists <= 1048576 by omega))
 simp only [encMem,encHeap,encLists,List.map_cons,List.map_nil,List.cons_append,List.nil_append,List.map_append] at hc1 hc4
 by_cases hc0:code=0
 ·subst hc0
  obtain ⟨k0,k1⟩:=hk rfl
  have hc6:=c126 m.Heap.Bytes (by omega) k nw (by omega) n (by omega) (by omega) k0 (by omega)
  cases he:(z.toList == (⟨#[]⟩:ByteArray).toList) with
  | true =>
   refine ⟨m,1,⟨hs,hl3,hl9,hz⟩,?_⟩
   simp only [encMem,encHeap,encLists,List.map_cons,List.map_nil,List.cons_append,List.nil_append,List.map_append]
   refine Ctr.bd mixed func213 rfl ?_
   refine evl ?_
   refine scs ?_
   refine ck e44 (hc1) rfl ?_
   refine evl ?_
   refine scs ?_
   refine ck e284 (hc4) rfl ?_
   refine evl ?_
   refine scs ?_
   refine ck e285 (hc5) rfl ?_
   simp (maxSteps:=2000000) only [go_sem,seval,he]
   refine scs ?_
   refine Fin.nt results213 [2,3,4,5] ?_ ?_ ?_ <;> try trivial
   all_goals exact entd
  | false =>
   have hsh:shapedM (setBytes m (putL m.Heap.Bytes k.toNat (fixNs nw n))).Heap=true:=setBytes_shaped hs (putL_len ..) (putL_byte _ _ _ b2 (fixNs_in nw _))
   refine ⟨setBytes m (putL m.Heap.Bytes k.toNat (fixNs nw n)),0,⟨hsh,hl3,hl9,hz⟩,?_⟩
   unfold setBytes
   simp only [encMem,encHeap,encLists,List.map_cons,List.map_nil,List.cons_append,List.nil_append,List.map_append]
   refine Ctr.bd mixed func213 rfl ?_
   refine evl ?_
   refine scs ?_
   refine ck e44 (hc1) rfl ?_
   refine evl ?_
   refine scs ?_
   refine ck e284 (hc4) rfl ?_
   refine evl ?_
   refine scs ?_
   refine ck e285 (hc5) rfl ?_
   simp (maxSteps:=2000000) only [go_sem,seval,he]
   refine scs ?_
   refine CallK_os [2] e126 (by simp [osOk,St.obj,find]) hc6 rfl ?_
   refine evl ?_
   refine scs ?_
   refine Fin.nt results213 [2,3,4,5] ?_ ?_ ?_ <;> try trivial
   all_goals exact entd
 ·refine ⟨m,code,⟨hs,hl3,hl9,hz⟩,?_⟩
  have hcb:(code != 0)=true:=by simp [hc0]
  simp only [encMem,encHeap,encLists,List.map_cons,List.map_nil,List.cons_append,List.nil_append,List.map_append]
  refine Ctr.bd mixed func213 rfl ?_
  refine evl ?_
  refine scs ?_
  refine ck e44 (hc1) rfl ?_
  refine evl ?_
  refine scs ?_
  refine ck e284 (hc4) rfl ?_
  simp (maxSteps:=2000000) only [go_sem,seval,hcb]
  refine scs ?_
  refine Fin.nt results213 [2,3,4,5] ?_ ?_ ?_ <;> try trivial
  all_goals exact entd
theorem c104 (b:List Int) (hb:BytesL b) (i:Nat) (h:Int) (hi:i <= b.length):CtrC prog 104 [.one (.ptr (.own 1 0 0))] [.box [.dat (.sl 1 (b.map encB)),.dat (.int .i64 (i:Int)),.dat (.int .i64 h)]] (Rint b fun _=>True):=by
 refine CtrC.body mixed func104 rfl (fun bl=>?_) ?_
 ·refine evl ?_
  refine scs ?_
  refine CallK_cell [1] e101 (c101 b hb i h hi 8 (by decide)) rfl rfl ?_
  rintro r0 xs' ⟨x,rfl,i2,h2,hi2,rfl⟩ -
  refine evl ?_
  refine scs ?_
  constructor <;> intro hx
  ·refine scs ?_
   refine CallK_cell [1,2] e105 (c105 b hb i2 h2 hi2 [0,-1,31,32,55,56,63,64,192,215,216,223,224] (by simp) (by simp)) rfl rfl ?_
   rintro r0 xs' ⟨z,_,rfl,i3,h3,hi3,rfl⟩ -
   refine evl ?_
   refine scs ?_
   refine FinCN.nt results104 [1] (.one (.dat (.int .i64 z))) [.box [.dat (.sl 1 (b.map encB)),.dat (.int .i64 (i3:Int)),.dat (.int .i64 h3)]] (⟨z,trivial,rfl,i3,h3,hi3,rfl⟩) ?_ ?_ ?_ <;> try trivial
   all_goals exact entd
  ·refine CallK_cell [1] e59 (c59 b hb i2 h2 hi2 24 (by decide)) rfl rfl ?_
   rintro r0 xs' ⟨y,hy,rfl,i3,h3,hi3,rfl⟩ -
   refine evl ?_
   refine scs ?_
   refine CallK_cell [1] e59 (c59 b hb i3 h3 hi3 6 (by decide)) rfl rfl ?_
   rintro r0 xs' ⟨z,hz,rfl,i4,h4,hi4,rfl⟩ -
   refine evl ?_
   refine scs ?_
   refine ck e194 (c194 ..) rfl ?_
   refine evl ?_
   refine scs ?_
   (refine FinCN.nd results104 [1] ?_ ?_ <;> try trivial);(refine sv30 ?_);exact ⟨_,trivial,rfl,i4,h4,hi4,rfl⟩
 ·exact ⟨_,_,⟨0,trivial,rfl,0,0,Nat.zero_le _,rfl⟩,by simp⟩
theorem c306 (h:Heap) (hs:shapedM h=true) (s g:Int):∃ (h':Heap) (ok:Bool),shapedM h'=true /\ Ctr prog 306 [.agg ((encHeap h).map .dat),.one (.dat (.int .i64 s)),.one (.dat (.int .i64 g))] [] (.tup [.agg [.own 0,.own 1],.one (.dat (.bool ok))]) [.vec 1 true (h'.Bytes.map encI),.vec 1 true (h'.Class.map encI)]:=by
 have hmx:maxLen=9223372036854775807:=rfl
 obtain ⟨b1,b2,b3,b4⟩:=shaped_iff hs
 have hzz:sizHeap h <= 1048576:=by unfold sizHeap;omega
 have hc1:=c116 h hzz
 have hc2:=c319 h hzz s
 have hca:classAtM h s=classInM h s:=by simp [classAtM,hs]
 rw [hca] at hc2
 have hc3:=c123 h b3 s
 have hc4:=c206 s (classInM h s)
 simp only [encHeap,List.map_cons,List.map_nil] at hc1 hc2 hc3 ⊢
 cases hd:decide (classInM h s < 0) with
 | true =>
  refine ⟨h,false,hs,?_⟩
  refine Ctr.bd mixed func306 rfl ?_
  refine evl ?_
  refine scs ?_
  refine ck e116 (hc1) rfl ?_
  refine evl ?_
  refine scs ?_
  refine ck e319 (hc2) rfl ?_
  refine sv31 ?_
  first | refine CCallK_of (.one (.dat (.bool false))) ?_ | refine CCallK_og (.one (.dat (.bool false))) ?_
  refine evl ?_
  refine Fin.nt results306 [2,3] ?_ ?_ ?_ <;> try trivial
  all_goals exact entd
 | false =>
  have hcl:=of_decide_eq_false hd
  cases hg:within g 1 7 with
  | false =>
   refine ⟨h,false,hs,?_⟩
   refine Ctr.bd mixed func306 rfl ?_
   refine evl ?_
   refine scs ?_
   refine ck e116 (hc1) rfl ?_
   refine evl ?_
   refine scs ?_
   refine ck e319 (hc2) rfl ?_
   refine sv31 ?_
   refine scs ?_
   first | refine CCallK_intro e67 (fun hg=>⟨by first | exact trivial | exact hg | exact ⟨hg,hg⟩ | (simp;done) | (simp_all only [Bool.not_false,Bool.not_true,and_self];done),c67 ..⟩) rfl rfl ?_ | refine Or.inl (CCallK_intro e67 (fun hg=>⟨by first | exact trivial | exact hg | exact ⟨hg,hg⟩ | (simp;done) | (simp_all only [Bool.not_false,Bool.not_true,and_self];done),c67 ..⟩) rfl rfl ?_)
   refine sv46 ?_
   refine scs ?_
   refine Fin.nt results306 [2,3] ?_ ?_ ?_ <;> try trivial
   all_goals exact entd
  | true =>
   have hg7:1 <= g /\ g <= 7:=by simpa [within] using hg
   obtain ⟨_,_,_,cc,g0,g1⟩:=classInM_bound (s:=s) hs (by omega)
   have hsz:=sizeOf_pos (classInM h s)
   have hc5:=c126 h.Bytes (by omega) (genAt s (classInM h s)) 4 (by omega) g (by omega) (by omega) g0 (by omega)
   have hsh:shapedM (setBytes ⟨h,⟨[],[]⟩⟩ (putL h.Bytes (genAt s (classInM h s)).toNat (fixNs 4 g))).Heap=true:=setBytes_shaped (m:=⟨h,⟨[],[]⟩⟩) hs (putL_len ..) (putL_byte _ _ _ b2 (fixNs_in 4 _))
   refine ⟨⟨putL h.Bytes (genAt s (classInM h s)).toNat (fixNs 4 g),h.Class⟩,true,hsh,?_⟩
   refine Ctr.bd mixed func306 rfl ?_
   refine evl ?_
   refine scs ?_
   refine ck e116 (hc1) rfl ?_
   refine evl ?_
   refine scs ?_
   refine ck e319 (hc2) rfl ?_
   refine sv31 ?_
   refine scs ?_
   first | refine CCallK_intro e67 (fun hg=>⟨by first | exact trivial | exact hg | exact ⟨hg,hg⟩ | (simp;done) | (simp_all only [Bool.not_false,Bool.not_true,and_self];done),c67 ..⟩) rfl rfl ?_ | refine Or.inl (CCallK_intro e67 (fun hg=>⟨by first | exact trivial | exact hg | exact ⟨hg,hg⟩ | (simp;done) | (simp_all only [Bool.not_false,Bool.not_true,and_self];done),c67 ..⟩) rfl rfl ?_)
   refine sv46 ?_
   refine FloatR_intro [(0,[]),(1,[]),(2,[]),(3,[]),(4,[]),(7,[]),(5,[0,1,2,7]),(6,[0,1,7]),(8,[]),(9,[]),(10,[])] (by kernel_rfl) ?_
   refine sv46 ?_
   refine scs ?_
   refine ck e123 (hc3) rfl ?_
   refine sv46 ?_
   refine scs ?_
   refine ck e206 (hc4) rfl ?_
   refine sv46 ?_
   refine scs ?_
   refine CallK_os [2] e126 (by simp [osOk,St.obj,find]) hc5 rfl ?_
   refine evl ?_
   refine scs ?_
   refine Fin.nt results306 [2,3] ?_ ?_ ?_ <;> try trivial
   all_goals exact entd
theorem c305 (h:Heap) (hs:shapedM h=true) (c:Int) (hc:0 <= c /\ c <= 2):∃ (h':Heap) (l:List Int),shapedM h'=true /\ l.length <= 4 /\ Ctr prog 305 [.agg ((encHeap h).map .dat),.one (.dat (.int .i64 c))] [] (.tup [.agg [.own 0,.own 1],.one (.own 2)]) [.vec 1 true (h'.Bytes.map encI),.vec 1 true (h'.Class.map encI),.vec 1 true (l.map encI)]:=by
 have hmx:maxLen=9223372036854775807:=rfl
 obtain ⟨b1,b2,b3,b4⟩:=shaped_iff hs
 have hzz:sizHeap h <= 1048576:=by unfold sizHeap;omega
 have hc1:=c116 h hzz
 have hc2:=c53 h hzz
 have hww:within c 0 2=true:=by unfold within;exact decide_eq_true hc
 simp only [encHeap,List.map_cons,List.map_nil] at hc1 hc2 ⊢
 cases ho:heapOk h with
 | false =>
  rw [ho] at hc2
  refine ⟨h,[],hs,by simp,?_⟩
  refine Ctr.bd mixed func305 rfl ?_
  refine evl ?_
  refine scs ?_
  refine ck e116 (hc1) rfl ?_
  refine evl ?_
  refine scs ?_
  refine ck e53 (hc2) rfl ?_
  refine evl ?_
  first | refine CCallK_of (.one (.dat (.bool false))) ?_ | refine CCallK_og (.one (.dat (.bool false))) ?_
  refine evl ?_
  refine scs ?_
  refine Fin.nt results305 [2,3,5] ?_ ?_ ?_ <;> try trivial
  all_goals exact entd
 | true =>
  rw [ho] at hc2
  obtain ⟨h',l,e1,e2,_,hc3⟩:=c270 h hs c hc
  refine ⟨h',l,e1,e2,?_⟩
  refine Ctr.bd mixed func305 rfl ?_
  refine evl ?_
  refine scs ?_
  refine ck e116 (hc1) rfl ?_
  refine evl ?_
  refine scs ?_
  refine ck e53 (hc2) rfl ?_
  refine evl ?_
  refine scs ?_
  first | refine CCallK_intro e67 (fun hg=>⟨by first | exact trivial | exact hg | exact ⟨hg,hg⟩ | (simp;done) | (simp_all only [Bool.not_false,Bool.not_true,and_self];done),c67 ..⟩) rfl rfl ?_ | refine Or.inl (CCallK_intro e67 (fun hg=>⟨by first | exact trivial | exact hg | exact ⟨hg,hg⟩ | (simp;done) | (simp_all only [Bool.not_false,Bool.not_true,and_self];done),c67 ..⟩) rfl rfl ?_)
  refine sv42 ?_
  refine scs ?_
  refine CallK_os [2,3] e270 (by simp [osOk,St.obj,find]) hc3 rfl ?_
  refine evl ?_
  refine scs ?_
  refine scs ?_
  refine Fin.nt results305 [2,3,5] ?_ ?_ ?_ <;> try trivial
  all_goals exact entd
end Go.Proofs.YtcnddedeeplbcaaGreat.Mod
