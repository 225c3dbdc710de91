import Derived.Test.YtcnddedeeplbcaaGreatRows
import Derived.Test.YtcnddedeeplbcaaGreatSATy
import Derived.Test.YtcnddedeeplbcaaGreatSAbsTac
import Derived.Test.YtcnddedeeplbcaaGreatSAbsData
import Derived.Test.YtcnddedeeplbcaaGreatSABase
import Derived.WalkKit
import Derived.ProofKit
import Derived.OpenShut
/- Contracts: Fam. -/
namespace Go.Proofs.YtcnddedeeplbcaaGreat.Mod
open Go.Proofs.Tryz Go.Abs Go.Proofs.YtcnddedeeplbcaaGreat.Ty Go.ChangeShapes Go.WideShapes Go.ChangeAt Go.RowKit
set_option linter.unusedSimpArgs false
set_option linter.unusedVariables false
set_option maxHeartbeats 8000000
set_option maxRecDepth 100000
structure Seen where
 Bkt:Int
 Ver:Int
 deriving DecidableEq
def Seen.wf (x:Seen):Prop:=(Lit.int .i64 x.Bkt).wf=true /\ (Lit.int .i64 x.Ver).wf=true /\ True
structure Bkt where
 Head:Int
 Ver:Int
 Lock:Int
 deriving DecidableEq
def Bkt.wf (x:Bkt):Prop:=(Lit.int .i64 x.Head).wf=true /\ (Lit.int .i64 x.Ver).wf=true /\ (Lit.int .i64 x.Lock).wf=true /\ True
structure LRow where
 Handle:Int
 Epoch:Int
 deriving DecidableEq
def encLRow (x:LRow):List D:=[.int .i64 x.Handle,.int .i64 x.Epoch]
def LRow.wf (x:LRow):Prop:=(Lit.int .i64 x.Handle).wf=true /\ (Lit.int .i64 x.Epoch).wf=true /\ True
theorem LRow.eq_iff (x y:LRow):x=y ↔ x.Handle=y.Handle /\ x.Epoch=y.Epoch:=by cases x;cases y;simp
theorem c315 (x:LRow):Ctr prog 315 [.agg ((encLRow x).map .dat)] [] (.agg ((encLRow x).map .dat)) []:=by
 simp only [encLRow,List.map_cons,List.map_nil]
 refine Ctr.bd mixed func315 rfl ?_
 refine evl ?_
 repeat' first
  | ((with_reducible show Abs.Fin _ _ _ _ _ _);refine Fin.nt results315 [] ?_ ?_ ?_ <;> try trivial)
  | with_reducible intro h
  | ((with_reducible show _ /\ _);apply And.intro)
 all_goals first | rfl | simp
theorem c290 (l:List LRow) (hl:l.length <= 1048576):Ctr prog 290 [.one (.dat (.sl 2 (l.map encLRow)))] [] (.one (.own 0)) [.vec 2 true (l.map encLRow)]:=by
 refine Ctr.bd mixed func290 rfl ?_
 refine evl ?_
 refine ⟨by omega,?_⟩
 refine LoopK_intro (fun n s=>∃ i:Nat,i <= l.length /\ n=l.length - i /\ s=mkSt [(4,.one (.dat (.int .i64 i))),(3,.one (.own 0)),(0,.one (.dat (.sl 2 (l.map encLRow))))]
   [.vec 2 true ((l.take i).map encLRow ++ List.replicate (l.length - i) [.int .i64 0,.int .i64 0])]) l.length _
  (Ent.weak (ids:=[0]) (by simp) rfl (by simp) ?_ ?_ ?_) ⟨0,by omega,by omega,rfl⟩ ?_
 ·simp [objsLe,St.obj,find,AObj.renF]
 ·simp [envLe,find,AV.renF,AV.renF1,Leaf.renF]
 ·simp [LowAll,AV.Low,AV.Low1,Leaf.Low,AObj.Low]
 rintro n s ⟨i,hi,rfl,rfl⟩ K hK
 refine evl ?_
 constructor <;> intro h
 ·have hlt:i < l.length:=by simpa using h
  refine ⟨⟨by omega,by omega⟩,hlt,?_⟩
  simp only [getD_map hlt,encLRow,List.map_cons,List.map_nil,List.take_succ_cons,List.take_zero]
  refine CallK_pure e315 (c315 l[i]) rfl ?_
  simp (maxSteps:=2000000) only [go_sem,seval,encLRow,D.flat,wrap_succ hlt (le20 hl)]
  refine ⟨by simp;omega,by simp;omega,?_⟩
  apply hK
  refine ⟨l.length - (i + 1),_,by omega,Ent.weak (ids:=[0]) (by simp) rfl (by simp) ?_ ?_ ?_,i + 1,by omega,rfl,rfl⟩
  ·simp only [objsLe,St.obj,find,AObj.renF,if_true,Option.getD_some,List.getD_cons_zero,and_true]
   rw [<- take_set encLRow l _ hlt]
   exact ⟨Nat.zero_lt_one,Or.inr rfl⟩
  ·simp [envLe,find,AV.renF,AV.renF1,Leaf.renF]
  ·simp [LowAll,AV.Low,AV.Low1,Leaf.Low,AObj.Low]
 ·have hge:i=l.length:=by simp at h;omega
  subst hge
  apply hK
  refine evl ?_
  refine Fin.nt results290 [0] ?_ ?_ ?_ <;> try trivial
  all_goals simp [objsLe,St.obj,find,AObj.renF]
theorem c287 (rows:List (List D)) (left:Int) (h0:0 <= left) (h1:left <= 1048576) (hl:rows.length <= maxLen):Ctr prog 287 [.one (.dat (.sl 2 rows)),.one (.dat (.int .i64 left))] [] (.one (.dat (.int .i64 (szL left rows.length)))) []:=by
 have hw:=szL_wrap h0 h1 hl
 refine Ctr.bd mixed func287 rfl ?_
 refine sv0 ?_
 repeat' first
  | ((with_reducible show Abs.Fin _ _ _ _ _ _);refine Fin.nt results287 [] ?_ ?_ ?_ <;> try trivial)
  | with_reducible intro h
  | ((with_reducible show _ /\ _);apply And.intro)
 all_goals try ((refine rsl ?_;try exact .intro))
 all_goals simp_all [szL]
 all_goals omega
theorem c318 (x y:LRow):Ctr prog 318 [.agg ((encLRow x).map .dat),.agg ((encLRow y).map .dat)] [] (.one (.dat (.bool (decide (x=y))))) []:=by
 simp only [encLRow,List.map_cons,List.map_nil]
 refine Ctr.bd mixed func318 rfl ?_
 refine evl ?_
 repeat' first
  | ((with_reducible show Abs.Fin _ _ _ _ _ _);refine Fin.nt results318 [] ?_ ?_ ?_ <;> try trivial)
  | with_reducible intro h
  | ((with_reducible show _ /\ _);apply And.intro)
 all_goals try ((refine rsl ?_;try exact .intro))
 all_goals simp_all [LRow.eq_iff]
theorem c302 (l l':List LRow) (hl:l.length <= maxLen) (hl':l'.length <= maxLen):Ctr prog 302 [.one (.dat (.sl 2 (l.map encLRow))),.one (.dat (.sl 2 (l'.map encLRow)))] [] (.one (.dat (.bool (decide (l=l'))))) []:=by
 refine Ctr.bd mixed func302 rfl ?_
 refine evl ?_
 constructor <;> intro h
 ·have hne:l.length ≠ l'.length:=by simp at h;omega
  refine Fin.nt results302 [] ?_ ?_ ?_ <;> try trivial
  (refine rsl ?_;try exact .intro)
  symm;rw [decide_eq_false_iff_not]
  intro e;exact hne (by rw [e])
 have hlen:l.length=l'.length:=by simp at h;omega
 refine LoopK_intro (fun n s=>∃ i:Nat,i <= l.length /\ n=l.length - i /\ l.take i=l'.take i /\ s=mkSt [(5,.one (.dat (.int .i64 i))),(1,.one (.dat (.sl 2 (l'.map encLRow)))),(0,.one (.dat (.sl 2 (l.map encLRow))))] []) l.length _
  (Ent.weak (ids:=[]) (by simp) rfl (by simp) ?_ ?_ ?_) ⟨0,by omega,by omega,rfl,rfl⟩ ?_
 ·simp [objsLe,St.obj,find,AObj.renF]
 ·simp [envLe,find,AV.renF,AV.renF1,Leaf.renF]
 ·simp [LowAll,AV.Low,AV.Low1,Leaf.Low,AObj.Low]
 rintro n s ⟨i,hi,rfl,ht,rfl⟩ K hK
 refine evl ?_
 constructor <;> intro h
 ·have hlt:i < l.length:=by simpa using h
  have hlt':i < l'.length:=by omega
  refine ⟨⟨by omega,by omega⟩,hlt,⟨by omega,by omega⟩,hlt',?_⟩
  simp only [getD_map hlt,getD_map hlt',encLRow,List.map_cons,List.map_nil,List.take_succ_cons,List.take_zero]
  first
   | refine CCallK_intro e318 (fun _=>⟨trivial,c318 l[i] l'[i]⟩) rfl rfl ?_
   | refine Or.inl (CCallK_intro e318 (fun _=>⟨trivial,c318 l[i] l'[i]⟩) rfl rfl ?_)
  refine sv1 ?_
  constructor <;> intro h
  ·apply hK
   refine evl ?_
   refine Fin.nt results302 [] ?_ ?_ ?_ <;> try trivial
   (refine rsl ?_;try exact .intro)
   symm;rw [decide_eq_false_iff_not]
   rintro rfl;simp at h
  ·apply hK
   have he:l[i]=l'[i]:=by simpa using h
   refine ⟨l.length - (i + 1),_,by omega,Ent.weak (ids:=[]) (by simp) rfl (by simp) ?_ ?_ ?_,i + 1,by omega,rfl,?_,rfl⟩
   ·simp [objsLe,St.obj,find,AObj.renF]
   ·simp [envLe,find,AV.renF,AV.renF1,Leaf.renF]
   ·simp [LowAll,AV.Low,AV.Low1,Leaf.Low,AObj.Low]
   ·rw [List.take_succ_eq_append_getElem hlt,List.take_succ_eq_append_getElem hlt',ht,he]
 ·have hge:i=l.length:=by simp at h;omega
  subst hge
  apply hK
  refine evl ?_
  refine Fin.nt results302 [] ?_ ?_ ?_ <;> try trivial
  (refine rsl ?_;try exact .intro)
  symm;rw [decide_eq_true_iff]
  rw [List.take_of_length_le (Nat.le_refl _),List.take_of_length_le (by omega)] at ht
  exact ht
def markLRow (k:Int):LRow:=⟨k,k + 1⟩
def markLRows (k:Int) (n:Nat):List (List D):=(List.range n).map fun i=>encLRow (markLRow (k + 2 * (i:Nat)))
theorem c262 (l:List LRow) (k:Int) (hk0:0 <= k) (hk:k + 2 * l.length <= 4611686018427387904):Ctr prog 262 [.one (.own 0),.one (.dat (.int .i64 k))] [.vec 2 true (l.map encLRow)] (.one (.dat (.int .i64 (k + 2 * l.length)))) [.vec 2 true (markLRows k l.length)]:=by
 refine Ctr.of_body mixed func262 rfl (by kernel_rfl) (Nat.le_of_ble_eq_true rfl) (by simp [AV.Clean,AV.Clean1,Leaf.Clean,D.flat]) (by simp [AObj.Sep]) (by simp) ?_ (by simp [AV.Low,AV.Low1,Leaf.Low]) ?_
 ·intro o ho
  have:o=0:=by simpa using ho
  subst this
  simp [Objs,Compat,markLRows]
 show wpA _ _ _ (FinQ _ _ _ _ _) _
 unfold markLRows
 refine evl ?_
 refine LoopK_intro (fun n s=>∃ i:Nat,i <= l.length /\ n=l.length - i /\ s=mkSt [(5,.one (.dat (.int .i64 i))),(1,.one (.dat (.int .i64 (k + 2 * (i:Nat))))),(0,.one (.own 0))]
   [.vec 2 true ((List.range i).map (fun i=>encLRow (markLRow (k + 2 * (i:Nat)))) ++ (l.drop i).map encLRow)]) l.length _
  (Ent.wk [0]) ⟨0,by omega,by omega,rfl⟩ ?_
 rintro n s ⟨i,hi,rfl,rfl⟩ K hK
 have hlen:((List.range i).map (fun i=>encLRow (markLRow (k + 2 * (i:Nat)))) ++ (l.drop i).map encLRow).length=l.length:=by simp;omega
 rcases Nat.lt_or_ge i l.length with hlt | hge
 ·have hA:((List.range i).map (fun i=>encLRow (markLRow (k + 2 * (i:Nat))))).length=i:=by simp
  have hd:decide ((i:Int) < l.length)=true:=by simpa using hlt
  have hw:=wrap_succ hlt (show l.length <= maxLen by unfold maxLen;omega)
  have hw1:IntKind.i64.wrap (k + 2 * (i:Int) + 1)=k + 2 * (i:Int) + 1:=by rw [IntKind.wrap_i64];omega
  have hw2:IntKind.i64.wrap (k + 2 * (i:Int) + 1 + 1)=k + 2 * (i:Int) + 1 + 1:=by rw [IntKind.wrap_i64];omega
  rw [List.drop_eq_getElem_cons hlt,List.map_cons] at hlen ⊢
  generalize hAd:(List.range i).map (fun i=>encLRow (markLRow (k + 2 * (i:Nat))))=A at hA hlen ⊢
  have hl1:∀ x,(A ++ x :: (l.drop (i + 1)).map encLRow).length=l.length:=fun x=>by
   rw [List.length_append,List.length_cons] at hlen ⊢;exact hlen
  simp (maxSteps:=2000000) only [go_sem,seval,hl1,hd,set_mid hA,getD_mid hA,encLRow,hw,hw1,hw2,D.flat]
  repeat' ((with_reducible show _ /\ _);apply And.intro)
  all_goals first
   | (with_reducible exact hlt)
   | omega
   | (exact (by decide:((3:Int)=0 -> False)))
   | skip
  apply hK
  refine ⟨l.length - (i + 1),_,by omega,Ent.weak (ids:=[0]) (by simp) rfl (by simp) ?_ ?_ (by simp [objsLe,envLe,find,St.obj,AObj.renF,AV.renF,AV.renF1,Leaf.renF,LowAll,AV.Low,AV.Low1,Leaf.Low,AObj.Low,Ptr.renF,Ptr.Low]),i + 1,by omega,rfl,rfl⟩
  ·rw [List.range_succ,List.map_append,hAd]
   simp [objsLe,envLe,find,St.obj,AObj.renF,AV.renF,AV.renF1,Leaf.renF,LowAll,AV.Low,AV.Low1,Leaf.Low,AObj.Low,Ptr.renF,Ptr.Low]
   rfl
  ·simp [objsLe,envLe,find,St.obj,AObj.renF,AV.renF,AV.renF1,Leaf.renF,LowAll,AV.Low,AV.Low1,Leaf.Low,AObj.Low,Ptr.renF,Ptr.Low]
   omega
 ·have hge':i=l.length:=by omega
  subst hge'
  have hd:decide ((l.length:Int) < l.length)=false:=by simp
  refine sv2 ?_
  apply hK
  refine evl ?_
  refine Fin.nt results262 [0] ?_ ?_ ?_ <;> try trivial
  rw [List.drop_length,List.map_nil,List.append_nil]
  simp [objsLe,envLe,find,St.obj,AObj.renF,AV.renF,AV.renF1,Leaf.renF,LowAll,AV.Low,AV.Low1,Leaf.Low,AObj.Low,Ptr.renF,Ptr.Low]
theorem c266 (n:Nat) (k:Int) (hk0:0 <= k) (hk:k + 2 * n <= 4611686018427387904):Ctr prog 266 [.one (.dat (.sl 2 (markLRows k n))),.one (.dat (.int .i64 k))] [] (.one (.dat (.int .i64 (k + 2 * n)))) []:=by
 refine Ctr.bd mixed func266 rfl ?_
 unfold markLRows
 refine evl ?_
 refine LoopK_intro (fun m s=>∃ i:Nat,i <= n /\ m=n - i /\ s=mkSt [(5,.one (.dat (.int .i64 i))),(1,.one (.dat (.int .i64 (k + 2 * (i:Nat))))),(0,.one (.dat (.sl 2 ((List.range n).map fun i=>encLRow (markLRow (k + 2 * (i:Nat)))))))] []) n _
  (Ent.wk []) ⟨0,by omega,by omega,rfl⟩ ?_
 rintro m s ⟨i,hi,rfl,rfl⟩ K hK
 have hlen:((List.range n).map fun i=>encLRow (markLRow (k + 2 * (i:Nat)))).length=n:=by simp
 rcases Nat.lt_or_ge i n with hlt | hge
 ·have hd:decide ((i:Int) < n)=true:=by simpa using hlt
  have hw:=wrap_succ hlt (show n <= maxLen by unfold maxLen;omega)
  have hw1:IntKind.i64.wrap (k + 2 * (i:Int) + 1)=k + 2 * (i:Int) + 1:=by rw [IntKind.wrap_i64];omega
  have hw2:IntKind.i64.wrap (k + 2 * (i:Int) + 1 + 1)=k + 2 * (i:Int) + 1 + 1:=by rw [IntKind.wrap_i64];omega
  have hg:((List.range n).map fun i=>encLRow (markLRow (k + 2 * (i:Nat)))).getD i []=encLRow (markLRow (k + 2 * (i:Nat))):=getD_range hlt
  generalize ((List.range n).map fun i=>encLRow (markLRow (k + 2 * (i:Nat))))=L at hlen hg hK ⊢
  simp (maxSteps:=2000000) only [go_sem,seval,hlen,hd,hg,encLRow,markLRow,hw,hw1,hw2]
  repeat' first
   | with_reducible intro h
   | ((with_reducible show _ /\ _);apply And.intro)
  all_goals try (first | omega | exact hlt | exact absurd ‹(3:Int)=0› (by decide))
  apply hK
  refine ⟨n - (i + 1),_,by omega,Ent.weak (ids:=[]) (by simp) rfl (by simp) (by simp [objsLe,envLe,find,St.obj,AObj.renF,AV.renF,AV.renF1,Leaf.renF,LowAll,AV.Low,AV.Low1,Leaf.Low,AObj.Low,Ptr.renF,Ptr.Low]) (by simp [objsLe,envLe,find,St.obj,AObj.renF,AV.renF,AV.renF1,Leaf.renF,LowAll,AV.Low,AV.Low1,Leaf.Low,AObj.Low,Ptr.renF,Ptr.Low];omega) (by simp [objsLe,envLe,find,St.obj,AObj.renF,AV.renF,AV.renF1,Leaf.renF,LowAll,AV.Low,AV.Low1,Leaf.Low,AObj.Low,Ptr.renF,Ptr.Low]),i + 1,by omega,rfl,rfl⟩
 ·have hge':i=n:=by omega
  subst hge'
  have hd:decide ((i:Int) < i)=false:=by simp
  refine sv3 ?_
  apply hK
  refine evl ?_
  refine Fin.nt results266 [] ?_ ?_ ?_ <;> try trivial
structure Op where
 Kind:Int
 Cell:Int
 Size:Int
 Val:Int
 deriving DecidableEq
def encOp (x:Op):List D:=[.int .i64 x.Kind,.int .i64 x.Cell,.int .i64 x.Size,.int .i64 x.Val]
def Op.wf (x:Op):Prop:=(Lit.int .i64 x.Kind).wf=true /\ (Lit.int .i64 x.Cell).wf=true /\ (Lit.int .i64 x.Size).wf=true /\ (Lit.int .i64 x.Val).wf=true /\ True
theorem Op.eq_iff (x y:Op):x=y ↔ x.Kind=y.Kind /\ x.Cell=y.Cell /\ x.Size=y.Size /\ x.Val=y.Val:=by cases x;cases y;simp
theorem c230 (x:Op):Ctr prog 230 [.agg ((encOp x).map .dat)] [] (.agg ((encOp x).map .dat)) []:=by
 simp only [encOp,List.map_cons,List.map_nil]
 refine Ctr.bd mixed func230 rfl ?_
 refine evl ?_
 repeat' first
  | ((with_reducible show Abs.Fin _ _ _ _ _ _);refine Fin.nt results230 [] ?_ ?_ ?_ <;> try trivial)
  | with_reducible intro h
  | ((with_reducible show _ /\ _);apply And.intro)
 all_goals first | rfl | simp
theorem c232 (l:List Op) (hl:l.length <= 1048576):Ctr prog 232 [.one (.dat (.sl 4 (l.map encOp)))] [] (.one (.own 0)) [.vec 4 true (l.map encOp)]:=by
 refine Ctr.bd mixed func232 rfl ?_
 refine evl ?_
 refine ⟨by omega,?_⟩
 refine LoopK_intro (fun n s=>∃ i:Nat,i <= l.length /\ n=l.length - i /\ s=mkSt [(4,.one (.dat (.int .i64 i))),(3,.one (.own 0)),(0,.one (.dat (.sl 4 (l.map encOp))))]
   [.vec 4 true ((l.take i).map encOp ++ List.replicate (l.length - i) [.int .i64 0,.int .i64 0,.int .i64 0,.int .i64 0])]) l.length _
  (Ent.weak (ids:=[0]) (by simp) rfl (by simp) ?_ ?_ ?_) ⟨0,by omega,by omega,rfl⟩ ?_
 ·simp [objsLe,St.obj,find,AObj.renF]
 ·simp [envLe,find,AV.renF,AV.renF1,Leaf.renF]
 ·simp [LowAll,AV.Low,AV.Low1,Leaf.Low,AObj.Low]
 rintro n s ⟨i,hi,rfl,rfl⟩ K hK
 refine evl ?_
 constructor <;> intro h
 ·have hlt:i < l.length:=by simpa using h
  refine ⟨⟨by omega,by omega⟩,hlt,?_⟩
  simp only [getD_map hlt,encOp,List.map_cons,List.map_nil,List.take_succ_cons,List.take_zero]
  refine CallK_pure e230 (c230 l[i]) rfl ?_
  simp (maxSteps:=2000000) only [go_sem,seval,encOp,D.flat,wrap_succ hlt (le20 hl)]
  refine ⟨by simp;omega,by simp;omega,?_⟩
  apply hK
  refine ⟨l.length - (i + 1),_,by omega,Ent.weak (ids:=[0]) (by simp) rfl (by simp) ?_ ?_ ?_,i + 1,by omega,rfl,rfl⟩
  ·simp only [objsLe,St.obj,find,AObj.renF,if_true,Option.getD_some,List.getD_cons_zero,and_true]
   rw [<- take_set encOp l _ hlt]
   exact ⟨Nat.zero_lt_one,Or.inr rfl⟩
  ·simp [envLe,find,AV.renF,AV.renF1,Leaf.renF]
  ·simp [LowAll,AV.Low,AV.Low1,Leaf.Low,AObj.Low]
 ·have hge:i=l.length:=by simp at h;omega
  subst hge
  apply hK
  refine evl ?_
  refine Fin.nt results232 [0] ?_ ?_ ?_ <;> try trivial
  all_goals simp [objsLe,St.obj,find,AObj.renF]
theorem c218 (rows:List (List D)) (left:Int) (h0:0 <= left) (h1:left <= 1048576) (hl:rows.length <= maxLen):Ctr prog 218 [.one (.dat (.sl 4 rows)),.one (.dat (.int .i64 left))] [] (.one (.dat (.int .i64 (szL left rows.length)))) []:=by
 have hw:=szL_wrap h0 h1 hl
 refine Ctr.bd mixed func218 rfl ?_
 refine sv0 ?_
 repeat' first
  | ((with_reducible show Abs.Fin _ _ _ _ _ _);refine Fin.nt results218 [] ?_ ?_ ?_ <;> try trivial)
  | with_reducible intro h
  | ((with_reducible show _ /\ _);apply And.intro)
 all_goals try ((refine rsl ?_;try exact .intro))
 all_goals simp_all [szL]
 all_goals omega
theorem c256 (x y:Op):Ctr prog 256 [.agg ((encOp x).map .dat),.agg ((encOp y).map .dat)] [] (.one (.dat (.bool (decide (x=y))))) []:=by
 simp only [encOp,List.map_cons,List.map_nil]
 refine Ctr.bd mixed func256 rfl ?_
 refine evl ?_
 repeat' first
  | ((with_reducible show Abs.Fin _ _ _ _ _ _);refine Fin.nt results256 [] ?_ ?_ ?_ <;> try trivial)
  | with_reducible intro h
  | ((with_reducible show _ /\ _);apply And.intro)
 all_goals try ((refine rsl ?_;try exact .intro))
 all_goals simp_all [Op.eq_iff]
theorem c258 (l l':List Op) (hl:l.length <= maxLen) (hl':l'.length <= maxLen):Ctr prog 258 [.one (.dat (.sl 4 (l.map encOp))),.one (.dat (.sl 4 (l'.map encOp)))] [] (.one (.dat (.bool (decide (l=l'))))) []:=by
 refine Ctr.bd mixed func258 rfl ?_
 refine evl ?_
 constructor <;> intro h
 ·have hne:l.length ≠ l'.length:=by simp at h;omega
  refine Fin.nt results258 [] ?_ ?_ ?_ <;> try trivial
  (refine rsl ?_;try exact .intro)
  symm;rw [decide_eq_false_iff_not]
  intro e;exact hne (by rw [e])
 have hlen:l.length=l'.length:=by simp at h;omega
 refine LoopK_intro (fun n s=>∃ i:Nat,i <= l.length /\ n=l.length - i /\ l.take i=l'.take i /\ s=mkSt [(5,.one (.dat (.int .i64 i))),(1,.one (.dat (.sl 4 (l'.map encOp)))),(0,.one (.dat (.sl 4 (l.map encOp))))] []) l.length _
  (Ent.weak (ids:=[]) (by simp) rfl (by simp) ?_ ?_ ?_) ⟨0,by omega,by omega,rfl,rfl⟩ ?_
 ·simp [objsLe,St.obj,find,AObj.renF]
 ·simp [envLe,find,AV.renF,AV.renF1,Leaf.renF]
 ·simp [LowAll,AV.Low,AV.Low1,Leaf.Low,AObj.Low]
 rintro n s ⟨i,hi,rfl,ht,rfl⟩ K hK
 refine evl ?_
 constructor <;> intro h
 ·have hlt:i < l.length:=by simpa using h
  have hlt':i < l'.length:=by omega
  refine ⟨⟨by omega,by omega⟩,hlt,⟨by omega,by omega⟩,hlt',?_⟩
  simp only [getD_map hlt,getD_map hlt',encOp,List.map_cons,List.map_nil,List.take_succ_cons,List.take_zero]
  first
   | refine CCallK_intro e256 (fun _=>⟨trivial,c256 l[i] l'[i]⟩) rfl rfl ?_
   | refine Or.inl (CCallK_intro e256 (fun _=>⟨trivial,c256 l[i] l'[i]⟩) rfl rfl ?_)
  refine sv1 ?_
  constructor <;> intro h
  ·apply hK
   refine evl ?_
   refine Fin.nt results258 [] ?_ ?_ ?_ <;> try trivial
   (refine rsl ?_;try exact .intro)
   symm;rw [decide_eq_false_iff_not]
   rintro rfl;simp at h
  ·apply hK
   have he:l[i]=l'[i]:=by simpa using h
   refine ⟨l.length - (i + 1),_,by omega,Ent.weak (ids:=[]) (by simp) rfl (by simp) ?_ ?_ ?_,i + 1,by omega,rfl,?_,rfl⟩
   ·simp [objsLe,St.obj,find,AObj.renF]
   ·simp [envLe,find,AV.renF,AV.renF1,Leaf.renF]
   ·simp [LowAll,AV.Low,AV.Low1,Leaf.Low,AObj.Low]
   ·rw [List.take_succ_eq_append_getElem hlt,List.take_succ_eq_append_getElem hlt',ht,he]
 ·have hge:i=l.length:=by simp at h;omega
  subst hge
  apply hK
  refine evl ?_
  refine Fin.nt results258 [] ?_ ?_ ?_ <;> try trivial
  (refine rsl ?_;try exact .intro)
  symm;rw [decide_eq_true_iff]
  rw [List.take_of_length_le (Nat.le_refl _),List.take_of_length_le (by omega)] at ht
  exact ht
def markOp (k:Int):Op:=⟨k,k + 1,k + 1 + 1,k + 1 + 1 + 1⟩
def markOps (k:Int) (n:Nat):List (List D):=(List.range n).map fun i=>encOp (markOp (k + 4 * (i:Nat)))
theorem c181 (l:List Op) (k:Int) (hk0:0 <= k) (hk:k + 4 * l.length <= 4611686018427387904):Ctr prog 181 [.one (.own 0),.one (.dat (.int .i64 k))] [.vec 4 true (l.map encOp)] (.one (.dat (.int .i64 (k + 4 * l.length)))) [.vec 4 true (markOps k l.length)]:=by
 refine Ctr.of_body mixed func181 rfl (by kernel_rfl) (Nat.le_of_ble_eq_true rfl) (by simp [AV.Clean,AV.Clean1,Leaf.Clean,D.flat]) (by simp [AObj.Sep]) (by simp) ?_ (by simp [AV.Low,AV.Low1,Leaf.Low]) ?_
 ·intro o ho
  have:o=0:=by simpa using ho
  subst this
  simp [Objs,Compat,markOps]
 show wpA _ _ _ (FinQ _ _ _ _ _) _
 unfold markOps
 refine evl ?_
 refine LoopK_intro (fun n s=>∃ i:Nat,i <= l.length /\ n=l.length - i /\ s=mkSt [(5,.one (.dat (.int .i64 i))),(1,.one (.dat (.int .i64 (k + 4 * (i:Nat))))),(0,.one (.own 0))]
   [.vec 4 true ((List.range i).map (fun i=>encOp (markOp (k + 4 * (i:Nat)))) ++ (l.drop i).map encOp)]) l.length _
  (Ent.wk [0]) ⟨0,by omega,by omega,rfl⟩ ?_
 rintro n s ⟨i,hi,rfl,rfl⟩ K hK
 have hlen:((List.range i).map (fun i=>encOp (markOp (k + 4 * (i:Nat)))) ++ (l.drop i).map encOp).length=l.length:=by simp;omega
 rcases Nat.lt_or_ge i l.length with hlt | hge
 ·have hA:((List.range i).map (fun i=>encOp (markOp (k + 4 * (i:Nat))))).length=i:=by simp
  have hd:decide ((i:Int) < l.length)=true:=by simpa using hlt
  have hw:=wrap_succ hlt (show l.length <= maxLen by unfold maxLen;omega)
  have hw1:IntKind.i64.wrap (k + 4 * (i:Int) + 1)=k + 4 * (i:Int) + 1:=by rw [IntKind.wrap_i64];omega
  have hw2:IntKind.i64.wrap (k + 4 * (i:Int) + 1 + 1)=k + 4 * (i:Int) + 1 + 1:=by rw [IntKind.wrap_i64];omega
  have hw3:IntKind.i64.wrap (k + 4 * (i:Int) + 1 + 1 + 1)=k + 4 * (i:Int) + 1 + 1 + 1:=by rw [IntKind.wrap_i64];omega
  have hw4:IntKind.i64.wrap (k + 4 * (i:Int) + 1 + 1 + 1 + 1)=k + 4 * (i:Int) + 1 + 1 + 1 + 1:=by rw [IntKind.wrap_i64];omega
  rw [List.drop_eq_getElem_cons hlt,List.map_cons] at hlen ⊢
  generalize hAd:(List.range i).map (fun i=>encOp (markOp (k + 4 * (i:Nat))))=A at hA hlen ⊢
  have hl1:∀ x,(A ++ x :: (l.drop (i + 1)).map encOp).length=l.length:=fun x=>by
   rw [List.length_append,List.length_cons] at hlen ⊢;exact hlen
  simp (maxSteps:=2000000) only [go_sem,seval,hl1,hd,set_mid hA,getD_mid hA,encOp,hw,hw1,hw2,hw3,hw4,D.flat]
  repeat' ((with_reducible show _ /\ _);apply And.intro)
  all_goals first
   | (with_reducible exact hlt)
   | omega
   | (exact (by decide:((3:Int)=0 -> False)))
   | skip
  apply hK
  refine ⟨l.length - (i + 1),_,by omega,Ent.weak (ids:=[0]) (by simp) rfl (by simp) ?_ ?_ (by simp [objsLe,envLe,find,St.obj,AObj.renF,AV.renF,AV.renF1,Leaf.renF,LowAll,AV.Low,AV.Low1,Leaf.Low,AObj.Low,Ptr.renF,Ptr.Low]),i + 1,by omega,rfl,rfl⟩
  ·rw [List.range_succ,List.map_append,hAd]
   simp [objsLe,envLe,find,St.obj,AObj.renF,AV.renF,AV.renF1,Leaf.renF,LowAll,AV.Low,AV.Low1,Leaf.Low,AObj.Low,Ptr.renF,Ptr.Low]
   rfl
  ·simp [objsLe,envLe,find,St.obj,AObj.renF,AV.renF,AV.renF1,Leaf.renF,LowAll,AV.Low,AV.Low1,Leaf.Low,AObj.Low,Ptr.renF,Ptr.Low]
   omega
 ·have hge':i=l.length:=by omega
  subst hge'
  have hd:decide ((l.length:Int) < l.length)=false:=by simp
  refine sv2 ?_
  apply hK
  refine evl ?_
  refine Fin.nt results181 [0] ?_ ?_ ?_ <;> try trivial
  rw [List.drop_length,List.map_nil,List.append_nil]
  simp [objsLe,envLe,find,St.obj,AObj.renF,AV.renF,AV.renF1,Leaf.renF,LowAll,AV.Low,AV.Low1,Leaf.Low,AObj.Low,Ptr.renF,Ptr.Low]
theorem c185 (n:Nat) (k:Int) (hk0:0 <= k) (hk:k + 4 * n <= 4611686018427387904):Ctr prog 185 [.one (.dat (.sl 4 (markOps k n))),.one (.dat (.int .i64 k))] [] (.one (.dat (.int .i64 (k + 4 * n)))) []:=by
 refine Ctr.bd mixed func185 rfl ?_
 unfold markOps
 refine evl ?_
 refine LoopK_intro (fun m s=>∃ i:Nat,i <= n /\ m=n - i /\ s=mkSt [(5,.one (.dat (.int .i64 i))),(1,.one (.dat (.int .i64 (k + 4 * (i:Nat))))),(0,.one (.dat (.sl 4 ((List.range n).map fun i=>encOp (markOp (k + 4 * (i:Nat)))))))] []) n _
  (Ent.wk []) ⟨0,by omega,by omega,rfl⟩ ?_
 rintro m s ⟨i,hi,rfl,rfl⟩ K hK
 have hlen:((List.range n).map fun i=>encOp (markOp (k + 4 * (i:Nat)))).length=n:=by simp
 rcases Nat.lt_or_ge i n with hlt | hge
 ·have hd:decide ((i:Int) < n)=true:=by simpa using hlt
  have hw:=wrap_succ hlt (show n <= maxLen by unfold maxLen;omega)
  have hw1:IntKind.i64.wrap (k + 4 * (i:Int) + 1)=k + 4 * (i:Int) + 1:=by rw [IntKind.wrap_i64];omega
  have hw2:IntKind.i64.wrap (k + 4 * (i:Int) + 1 + 1)=k + 4 * (i:Int) + 1 + 1:=by rw [IntKind.wrap_i64];omega
  have hw3:IntKind.i64.wrap (k + 4 * (i:Int) + 1 + 1 + 1)=k + 4 * (i:Int) + 1 + 1 + 1:=by rw [IntKind.wrap_i64];omega
  have hw4:IntKind.i64.wrap (k + 4 * (i:Int) + 1 + 1 + 1 + 1)=k + 4 * (i:Int) + 1 + 1 + 1 + 1:=by rw [IntKind.wrap_i64];omega
  have hg:((List.range n).map fun i=>encOp (markOp (k + 4 * (i:Nat)))).getD i []=encOp (markOp (k + 4 * (i:Nat))):=getD_range hlt
  generalize ((List.range n).map fun i=>encOp (markOp (k + 4 * (i:Nat))))=L at hlen hg hK ⊢
  simp (maxSteps:=2000000) only [go_sem,seval,hlen,hd,hg,encOp,markOp,hw,hw1,hw2,hw3,hw4]
  repeat' first
   | with_reducible intro h
   | ((with_reducible show _ /\ _);apply And.intro)
  all_goals try (first | omega | exact hlt | exact absurd ‹(3:Int)=0› (by decide))
  apply hK
  refine ⟨n - (i + 1),_,by omega,Ent.weak (ids:=[]) (by simp) rfl (by simp) (by simp [objsLe,envLe,find,St.obj,AObj.renF,AV.renF,AV.renF1,Leaf.renF,LowAll,AV.Low,AV.Low1,Leaf.Low,AObj.Low,Ptr.renF,Ptr.Low]) (by simp [objsLe,envLe,find,St.obj,AObj.renF,AV.renF,AV.renF1,Leaf.renF,LowAll,AV.Low,AV.Low1,Leaf.Low,AObj.Low,Ptr.renF,Ptr.Low];omega) (by simp [objsLe,envLe,find,St.obj,AObj.renF,AV.renF,AV.renF1,Leaf.renF,LowAll,AV.Low,AV.Low1,Leaf.Low,AObj.Low,Ptr.renF,Ptr.Low]),i + 1,by omega,rfl,rfl⟩
 ·have hge':i=n:=by omega
  subst hge'
  have hd:decide ((i:Int) < i)=false:=by simp
  refine sv3 ?_
  apply hK
  refine evl ?_
  refine Fin.nt results185 [] ?_ ?_ ?_ <;> try trivial
structure Pin where
 On:Bool
 Epoch:Int
 Marked:Bool
 Seen:Int
 deriving DecidableEq
def encPin (x:Pin):List D:=[.bool x.On,.int .i64 x.Epoch,.bool x.Marked,.int .i64 x.Seen]
def Pin.wf (x:Pin):Prop:=(Lit.int .i64 x.Epoch).wf=true /\ (Lit.int .i64 x.Seen).wf=true /\ True
theorem Pin.eq_iff (x y:Pin):x=y ↔ x.On=y.On /\ x.Epoch=y.Epoch /\ x.Marked=y.Marked /\ x.Seen=y.Seen:=by cases x;cases y;simp
theorem c289 (x:Pin):Ctr prog 289 [.agg ((encPin x).map .dat)] [] (.agg ((encPin x).map .dat)) []:=by
 simp only [encPin,List.map_cons,List.map_nil]
 refine Ctr.bd mixed func289 rfl ?_
 refine evl ?_
 repeat' first
  | ((with_reducible show Abs.Fin _ _ _ _ _ _);refine Fin.nt results289 [] ?_ ?_ ?_ <;> try trivial)
  | with_reducible intro h
  | ((with_reducible show _ /\ _);apply And.intro)
 all_goals first | rfl | simp
theorem c228 (l:List Pin) (hl:l.length <= 1048576):Ctr prog 228 [.one (.dat (.sl 4 (l.map encPin)))] [] (.one (.own 0)) [.vec 4 true (l.map encPin)]:=by
 refine Ctr.bd mixed func228 rfl ?_
 refine evl ?_
 refine ⟨by omega,?_⟩
 refine LoopK_intro (fun n s=>∃ i:Nat,i <= l.length /\ n=l.length - i /\ s=mkSt [(4,.one (.dat (.int .i64 i))),(3,.one (.own 0)),(0,.one (.dat (.sl 4 (l.map encPin))))]
   [.vec 4 true ((l.take i).map encPin ++ List.replicate (l.length - i) [.bool false,.int .i64 0,.bool false,.int .i64 0])]) l.length _
  (Ent.weak (ids:=[0]) (by simp) rfl (by simp) ?_ ?_ ?_) ⟨0,by omega,by omega,rfl⟩ ?_
 ·simp [objsLe,St.obj,find,AObj.renF]
 ·simp [envLe,find,AV.renF,AV.renF1,Leaf.renF]
 ·simp [LowAll,AV.Low,AV.Low1,Leaf.Low,AObj.Low]
 rintro n s ⟨i,hi,rfl,rfl⟩ K hK
 refine evl ?_
 constructor <;> intro h
 ·have hlt:i < l.length:=by simpa using h
  refine ⟨⟨by omega,by omega⟩,hlt,?_⟩
  simp only [getD_map hlt,encPin,List.map_cons,List.map_nil,List.take_succ_cons,List.take_zero]
  refine CallK_pure e289 (c289 l[i]) rfl ?_
  simp (maxSteps:=2000000) only [go_sem,seval,encPin,D.flat,wrap_succ hlt (le20 hl)]
  refine ⟨by simp;omega,by simp;omega,?_⟩
  apply hK
  refine ⟨l.length - (i + 1),_,by omega,Ent.weak (ids:=[0]) (by simp) rfl (by simp) ?_ ?_ ?_,i + 1,by omega,rfl,rfl⟩
  ·simp only [objsLe,St.obj,find,AObj.renF,if_true,Option.getD_some,List.getD_cons_zero,and_true]
   rw [<- take_set encPin l _ hlt]
   exact ⟨Nat.zero_lt_one,Or.inr rfl⟩
  ·simp [envLe,find,AV.renF,AV.renF1,Leaf.renF]
  ·simp [LowAll,AV.Low,AV.Low1,Leaf.Low,AObj.Low]
 ·have hge:i=l.length:=by simp at h;omega
  subst hge
  apply hK
  refine evl ?_
  refine Fin.nt results228 [0] ?_ ?_ ?_ <;> try trivial
  all_goals simp [objsLe,St.obj,find,AObj.renF]
theorem c216 (rows:List (List D)) (left:Int) (h0:0 <= left) (h1:left <= 1048576) (hl:rows.length <= maxLen):Ctr prog 216 [.one (.dat (.sl 4 rows)),.one (.dat (.int .i64 left))] [] (.one (.dat (.int .i64 (szL left rows.length)))) []:=by
 have hw:=szL_wrap h0 h1 hl
 refine Ctr.bd mixed func216 rfl ?_
 refine sv0 ?_
 repeat' first
  | ((with_reducible show Abs.Fin _ _ _ _ _ _);refine Fin.nt results216 [] ?_ ?_ ?_ <;> try trivial)
  | with_reducible intro h
  | ((with_reducible show _ /\ _);apply And.intro)
 all_goals try ((refine rsl ?_;try exact .intro))
 all_goals simp_all [szL]
 all_goals omega
theorem c301 (x y:Pin):Ctr prog 301 [.agg ((encPin x).map .dat),.agg ((encPin y).map .dat)] [] (.one (.dat (.bool (decide (x=y))))) []:=by
 simp only [encPin,List.map_cons,List.map_nil]
 refine Ctr.bd mixed func301 rfl ?_
 refine evl ?_
 repeat' first
  | ((with_reducible show Abs.Fin _ _ _ _ _ _);refine Fin.nt results301 [] ?_ ?_ ?_ <;> try trivial)
  | with_reducible intro h
  | ((with_reducible show _ /\ _);apply And.intro)
 all_goals try ((refine rsl ?_;try exact .intro))
 all_goals simp_all [Pin.eq_iff]
theorem c254 (l l':List Pin) (hl:l.length <= maxLen) (hl':l'.length <= maxLen):Ctr prog 254 [.one (.dat (.sl 4 (l.map encPin))),.one (.dat (.sl 4 (l'.map encPin)))] [] (.one (.dat (.bool (decide (l=l'))))) []:=by
 refine Ctr.bd mixed func254 rfl ?_
 refine evl ?_
 constructor <;> intro h
 ·have hne:l.length ≠ l'.length:=by simp at h;omega
  refine Fin.nt results254 [] ?_ ?_ ?_ <;> try trivial
  (refine rsl ?_;try exact .intro)
  symm;rw [decide_eq_false_iff_not]
  intro e;exact hne (by rw [e])
 have hlen:l.length=l'.length:=by simp at h;omega
 refine LoopK_intro (fun n s=>∃ i:Nat,i <= l.length /\ n=l.length - i /\ l.take i=l'.take i /\ s=mkSt [(5,.one (.dat (.int .i64 i))),(1,.one (.dat (.sl 4 (l'.map encPin)))),(0,.one (.dat (.sl 4 (l.map encPin))))] []) l.length _
  (Ent.weak (ids:=[]) (by simp) rfl (by simp) ?_ ?_ ?_) ⟨0,by omega,by omega,rfl,rfl⟩ ?_
 ·simp [objsLe,St.obj,find,AObj.renF]
 ·simp [envLe,find,AV.renF,AV.renF1,Leaf.renF]
 ·simp [LowAll,AV.Low,AV.Low1,Leaf.Low,AObj.Low]
 rintro n s ⟨i,hi,rfl,ht,rfl⟩ K hK
 refine evl ?_
 constructor <;> intro h
 ·have hlt:i < l.length:=by simpa using h
  have hlt':i < l'.length:=by omega
  refine ⟨⟨by omega,by omega⟩,hlt,⟨by omega,by omega⟩,hlt',?_⟩
  simp only [getD_map hlt,getD_map hlt',encPin,List.map_cons,List.map_nil,List.take_succ_cons,List.take_zero]
  first
   | refine CCallK_intro e301 (fun _=>⟨trivial,c301 l[i] l'[i]⟩) rfl rfl ?_
   | refine Or.inl (CCallK_intro e301 (fun _=>⟨trivial,c301 l[i] l'[i]⟩) rfl rfl ?_)
  refine sv1 ?_
  constructor <;> intro h
  ·apply hK
   refine evl ?_
   refine Fin.nt results254 [] ?_ ?_ ?_ <;> try trivial
   (refine rsl ?_;try exact .intro)
   symm;rw [decide_eq_false_iff_not]
   rintro rfl;simp at h
  ·apply hK
   have he:l[i]=l'[i]:=by simpa using h
   refine ⟨l.length - (i + 1),_,by omega,Ent.weak (ids:=[]) (by simp) rfl (by simp) ?_ ?_ ?_,i + 1,by omega,rfl,?_,rfl⟩
   ·simp [objsLe,St.obj,find,AObj.renF]
   ·simp [envLe,find,AV.renF,AV.renF1,Leaf.renF]
   ·simp [LowAll,AV.Low,AV.Low1,Leaf.Low,AObj.Low]
   ·rw [List.take_succ_eq_append_getElem hlt,List.take_succ_eq_append_getElem hlt',ht,he]
 ·have hge:i=l.length:=by simp at h;omega
  subst hge
  apply hK
  refine evl ?_
  refine Fin.nt results254 [] ?_ ?_ ?_ <;> try trivial
  (refine rsl ?_;try exact .intro)
  symm;rw [decide_eq_true_iff]
  rw [List.take_of_length_le (Nat.le_refl _),List.take_of_length_le (by omega)] at ht
  exact ht
def markPin (k:Int):Pin:=⟨(k).tmod 3 == 0,k + 1,(k + 1 + 1).tmod 3 == 0,k + 1 + 1 + 1⟩
def markPins (k:Int) (n:Nat):List (List D):=(List.range n).map fun i=>encPin (markPin (k + 4 * (i:Nat)))
theorem markPins_length (k:Int) (n:Nat):(markPins k n).length=n:=by simp [markPins]
theorem c261 (l:List Pin) (k:Int) (hk0:0 <= k) (hk:k + 4 * l.length <= 4611686018427387904):Ctr prog 261 [.one (.own 0),.one (.dat (.int .i64 k))] [.vec 4 true (l.map encPin)] (.one (.dat (.int .i64 (k + 4 * l.length)))) [.vec 4 true (markPins k l.length)]:=by
 refine Ctr.of_body mixed func261 rfl (by kernel_rfl) (Nat.le_of_ble_eq_true rfl) (by simp [AV.Clean,AV.Clean1,Leaf.Clean,D.flat]) (by simp [AObj.Sep]) (by simp) ?_ (by simp [AV.Low,AV.Low1,Leaf.Low]) ?_
 ·intro o ho
  have:o=0:=by simpa using ho
  subst this
  simp [Objs,Compat,markPins]
 show wpA _ _ _ (FinQ _ _ _ _ _) _
 unfold markPins
 refine evl ?_
 refine LoopK_intro (fun n s=>∃ i:Nat,i <= l.length /\ n=l.length - i /\ s=mkSt [(5,.one (.dat (.int .i64 i))),(1,.one (.dat (.int .i64 (k + 4 * (i:Nat))))),(0,.one (.own 0))]
   [.vec 4 true ((List.range i).map (fun i=>encPin (markPin (k + 4 * (i:Nat)))) ++ (l.drop i).map encPin)]) l.length _
  (Ent.wk [0]) ⟨0,by omega,by omega,rfl⟩ ?_
 rintro n s ⟨i,hi,rfl,rfl⟩ K hK
 have hlen:((List.range i).map (fun i=>encPin (markPin (k + 4 * (i:Nat)))) ++ (l.drop i).map encPin).length=l.length:=by simp;omega
 rcases Nat.lt_or_ge i l.length with hlt | hge
 ·have hA:((List.range i).map (fun i=>encPin (markPin (k + 4 * (i:Nat))))).length=i:=by simp
  have hd:decide ((i:Int) < l.length)=true:=by simpa using hlt
  have hw:=wrap_succ hlt (show l.length <= maxLen by unfold maxLen;omega)
  have hw1:IntKind.i64.wrap (k + 4 * (i:Int) + 1)=k + 4 * (i:Int) + 1:=by rw [IntKind.wrap_i64];omega
  have hw2:IntKind.i64.wrap (k + 4 * (i:Int) + 1 + 1)=k + 4 * (i:Int) + 1 + 1:=by rw [IntKind.wrap_i64];omega
  have hw3:IntKind.i64.wrap (k + 4 * (i:Int) + 1 + 1 + 1)=k + 4 * (i:Int) + 1 + 1 + 1:=by rw [IntKind.wrap_i64];omega
  have hw4:IntKind.i64.wrap (k + 4 * (i:Int) + 1 + 1 + 1 + 1)=k + 4 * (i:Int) + 1 + 1 + 1 + 1:=by rw [IntKind.wrap_i64];omega
  rw [List.drop_eq_getElem_cons hlt,List.map_cons] at hlen ⊢
  generalize hAd:(List.range i).map (fun i=>encPin (markPin (k + 4 * (i:Nat))))=A at hA hlen ⊢
  have hl1:∀ x,(A ++ x :: (l.drop (i + 1)).map encPin).length=l.length:=fun x=>by
   rw [List.length_append,List.length_cons] at hlen ⊢;exact hlen
  simp (maxSteps:=2000000) only [go_sem,seval,hl1,hd,set_mid hA,getD_mid hA,encPin,hw,hw1,hw2,hw3,hw4,D.flat]
  repeat' ((with_reducible show _ /\ _);apply And.intro)
  all_goals first
   | (with_reducible exact hlt)
   | omega
   | (exact (by decide:((3:Int)=0 -> False)))
   | skip
  apply hK
  refine ⟨l.length - (i + 1),_,by omega,Ent.weak (ids:=[0]) (by simp) rfl (by simp) ?_ ?_ (by simp [objsLe,envLe,find,St.obj,AObj.renF,AV.renF,AV.renF1,Leaf.renF,LowAll,AV.Low,AV.Low1,Leaf.Low,AObj.Low,Ptr.renF,Ptr.Low]),i + 1,by omega,rfl,rfl⟩
  ·rw [List.range_succ,List.map_append,hAd]
   simp [objsLe,envLe,find,St.obj,AObj.renF,AV.renF,AV.renF1,Leaf.renF,LowAll,AV.Low,AV.Low1,Leaf.Low,AObj.Low,Ptr.renF,Ptr.Low]
   rfl
  ·simp [objsLe,envLe,find,St.obj,AObj.renF,AV.renF,AV.renF1,Leaf.renF,LowAll,AV.Low,AV.Low1,Leaf.Low,AObj.Low,Ptr.renF,Ptr.Low]
   omega
 ·have hge':i=l.length:=by omega
  subst hge'
  have hd:decide ((l.length:Int) < l.length)=false:=by simp
  refine sv2 ?_
  apply hK
  refine evl ?_
  refine Fin.nt results261 [0] ?_ ?_ ?_ <;> try trivial
  rw [List.drop_length,List.map_nil,List.append_nil]
  simp [objsLe,envLe,find,St.obj,AObj.renF,AV.renF,AV.renF1,Leaf.renF,LowAll,AV.Low,AV.Low1,Leaf.Low,AObj.Low,Ptr.renF,Ptr.Low]
theorem c265 (n:Nat) (k:Int) (hk0:0 <= k) (hk:k + 4 * n <= 4611686018427387904):Ctr prog 265 [.one (.dat (.sl 4 (markPins k n))),.one (.dat (.int .i64 k))] [] (.one (.dat (.int .i64 (k + 4 * n)))) []:=by
 refine Ctr.bd mixed func265 rfl ?_
 unfold markPins
 refine evl ?_
 refine LoopK_intro (fun m s=>∃ i:Nat,i <= n /\ m=n - i /\ s=mkSt [(5,.one (.dat (.int .i64 i))),(1,.one (.dat (.int .i64 (k + 4 * (i:Nat))))),(0,.one (.dat (.sl 4 ((List.range n).map fun i=>encPin (markPin (k + 4 * (i:Nat)))))))] []) n _
  (Ent.wk []) ⟨0,by omega,by omega,rfl⟩ ?_
 rintro m s ⟨i,hi,rfl,rfl⟩ K hK
 have hlen:((List.range n).map fun i=>encPin (markPin (k + 4 * (i:Nat)))).length=n:=by simp
 rcases Nat.lt_or_ge i n with hlt | hge
 ·have hd:decide ((i:Int) < n)=true:=by simpa using hlt
  have hw:=wrap_succ hlt (show n <= maxLen by unfold maxLen;omega)
  have hw1:IntKind.i64.wrap (k + 4 * (i:Int) + 1)=k + 4 * (i:Int) + 1:=by rw [IntKind.wrap_i64];omega
  have hw2:IntKind.i64.wrap (k + 4 * (i:Int) + 1 + 1)=k + 4 * (i:Int) + 1 + 1:=by rw [IntKind.wrap_i64];omega
  have hw3:IntKind.i64.wrap (k + 4 * (i:Int) + 1 + 1 + 1)=k + 4 * (i:Int) + 1 + 1 + 1:=by rw [IntKind.wrap_i64];omega
  have hw4:IntKind.i64.wrap (k + 4 * (i:Int) + 1 + 1 + 1 + 1)=k + 4 * (i:Int) + 1 + 1 + 1 + 1:=by rw [IntKind.wrap_i64];omega
  have hg:((List.range n).map fun i=>encPin (markPin (k + 4 * (i:Nat)))).getD i []=encPin (markPin (k + 4 * (i:Nat))):=getD_range hlt
  generalize ((List.range n).map fun i=>encPin (markPin (k + 4 * (i:Nat))))=L at hlen hg hK ⊢
  simp (maxSteps:=2000000) only [go_sem,seval,hlen,hd,hg,encPin,markPin,hw,hw1,hw2,hw3,hw4]
  repeat' first
   | with_reducible intro h
   | ((with_reducible show _ /\ _);apply And.intro)
  all_goals try (first | omega | exact hlt | exact absurd ‹(3:Int)=0› (by decide))
  apply hK
  refine ⟨n - (i + 1),_,by omega,Ent.weak (ids:=[]) (by simp) rfl (by simp) (by simp [objsLe,envLe,find,St.obj,AObj.renF,AV.renF,AV.renF1,Leaf.renF,LowAll,AV.Low,AV.Low1,Leaf.Low,AObj.Low,Ptr.renF,Ptr.Low]) (by simp [objsLe,envLe,find,St.obj,AObj.renF,AV.renF,AV.renF1,Leaf.renF,LowAll,AV.Low,AV.Low1,Leaf.Low,AObj.Low,Ptr.renF,Ptr.Low];omega) (by simp [objsLe,envLe,find,St.obj,AObj.renF,AV.renF,AV.renF1,Leaf.renF,LowAll,AV.Low,AV.Low1,Leaf.Low,AObj.Low,Ptr.renF,Ptr.Low]),i + 1,by omega,rfl,rfl⟩
 ·have hge':i=n:=by omega
  subst hge'
  have hd:decide ((i:Int) < i)=false:=by simp
  refine sv3 ?_
  apply hK
  refine evl ?_
  refine Fin.nt results265 [] ?_ ?_ ?_ <;> try trivial
structure Ev where
 Kind:Int
 Who:Int
 Serial:Int
 Cell:Int
 Handle:Int
 Val:Int
 Code:Int
 deriving DecidableEq
def encEv (x:Ev):List D:=[.int .i64 x.Kind,.int .i64 x.Who,.int .i64 x.Serial,.int .i64 x.Cell,.int .i64 x.Handle,.int .i64 x.Val,.int .i64 x.Code]
def Ev.wf (x:Ev):Prop:=(Lit.int .i64 x.Kind).wf=true /\ (Lit.int .i64 x.Who).wf=true /\ (Lit.int .i64 x.Serial).wf=true /\ (Lit.int .i64 x.Cell).wf=true /\ (Lit.int .i64 x.Handle).wf=true /\ (Lit.int .i64 x.Val).wf=true /\ (Lit.int .i64 x.Code).wf=true /\ True
theorem Ev.eq_iff (x y:Ev):x=y ↔ x.Kind=y.Kind /\ x.Who=y.Who /\ x.Serial=y.Serial /\ x.Cell=y.Cell /\ x.Handle=y.Handle /\ x.Val=y.Val /\ x.Code=y.Code:=by cases x;cases y;simp
theorem c155 (x:Ev):Ctr prog 155 [.agg ((encEv x).map .dat)] [] (.agg ((encEv x).map .dat)) []:=by
 simp only [encEv,List.map_cons,List.map_nil]
 refine Ctr.bd mixed func155 rfl ?_
 refine evl ?_
 repeat' first
  | ((with_reducible show Abs.Fin _ _ _ _ _ _);refine Fin.nt results155 [] ?_ ?_ ?_ <;> try trivial)
  | with_reducible intro h
  | ((with_reducible show _ /\ _);apply And.intro)
 all_goals first | rfl | simp
theorem c80 (l:List Ev) (hl:l.length <= 1048576):Ctr prog 80 [.one (.dat (.sl 7 (l.map encEv)))] [] (.one (.own 0)) [.vec 7 true (l.map encEv)]:=by
 refine Ctr.bd mixed func80 rfl ?_
 refine evl ?_
 refine ⟨by omega,?_⟩
 refine LoopK_intro (fun n s=>∃ i:Nat,i <= l.length /\ n=l.length - i /\ s=mkSt [(4,.one (.dat (.int .i64 i))),(3,.one (.own 0)),(0,.one (.dat (.sl 7 (l.map encEv))))]
   [.vec 7 true ((l.take i).map encEv ++ List.replicate (l.length - i) [.int .i64 0,.int .i64 0,.int .i64 0,.int .i64 0,.int .i64 0,.int .i64 0,.int .i64 0])]) l.length _
  (Ent.weak (ids:=[0]) (by simp) rfl (by simp) ?_ ?_ ?_) ⟨0,by omega,by omega,rfl⟩ ?_
 ·simp [objsLe,St.obj,find,AObj.renF]
 ·simp [envLe,find,AV.renF,AV.renF1,Leaf.renF]
 ·simp [LowAll,AV.Low,AV.Low1,Leaf.Low,AObj.Low]
 rintro n s ⟨i,hi,rfl,rfl⟩ K hK
 refine evl ?_
 constructor <;> intro h
 ·have hlt:i < l.length:=by simpa using h
  refine ⟨⟨by omega,by omega⟩,hlt,?_⟩
  simp only [getD_map hlt,encEv,List.map_cons,List.map_nil,List.take_succ_cons,List.take_zero]
  refine CallK_pure e155 (c155 l[i]) rfl ?_
  simp (maxSteps:=2000000) only [go_sem,seval,encEv,D.flat,wrap_succ hlt (le20 hl)]
  refine ⟨by simp;omega,by simp;omega,?_⟩
  apply hK
  refine ⟨l.length - (i + 1),_,by omega,Ent.weak (ids:=[0]) (by simp) rfl (by simp) ?_ ?_ ?_,i + 1,by omega,rfl,rfl⟩
  ·simp only [objsLe,St.obj,find,AObj.renF,if_true,Option.getD_some,List.getD_cons_zero,and_true]
   rw [<- take_set encEv l _ hlt]
   exact ⟨Nat.zero_lt_one,Or.inr rfl⟩
  ·simp [envLe,find,AV.renF,AV.renF1,Leaf.renF]
  ·simp [LowAll,AV.Low,AV.Low1,Leaf.Low,AObj.Low]
 ·have hge:i=l.length:=by simp at h;omega
  subst hge
  apply hK
  refine evl ?_
  refine Fin.nt results80 [0] ?_ ?_ ?_ <;> try trivial
  all_goals simp [objsLe,St.obj,find,AObj.renF]
theorem c72 (rows:List (List D)) (left:Int) (h0:0 <= left) (h1:left <= 1048576) (hl:rows.length <= maxLen):Ctr prog 72 [.one (.dat (.sl 7 rows)),.one (.dat (.int .i64 left))] [] (.one (.dat (.int .i64 (szL left rows.length)))) []:=by
 have hw:=szL_wrap h0 h1 hl
 refine Ctr.bd mixed func72 rfl ?_
 refine sv0 ?_
 repeat' first
  | ((with_reducible show Abs.Fin _ _ _ _ _ _);refine Fin.nt results72 [] ?_ ?_ ?_ <;> try trivial)
  | with_reducible intro h
  | ((with_reducible show _ /\ _);apply And.intro)
 all_goals try ((refine rsl ?_;try exact .intro))
 all_goals simp_all [szL]
 all_goals omega
theorem c177 (x y:Ev):Ctr prog 177 [.agg ((encEv x).map .dat),.agg ((encEv y).map .dat)] [] (.one (.dat (.bool (decide (x=y))))) []:=by
 simp only [encEv,List.map_cons,List.map_nil]
 refine Ctr.bd mixed func177 rfl ?_
 refine evl ?_
 repeat' first
  | ((with_reducible show Abs.Fin _ _ _ _ _ _);refine Fin.nt results177 [] ?_ ?_ ?_ <;> try trivial)
  | with_reducible intro h
  | ((with_reducible show _ /\ _);apply And.intro)
 all_goals try ((refine rsl ?_;try exact .intro))
 all_goals simp_all [Ev.eq_iff]
theorem c89 (l l':List Ev) (hl:l.length <= maxLen) (hl':l'.length <= maxLen):Ctr prog 89 [.one (.dat (.sl 7 (l.map encEv))),.one (.dat (.sl 7 (l'.map encEv)))] [] (.one (.dat (.bool (decide (l=l'))))) []:=by
 refine Ctr.bd mixed func89 rfl ?_
 refine evl ?_
 constructor <;> intro h
 ·have hne:l.length ≠ l'.length:=by simp at h;omega
  refine Fin.nt results89 [] ?_ ?_ ?_ <;> try trivial
  (refine rsl ?_;try exact .intro)
  symm;rw [decide_eq_false_iff_not]
  intro e;exact hne (by rw [e])
 have hlen:l.length=l'.length:=by simp at h;omega
 refine LoopK_intro (fun n s=>∃ i:Nat,i <= l.length /\ n=l.length - i /\ l.take i=l'.take i /\ s=mkSt [(5,.one (.dat (.int .i64 i))),(1,.one (.dat (.sl 7 (l'.map encEv)))),(0,.one (.dat (.sl 7 (l.map encEv))))] []) l.length _
  (Ent.weak (ids:=[]) (by simp) rfl (by simp) ?_ ?_ ?_) ⟨0,by omega,by omega,rfl,rfl⟩ ?_
 ·simp [objsLe,St.obj,find,AObj.renF]
 ·simp [envLe,find,AV.renF,AV.renF1,Leaf.renF]
 ·simp [LowAll,AV.Low,AV.Low1,Leaf.Low,AObj.Low]
 rintro n s ⟨i,hi,rfl,ht,rfl⟩ K hK
 refine evl ?_
 constructor <;> intro h
 ·have hlt:i < l.length:=by simpa using h
  have hlt':i < l'.length:=by omega
  refine ⟨⟨by omega,by omega⟩,hlt,⟨by omega,by omega⟩,hlt',?_⟩
  simp only [getD_map hlt,getD_map hlt',encEv,List.map_cons,List.map_nil,List.take_succ_cons,List.take_zero]
  first
   | refine CCallK_intro e177 (fun _=>⟨trivial,c177 l[i] l'[i]⟩) rfl rfl ?_
   | refine Or.inl (CCallK_intro e177 (fun _=>⟨trivial,c177 l[i] l'[i]⟩) rfl rfl ?_)
  refine sv1 ?_
  constructor <;> intro h
  ·apply hK
   refine evl ?_
   refine Fin.nt results89 [] ?_ ?_ ?_ <;> try trivial
   (refine rsl ?_;try exact .intro)
   symm;rw [decide_eq_false_iff_not]
   rintro rfl;simp at h
  ·apply hK
   have he:l[i]=l'[i]:=by simpa using h
   refine ⟨l.length - (i + 1),_,by omega,Ent.weak (ids:=[]) (by simp) rfl (by simp) ?_ ?_ ?_,i + 1,by omega,rfl,?_,rfl⟩
   ·simp [objsLe,St.obj,find,AObj.renF]
   ·simp [envLe,find,AV.renF,AV.renF1,Leaf.renF]
   ·simp [LowAll,AV.Low,AV.Low1,Leaf.Low,AObj.Low]
   ·rw [List.take_succ_eq_append_getElem hlt,List.take_succ_eq_append_getElem hlt',ht,he]
 ·have hge:i=l.length:=by simp at h;omega
  subst hge
  apply hK
  refine evl ?_
  refine Fin.nt results89 [] ?_ ?_ ?_ <;> try trivial
  (refine rsl ?_;try exact .intro)
  symm;rw [decide_eq_true_iff]
  rw [List.take_of_length_le (Nat.le_refl _),List.take_of_length_le (by omega)] at ht
  exact ht
def markEv (k:Int):Ev:=⟨k,k + 1,k + 1 + 1,k + 1 + 1 + 1,k + 1 + 1 + 1 + 1,k + 1 + 1 + 1 + 1 + 1,k + 1 + 1 + 1 + 1 + 1 + 1⟩
def markEvs (k:Int) (n:Nat):List (List D):=(List.range n).map fun i=>encEv (markEv (k + 7 * (i:Nat)))
theorem markEvs_length (k:Int) (n:Nat):(markEvs k n).length=n:=by simp [markEvs]
theorem c94 (l:List Ev) (k:Int) (hk0:0 <= k) (hk:k + 7 * l.length <= 4611686018427387904):Ctr prog 94 [.one (.own 0),.one (.dat (.int .i64 k))] [.vec 7 true (l.map encEv)] (.one (.dat (.int .i64 (k + 7 * l.length)))) [.vec 7 true (markEvs k l.length)]:=by
 refine Ctr.of_body mixed func94 rfl (by kernel_rfl) (Nat.le_of_ble_eq_true rfl) (by simp [AV.Clean,AV.Clean1,Leaf.Clean,D.flat]) (by simp [AObj.Sep]) (by simp) ?_ (by simp [AV.Low,AV.Low1,Leaf.Low]) ?_
 ·intro o ho
  have:o=0:=by simpa using ho
  subst this
  simp [Objs,Compat,markEvs]
 show wpA _ _ _ (FinQ _ _ _ _ _) _
 unfold markEvs
 refine evl ?_
 refine LoopK_intro (fun n s=>∃ i:Nat,i <= l.length /\ n=l.length - i /\ s=mkSt [(5,.one (.dat (.int .i64 i))),(1,.one (.dat (.int .i64 (k + 7 * (i:Nat))))),(0,.one (.own 0))]
   [.vec 7 true ((List.range i).map (fun i=>encEv (markEv (k + 7 * (i:Nat)))) ++ (l.drop i).map encEv)]) l.length _
  (Ent.wk [0]) ⟨0,by omega,by omega,rfl⟩ ?_
 rintro n s ⟨i,hi,rfl,rfl⟩ K hK
 have hlen:((List.range i).map (fun i=>encEv (markEv (k + 7 * (i:Nat)))) ++ (l.drop i).map encEv).length=l.length:=by simp;omega
 rcases Nat.lt_or_ge i l.length with hlt | hge
 ·have hA:((List.range i).map (fun i=>encEv (markEv (k + 7 * (i:Nat))))).length=i:=by simp
  have hd:decide ((i:Int) < l.length)=true:=by simpa using hlt
  have hw:=wrap_succ hlt (show l.length <= maxLen by unfold maxLen;omega)
  have hw1:IntKind.i64.wrap (k + 7 * (i:Int) + 1)=k + 7 * (i:Int) + 1:=by rw [IntKind.wrap_i64];omega
  have hw2:IntKind.i64.wrap (k + 7 * (i:Int) + 1 + 1)=k + 7 * (i:Int) + 1 + 1:=by rw [IntKind.wrap_i64];omega
  have hw3:IntKind.i64.wrap (k + 7 * (i:Int) + 1 + 1 + 1)=k + 7 * (i:Int) + 1 + 1 + 1:=by rw [IntKind.wrap_i64];omega
  have hw4:IntKind.i64.wrap (k + 7 * (i:Int) + 1 + 1 + 1 + 1)=k + 7 * (i:Int) + 1 + 1 + 1 + 1:=by rw [IntKind.wrap_i64];omega
  have hw5:IntKind.i64.wrap (k + 7 * (i:Int) + 1 + 1 + 1 + 1 + 1)=k + 7 * (i:Int) + 1 + 1 + 1 + 1 + 1:=by rw [IntKind.wrap_i64];omega
  have hw6:IntKind.i64.wrap (k + 7 * (i:Int) + 1 + 1 + 1 + 1 + 1 + 1)=k + 7 * (i:Int) + 1 + 1 + 1 + 1 + 1 + 1:=by rw [IntKind.wrap_i64];omega
  have hw7:IntKind.i64.wrap (k + 7 * (i:Int) + 1 + 1 + 1 + 1 + 1 + 1 + 1)=k + 7 * (i:Int) + 1 + 1 + 1 + 1 + 1 + 1 + 1:=by rw [IntKind.wrap_i64];omega
  rw [List.drop_eq_getElem_cons hlt,List.map_cons] at hlen ⊢
  generalize hAd:(List.range i).map (fun i=>encEv (markEv (k + 7 * (i:Nat))))=A at hA hlen ⊢
  have hl1:∀ x,(A ++ x :: (l.drop (i + 1)).map encEv).length=l.length:=fun x=>by
   rw [List.length_append,List.length_cons] at hlen ⊢;exact hlen
  simp (maxSteps:=2000000) only [go_sem,seval,hl1,hd,set_mid hA,getD_mid hA,encEv,hw,hw1,hw2,hw3,hw4,hw5,hw6,hw7,D.flat]
  repeat' ((with_reducible show _ /\ _);apply And.intro)
  all_goals first
   | (with_reducible exact hlt)
   | omega
   | (exact (by decide:((3:Int)=0 -> False)))
   | skip
  apply hK
  refine ⟨l.length - (i + 1),_,by omega,Ent.weak (ids:=[0]) (by simp) rfl (by simp) ?_ ?_ (by simp [objsLe,envLe,find,St.obj,AObj.renF,AV.renF,AV.renF1,Leaf.renF,LowAll,AV.Low,AV.Low1,Leaf.Low,AObj.Low,Ptr.renF,Ptr.Low]),i + 1,by omega,rfl,rfl⟩
  ·rw [List.range_succ,List.map_append,hAd]
   simp [objsLe,envLe,find,St.obj,AObj.renF,AV.renF,AV.renF1,Leaf.renF,LowAll,AV.Low,AV.Low1,Leaf.Low,AObj.Low,Ptr.renF,Ptr.Low]
   rfl
  ·simp [objsLe,envLe,find,St.obj,AObj.renF,AV.renF,AV.renF1,Leaf.renF,LowAll,AV.Low,AV.Low1,Leaf.Low,AObj.Low,Ptr.renF,Ptr.Low]
   omega
 ·have hge':i=l.length:=by omega
  subst hge'
  have hd:decide ((l.length:Int) < l.length)=false:=by simp
  refine sv2 ?_
  apply hK
  refine evl ?_
  refine Fin.nt results94 [0] ?_ ?_ ?_ <;> try trivial
  rw [List.drop_length,List.map_nil,List.append_nil]
  simp [objsLe,envLe,find,St.obj,AObj.renF,AV.renF,AV.renF1,Leaf.renF,LowAll,AV.Low,AV.Low1,Leaf.Low,AObj.Low,Ptr.renF,Ptr.Low]
theorem c99 (n:Nat) (k:Int) (hk0:0 <= k) (hk:k + 7 * n <= 4611686018427387904):Ctr prog 99 [.one (.dat (.sl 7 (markEvs k n))),.one (.dat (.int .i64 k))] [] (.one (.dat (.int .i64 (k + 7 * n)))) []:=by
 refine Ctr.bd mixed func99 rfl ?_
 unfold markEvs
 refine evl ?_
 refine LoopK_intro (fun m s=>∃ i:Nat,i <= n /\ m=n - i /\ s=mkSt [(5,.one (.dat (.int .i64 i))),(1,.one (.dat (.int .i64 (k + 7 * (i:Nat))))),(0,.one (.dat (.sl 7 ((List.range n).map fun i=>encEv (markEv (k + 7 * (i:Nat)))))))] []) n _
  (Ent.wk []) ⟨0,by omega,by omega,rfl⟩ ?_
 rintro m s ⟨i,hi,rfl,rfl⟩ K hK
 have hlen:((List.range n).map fun i=>encEv (markEv (k + 7 * (i:Nat)))).length=n:=by simp
 rcases Nat.lt_or_ge i n with hlt | hge
 ·have hd:decide ((i:Int) < n)=true:=by simpa using hlt
  have hw:=wrap_succ hlt (show n <= maxLen by unfold maxLen;omega)
  have hw1:IntKind.i64.wrap (k + 7 * (i:Int) + 1)=k + 7 * (i:Int) + 1:=by rw [IntKind.wrap_i64];omega
  have hw2:IntKind.i64.wrap (k + 7 * (i:Int) + 1 + 1)=k + 7 * (i:Int) + 1 + 1:=by rw [IntKind.wrap_i64];omega
  have hw3:IntKind.i64.wrap (k + 7 * (i:Int) + 1 + 1 + 1)=k + 7 * (i:Int) + 1 + 1 + 1:=by rw [IntKind.wrap_i64];omega
  have hw4:IntKind.i64.wrap (k + 7 * (i:Int) + 1 + 1 + 1 + 1)=k + 7 * (i:Int) + 1 + 1 + 1 + 1:=by rw [IntKind.wrap_i64];omega
  have hw5:IntKind.i64.wrap (k + 7 * (i:Int) + 1 + 1 + 1 + 1 + 1)=k + 7 * (i:Int) + 1 + 1 + 1 + 1 + 1:=by rw [IntKind.wrap_i64];omega
  have hw6:IntKind.i64.wrap (k + 7 * (i:Int) + 1 + 1 + 1 + 1 + 1 + 1)=k + 7 * (i:Int) + 1 + 1 + 1 + 1 + 1 + 1:=by rw [IntKind.wrap_i64];omega
  have hw7:IntKind.i64.wrap (k + 7 * (i:Int) + 1 + 1 + 1 + 1 + 1 + 1 + 1)=k + 7 * (i:Int) + 1 + 1 + 1 + 1 + 1 + 1 + 1:=by rw [IntKind.wrap_i64];omega
  have hg:((List.range n).map fun i=>encEv (markEv (k + 7 * (i:Nat)))).getD i []=encEv (markEv (k + 7 * (i:Nat))):=getD_range hlt
  generalize ((List.range n).map fun i=>encEv (markEv (k + 7 * (i:Nat))))=L at hlen hg hK ⊢
  simp (maxSteps:=2000000) only [go_sem,seval,hlen,hd,hg,encEv,markEv,hw,hw1,hw2,hw3,hw4,hw5,hw6,hw7]
  repeat' first
   | with_reducible intro h
   | ((with_reducible show _ /\ _);apply And.intro)
  all_goals try (first | omega | exact hlt | exact absurd ‹(3:Int)=0› (by decide))
  apply hK
  refine ⟨n - (i + 1),_,by omega,Ent.weak (ids:=[]) (by simp) rfl (by simp) (by simp [objsLe,envLe,find,St.obj,AObj.renF,AV.renF,AV.renF1,Leaf.renF,LowAll,AV.Low,AV.Low1,Leaf.Low,AObj.Low,Ptr.renF,Ptr.Low]) (by simp [objsLe,envLe,find,St.obj,AObj.renF,AV.renF,AV.renF1,Leaf.renF,LowAll,AV.Low,AV.Low1,Leaf.Low,AObj.Low,Ptr.renF,Ptr.Low];omega) (by simp [objsLe,envLe,find,St.obj,AObj.renF,AV.renF,AV.renF1,Leaf.renF,LowAll,AV.Low,AV.Low1,Leaf.Low,AObj.Low,Ptr.renF,Ptr.Low]),i + 1,by omega,rfl,rfl⟩
 ·have hge':i=n:=by omega
  subst hge'
  have hd:decide ((i:Int) < i)=false:=by simp
  refine sv3 ?_
  apply hK
  refine evl ?_
  refine Fin.nt results99 [] ?_ ?_ ?_ <;> try trivial
end Go.Proofs.YtcnddedeeplbcaaGreat.Mod
