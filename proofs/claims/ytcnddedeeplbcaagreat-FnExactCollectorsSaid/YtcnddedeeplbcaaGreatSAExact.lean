import Derived.Test.YtcnddedeeplbcaaGreatRows
import Derived.Test.YtcnddedeeplbcaaGreatSATy
import Derived.Test.YtcnddedeeplbcaaGreatSAbsTac
import Derived.Test.YtcnddedeeplbcaaGreatSAbsData
import Derived.Test.YtcnddedeeplbcaaGreatSAMarks
import Derived.WalkKit
import Derived.ProofKit
import Derived.OpenShut
/- Contracts: Exact. -/
namespace Go.Proofs.YtcnddedeeplbcaaGreat.Mod
open Go.Proofs.Tryz Go.Abs Go.Proofs.YtcnddedeeplbcaaGreat.Ty Go.ChangeShapes Go.WideShapes Go.ChangeAt Go.RowKit
set_option linter.unusedSimpArgs false
set_option linter.unusedVariables false
set_option maxHeartbeats 8000000
set_option maxRecDepth 100000
def closeMd (st:St) (k n p sz:Nat) (rows:List (List D)):St:=((st.setObj n .dead).setObj p .dead).setObj k (.vec sz true rows)
theorem closeMid {nf:Nat} {st:St} {k n p sz i:Nat} {A B:List (List D)} {r:List D} (hA:A.length=i) (e:st.obj k=.vec sz true (A ++ r :: B)) {j:Nat} (hj:j < sz) {v:Value} (hd:r.getD j default=.hdr v) {s2:Nat} {rs:List (List D)}
  (en:st.obj n=lent s2 rs) (ep:st.obj p=.pin n v) (hkn:k ≠ n):Ent nf st (closeMd st k n p sz (A ++ r.set j (.sl s2 rs) :: B)):=by
 have:=Ent.closeL (nf:=nf) e (i:=i) (j:=j) (by simp;omega) hj (by rw [getD_mid hA];exact hd) en ep hkn
 rw [closeSt,getD_mid hA,set_mid hA] at this
 exact this
theorem c262_e (l:List LRow) (k:Int) (hk0:0 <= k) (hk:k + 2 * l.length <= 4611686018427387904):Ctr prog 262 [.one (.own 0),.one (.dat (.int .i64 k))] [lent 2 (l.map encLRow)] (.one (.dat (.int .i64 (k + 2 * l.length)))) [lent 2 (markLRows k l.length)]:=by
 exact c262 l k hk0 hk
theorem c181_e (l:List Op) (k:Int) (hk0:0 <= k) (hk:k + 4 * l.length <= 4611686018427387904):Ctr prog 181 [.one (.own 0),.one (.dat (.int .i64 k))] [lent 4 (l.map encOp)] (.one (.dat (.int .i64 (k + 4 * l.length)))) [lent 4 (markOps k l.length)]:=by
 exact c181 l k hk0 hk
def mrkJob (k:Int) (x:Job):List D:=[.bool ((k).tmod 3 == 0),.int .i64 (k + 1),.int .i64 (k + 1 + 1),.int .i64 (k + 1 + 1 + 1),.int .i64 (k + 1 + 1 + 1 + 1),.int .i64 (k + 1 + 1 + 1 + 1 + 1),.int .i64 (k + 1 + 1 + 1 + 1 + 1 + 1),.int .i64 (k + 1 + 1 + 1 + 1 + 1 + 1 + 1),.int .i64 (k + 1 + 1 + 1 + 1 + 1 + 1 + 1 + 1),.int .i64 (k + 1 + 1 + 1 + 1 + 1 + 1 + 1 + 1 + 1),.int .i64 (k + 1 + 1 + 1 + 1 + 1 + 1 + 1 + 1 + 1 + 1),.int .i64 (k + 1 + 1 + 1 + 1 + 1 + 1 + 1 + 1 + 1 + 1 + 1),.int .i64 (k + 1 + 1 + 1 + 1 + 1 + 1 + 1 + 1 + 1 + 1 + 1 + 1),.int .i64 (k + 1 + 1 + 1 + 1 + 1 + 1 + 1 + 1 + 1 + 1 + 1 + 1 + 1),.int .i64 (k + 1 + 1 + 1 + 1 + 1 + 1 + 1 + 1 + 1 + 1 + 1 + 1 + 1 + 1),.int .i64 (k + 1 + 1 + 1 + 1 + 1 + 1 + 1 + 1 + 1 + 1 + 1 + 1 + 1 + 1 + 1),.bool ((k + 1 + 1 + 1 + 1 + 1 + 1 + 1 + 1 + 1 + 1 + 1 + 1 + 1 + 1 + 1 + 1).tmod 3 == 0),.int .i64 (k + 1 + 1 + 1 + 1 + 1 + 1 + 1 + 1 + 1 + 1 + 1 + 1 + 1 + 1 + 1 + 1 + 1),.int .i64 (k + 1 + 1 + 1 + 1 + 1 + 1 + 1 + 1 + 1 + 1 + 1 + 1 + 1 + 1 + 1 + 1 + 1 + 1),.int .i64 (k + 1 + 1 + 1 + 1 + 1 + 1 + 1 + 1 + 1 + 1 + 1 + 1 + 1 + 1 + 1 + 1 + 1 + 1 + 1),.int .i64 (k + 1 + 1 + 1 + 1 + 1 + 1 + 1 + 1 + 1 + 1 + 1 + 1 + 1 + 1 + 1 + 1 + 1 + 1 + 1 + 1)]
def mrkJobS:Int -> List Job -> List (List D)
 | _,[]=>[]
 | k,x :: l=>mrkJob k x :: mrkJobS (k + (21:Nat)) l
theorem mrkJobS_len:∀ (l:List Job) (k:Int),(mrkJobS k l).length=l.length
 | [],_=>rfl
 | x :: l,k=>by rw [mrkJobS,List.length_cons,List.length_cons,mrkJobS_len l]
theorem c92_e (l:List Job) (k:Int) (hk0:0 <= k) (hk:k + 21 * (l.length:Int) <= 4611686018427387904):Ctr prog 92 [.one (.own 0),.one (.dat (.int .i64 k))] [.vec 21 true (l.map encJob)] (.one (.dat (.int .i64 (k + 21 * (l.length:Int))))) [.vec 21 true (mrkJobS k l)]:=by
 refine Ctr.of_body mixed func92 rfl (by kernel_rfl) (Nat.le_of_ble_eq_true rfl) (by simp [AV.Clean,AV.Clean1,Leaf.Clean,D.flat]) (by simp [AObj.Sep]) (by simp) ?_ (by simp [AV.Low,AV.Low1,Leaf.Low]) ?_
 ·intro o ho
  have:o=0:=by simpa using ho
  subst this
  simp [Objs,Compat,mrkJobS_len]
 show wpA _ _ _ (FinQ _ _ _ _ _) _
 have hl:l.length <= 4611686018427387904:=by omega
 refine evl ?_
 refine LoopK_intro (fun zn zs=>∃ (i:Nat) (A:List (List D)) (kk:Int),i <= l.length /\ zn=l.length - i /\ (A.length=i /\ mrkJobS k l=A ++ mrkJobS kk (l.drop i) /\ 0 <= kk /\ kk + 21 * ((l.drop i).length:Int)=k + 21 * (l.length:Int)) /\ zs=mkSt [(5,.one (.dat (.int .i64 i))),(1,.one (.dat (.int .i64 kk))),(0,.one (.own 0))] [.vec 21 true (A ++ (l.drop i).map encJob)]) l.length _
  (Ent.wk [0]) ⟨0,[],k,by omega,by omega,⟨rfl,rfl,hk0,rfl⟩,rfl⟩ ?_
 rintro zn zs ⟨i,A,kk,hi,rfl,⟨hA,hR2,hk1,hk2⟩,rfl⟩ K hK
 rcases Nat.lt_or_ge i l.length with hlt | hge
 ·have hd:decide ((i:Int) < ((l.length:Nat):Int))=true:=decide_eq_true (by omega)
  have hw:=wrap_succ hlt (show l.length <= maxLen by unfold maxLen;omega)
  rw [List.drop_eq_getElem_cons hlt] at hk2 hR2 ⊢
  rw [List.map_cons]
  generalize l[i]=x at hk2 hR2 ⊢
  rw [List.length_cons] at hk2
  rw [mrkJobS] at hR2
  have hBl:((l.drop (i + 1)).map encJob).length=l.length - (i + 1):=by simp
  have hl1:∀ y,(A ++ y :: (l.drop (i + 1)).map encJob).length=l.length:=fun y=>by rw [List.length_append,List.length_cons,hBl];omega
  obtain ⟨k1,hk1e⟩:∃ z,z=kk + 1:=⟨_,rfl⟩
  have hw1:IntKind.i64.wrap (kk + 1)=k1:=by rw [hk1e,IntKind.wrap_i64];omega
  obtain ⟨k2,hk2e⟩:∃ z,z=k1 + 1:=⟨_,rfl⟩
  have hw2:IntKind.i64.wrap (k1 + 1)=k2:=by rw [hk2e,IntKind.wrap_i64];omega
  obtain ⟨k3,hk3e⟩:∃ z,z=k2 + 1:=⟨_,rfl⟩
  have hw3:IntKind.i64.wrap (k2 + 1)=k3:=by rw [hk3e,IntKind.wrap_i64];omega
  obtain ⟨k4,hk4e⟩:∃ z,z=k3 + 1:=⟨_,rfl⟩
  have hw4:IntKind.i64.wrap (k3 + 1)=k4:=by rw [hk4e,IntKind.wrap_i64];omega
  obtain ⟨k5,hk5e⟩:∃ z,z=k4 + 1:=⟨_,rfl⟩
  have hw5:IntKind.i64.wrap (k4 + 1)=k5:=by rw [hk5e,IntKind.wrap_i64];omega
  obtain ⟨k6,hk6e⟩:∃ z,z=k5 + 1:=⟨_,rfl⟩
  have hw6:IntKind.i64.wrap (k5 + 1)=k6:=by rw [hk6e,IntKind.wrap_i64];omega
  obtain ⟨k7,hk7e⟩:∃ z,z=k6 + 1:=⟨_,rfl⟩
  have hw7:IntKind.i64.wrap (k6 + 1)=k7:=by rw [hk7e,IntKind.wrap_i64];omega
  obtain ⟨k8,hk8e⟩:∃ z,z=k7 + 1:=⟨_,rfl⟩
  have hw8:IntKind.i64.wrap (k7 + 1)=k8:=by rw [hk8e,IntKind.wrap_i64];omega
  obtain ⟨k9,hk9e⟩:∃ z,z=k8 + 1:=⟨_,rfl⟩
  have hw9:IntKind.i64.wrap (k8 + 1)=k9:=by rw [hk9e,IntKind.wrap_i64];omega
  obtain ⟨k10,hk10e⟩:∃ z,z=k9 + 1:=⟨_,rfl⟩
  have hw10:IntKind.i64.wrap (k9 + 1)=k10:=by rw [hk10e,IntKind.wrap_i64];omega
  obtain ⟨k11,hk11e⟩:∃ z,z=k10 + 1:=⟨_,rfl⟩
  have hw11:IntKind.i64.wrap (k10 + 1)=k11:=by rw [hk11e,IntKind.wrap_i64];omega
  obtain ⟨k12,hk12e⟩:∃ z,z=k11 + 1:=⟨_,rfl⟩
  have hw12:IntKind.i64.wrap (k11 + 1)=k12:=by rw [hk12e,IntKind.wrap_i64];omega
  obtain ⟨k13,hk13e⟩:∃ z,z=k12 + 1:=⟨_,rfl⟩
  have hw13:IntKind.i64.wrap (k12 + 1)=k13:=by rw [hk13e,IntKind.wrap_i64];omega
  obtain ⟨k14,hk14e⟩:∃ z,z=k13 + 1:=⟨_,rfl⟩
  have hw14:IntKind.i64.wrap (k13 + 1)=k14:=by rw [hk14e,IntKind.wrap_i64];omega
  obtain ⟨k15,hk15e⟩:∃ z,z=k14 + 1:=⟨_,rfl⟩
  have hw15:IntKind.i64.wrap (k14 + 1)=k15:=by rw [hk15e,IntKind.wrap_i64];omega
  obtain ⟨k16,hk16e⟩:∃ z,z=k15 + 1:=⟨_,rfl⟩
  have hw16:IntKind.i64.wrap (k15 + 1)=k16:=by rw [hk16e,IntKind.wrap_i64];omega
  obtain ⟨k17,hk17e⟩:∃ z,z=k16 + 1:=⟨_,rfl⟩
  have hw17:IntKind.i64.wrap (k16 + 1)=k17:=by rw [hk17e,IntKind.wrap_i64];omega
  obtain ⟨k18,hk18e⟩:∃ z,z=k17 + 1:=⟨_,rfl⟩
  have hw18:IntKind.i64.wrap (k17 + 1)=k18:=by rw [hk18e,IntKind.wrap_i64];omega
  obtain ⟨k19,hk19e⟩:∃ z,z=k18 + 1:=⟨_,rfl⟩
  have hw19:IntKind.i64.wrap (k18 + 1)=k19:=by rw [hk19e,IntKind.wrap_i64];omega
  obtain ⟨k20,hk20e⟩:∃ z,z=k19 + 1:=⟨_,rfl⟩
  have hw20:IntKind.i64.wrap (k19 + 1)=k20:=by rw [hk20e,IntKind.wrap_i64];omega
  obtain ⟨k21,hk21e⟩:∃ z,z=k20 + 1:=⟨_,rfl⟩
  have hw21:IntKind.i64.wrap (k20 + 1)=k21:=by rw [hk21e,IntKind.wrap_i64];omega
  have hrow:mrkJob kk x=[.bool ((kk).tmod 3 == 0),.int .i64 (k1),.int .i64 (k2),.int .i64 (k3),.int .i64 (k4),.int .i64 (k5),.int .i64 (k6),.int .i64 (k7),.int .i64 (k8),.int .i64 (k9),.int .i64 (k10),.int .i64 (k11),.int .i64 (k12),.int .i64 (k13),.int .i64 (k14),.int .i64 (k15),.bool ((k16).tmod 3 == 0),.int .i64 (k17),.int .i64 (k18),.int .i64 (k19),.int .i64 (k20)]:=by subst hk1e hk2e hk3e hk4e hk5e hk6e hk7e hk8e hk9e hk10e hk11e hk12e hk13e hk14e hk15e hk16e hk17e hk18e hk19e hk20e hk21e;rfl
  have hEE:kk + ((21:Nat):Int)=k21:=by omega
  rw [hrow,hEE] at hR2
  simp (maxSteps:=2000000) only [go_sem,seval,hl1,hd,set_mid hA,getD_mid hA,encJob,hw,D.flat,hw1,hw2,hw3,hw4,hw5,hw6,hw7,hw8,hw9,hw10,hw11,hw12,hw13,hw14,hw15,hw16,hw17,hw18,hw19,hw20,hw21]
  refine scs ?_
  apply hK
  refine ⟨l.length - (i + 1),_,by omega,?_,i + 1,A ++ [[.bool ((kk).tmod 3 == 0),.int .i64 (k1),.int .i64 (k2),.int .i64 (k3),.int .i64 (k4),.int .i64 (k5),.int .i64 (k6),.int .i64 (k7),.int .i64 (k8),.int .i64 (k9),.int .i64 (k10),.int .i64 (k11),.int .i64 (k12),.int .i64 (k13),.int .i64 (k14),.int .i64 (k15),.bool ((k16).tmod 3 == 0),.int .i64 (k17),.int .i64 (k18),.int .i64 (k19),.int .i64 (k20)]],k21,by omega,rfl,⟨by simp [hA],by rw [hR2,List.append_assoc];rfl,by omega,by omega⟩,rfl⟩
  refine Ent.wk [0] (h4:=objsLe_one (Nat.zero_lt_succ _) ?_) (h5:=?_)
  ·show AObj.vec 21 true _=AObj.vec 21 true _
   rw [List.append_assoc]
   rfl
  ·simp [closeMd,St.setObj,envLe,find,AV.renF,AV.renF1,Leaf.renF,hw]
 ·have hge':i=l.length:=by omega
  subst hge'
  rw [List.drop_length] at hk2 hR2 ⊢
  rw [mrkJobS,List.append_nil] at hR2
  have hkk:kk=k + 21 * (l.length:Int):=by rw [<- hk2];simp
  have hd:decide (((l.length:Nat):Int) < ((l.length:Nat):Int))=false:=by simp
  rw [List.map_nil,List.append_nil]
  refine sv10 ?_
  apply hK
  refine evl ?_
  rw [hkk,hR2]
  refine Fin.nt results92 [0] ?_ ?_ ?_ <;> try trivial
  all_goals exact entd
theorem c97 (l:List Job) (k:Int) (hk0:0 <= k) (hk:k + 21 * (l.length:Int) <= 4611686018427387904):Ctr prog 97 [.one (.dat (.sl 21 (mrkJobS k l))),.one (.dat (.int .i64 k))] [] (.one (.dat (.int .i64 (k + 21 * (l.length:Int))))) []:=by
 obtain ⟨R,hR⟩:∃ R,R=mrkJobS k l:=⟨_,rfl⟩
 have hRl:R.length=l.length:=by rw [hR,mrkJobS_len]
 have hl:l.length <= 4611686018427387904:=by omega
 rw [<- hR]
 refine Ctr.bd mixed func97 rfl ?_
 refine evl ?_
 refine LoopK_intro (fun zn zs=>∃ (i:Nat) (A:List (List D)) (kk:Int),i <= l.length /\ zn=l.length - i /\ (A.length=i /\ R=A ++ mrkJobS kk (l.drop i) /\ 0 <= kk /\ kk + 21 * ((l.drop i).length:Int)=k + 21 * (l.length:Int)) /\ zs=mkSt [(5,.one (.dat (.int .i64 i))),(1,.one (.dat (.int .i64 kk))),(0,.one (.dat (.sl 21 R)))] []) l.length _
  (Ent.wk []) ⟨0,[],k,by omega,by omega,⟨rfl,hR,hk0,rfl⟩,rfl⟩ ?_
 rintro zn zs ⟨i,A,kk,hi,rfl,⟨hA,hR2,hk1,hk2⟩,rfl⟩ K hK
 rcases Nat.lt_or_ge i l.length with hlt | hge
 ·have hd:decide ((i:Int) < ((l.length:Nat):Int))=true:=decide_eq_true (by omega)
  have hw:=wrap_succ hlt (show l.length <= maxLen by unfold maxLen;omega)
  rw [List.drop_eq_getElem_cons hlt] at hk2 hR2
  generalize l[i]=x at hk2 hR2
  rw [List.length_cons] at hk2
  rw [mrkJobS] at hR2
  obtain ⟨k1,hk1e⟩:∃ z,z=kk + 1:=⟨_,rfl⟩
  have hw1:IntKind.i64.wrap (kk + 1)=k1:=by rw [hk1e,IntKind.wrap_i64];omega
  obtain ⟨k2,hk2e⟩:∃ z,z=k1 + 1:=⟨_,rfl⟩
  have hw2:IntKind.i64.wrap (k1 + 1)=k2:=by rw [hk2e,IntKind.wrap_i64];omega
  obtain ⟨k3,hk3e⟩:∃ z,z=k2 + 1:=⟨_,rfl⟩
  have hw3:IntKind.i64.wrap (k2 + 1)=k3:=by rw [hk3e,IntKind.wrap_i64];omega
  obtain ⟨k4,hk4e⟩:∃ z,z=k3 + 1:=⟨_,rfl⟩
  have hw4:IntKind.i64.wrap (k3 + 1)=k4:=by rw [hk4e,IntKind.wrap_i64];omega
  obtain ⟨k5,hk5e⟩:∃ z,z=k4 + 1:=⟨_,rfl⟩
  have hw5:IntKind.i64.wrap (k4 + 1)=k5:=by rw [hk5e,IntKind.wrap_i64];omega
  obtain ⟨k6,hk6e⟩:∃ z,z=k5 + 1:=⟨_,rfl⟩
  have hw6:IntKind.i64.wrap (k5 + 1)=k6:=by rw [hk6e,IntKind.wrap_i64];omega
  obtain ⟨k7,hk7e⟩:∃ z,z=k6 + 1:=⟨_,rfl⟩
  have hw7:IntKind.i64.wrap (k6 + 1)=k7:=by rw [hk7e,IntKind.wrap_i64];omega
  obtain ⟨k8,hk8e⟩:∃ z,z=k7 + 1:=⟨_,rfl⟩
  have hw8:IntKind.i64.wrap (k7 + 1)=k8:=by rw [hk8e,IntKind.wrap_i64];omega
  obtain ⟨k9,hk9e⟩:∃ z,z=k8 + 1:=⟨_,rfl⟩
  have hw9:IntKind.i64.wrap (k8 + 1)=k9:=by rw [hk9e,IntKind.wrap_i64];omega
  obtain ⟨k10,hk10e⟩:∃ z,z=k9 + 1:=⟨_,rfl⟩
  have hw10:IntKind.i64.wrap (k9 + 1)=k10:=by rw [hk10e,IntKind.wrap_i64];omega
  obtain ⟨k11,hk11e⟩:∃ z,z=k10 + 1:=⟨_,rfl⟩
  have hw11:IntKind.i64.wrap (k10 + 1)=k11:=by rw [hk11e,IntKind.wrap_i64];omega
  obtain ⟨k12,hk12e⟩:∃ z,z=k11 + 1:=⟨_,rfl⟩
  have hw12:IntKind.i64.wrap (k11 + 1)=k12:=by rw [hk12e,IntKind.wrap_i64];omega
  obtain ⟨k13,hk13e⟩:∃ z,z=k12 + 1:=⟨_,rfl⟩
  have hw13:IntKind.i64.wrap (k12 + 1)=k13:=by rw [hk13e,IntKind.wrap_i64];omega
  obtain ⟨k14,hk14e⟩:∃ z,z=k13 + 1:=⟨_,rfl⟩
  have hw14:IntKind.i64.wrap (k13 + 1)=k14:=by rw [hk14e,IntKind.wrap_i64];omega
  obtain ⟨k15,hk15e⟩:∃ z,z=k14 + 1:=⟨_,rfl⟩
  have hw15:IntKind.i64.wrap (k14 + 1)=k15:=by rw [hk15e,IntKind.wrap_i64];omega
  obtain ⟨k16,hk16e⟩:∃ z,z=k15 + 1:=⟨_,rfl⟩
  have hw16:IntKind.i64.wrap (k15 + 1)=k16:=by rw [hk16e,IntKind.wrap_i64];omega
  obtain ⟨k17,hk17e⟩:∃ z,z=k16 + 1:=⟨_,rfl⟩
  have hw17:IntKind.i64.wrap (k16 + 1)=k17:=by rw [hk17e,IntKind.wrap_i64];omega
  obtain ⟨k18,hk18e⟩:∃ z,z=k17 + 1:=⟨_,rfl⟩
  have hw18:IntKind.i64.wrap (k17 + 1)=k18:=by rw [hk18e,IntKind.wrap_i64];omega
  obtain ⟨k19,hk19e⟩:∃ z,z=k18 + 1:=⟨_,rfl⟩
  have hw19:IntKind.i64.wrap (k18 + 1)=k19:=by rw [hk19e,IntKind.wrap_i64];omega
  obtain ⟨k20,hk20e⟩:∃ z,z=k19 + 1:=⟨_,rfl⟩
  have hw20:IntKind.i64.wrap (k19 + 1)=k20:=by rw [hk20e,IntKind.wrap_i64];omega
  obtain ⟨k21,hk21e⟩:∃ z,z=k20 + 1:=⟨_,rfl⟩
  have hw21:IntKind.i64.wrap (k20 + 1)=k21:=by rw [hk21e,IntKind.wrap_i64];omega
  have hrow:mrkJob kk x=[.bool ((kk).tmod 3 == 0),.int .i64 (k1),.int .i64 (k2),.int .i64 (k3),.int .i64 (k4),.int .i64 (k5),.int .i64 (k6),.int .i64 (k7),.int .i64 (k8),.int .i64 (k9),.int .i64 (k10),.int .i64 (k11),.int .i64 (k12),.int .i64 (k13),.int .i64 (k14),.int .i64 (k15),.bool ((k16).tmod 3 == 0),.int .i64 (k17),.int .i64 (k18),.int .i64 (k19),.int .i64 (k20)]:=by subst hk1e hk2e hk3e hk4e hk5e hk6e hk7e hk8e hk9e hk10e hk11e hk12e hk13e hk14e hk15e hk16e hk17e hk18e hk19e hk20e hk21e;rfl
  have hEE:kk + ((21:Nat):Int)=k21:=by omega
  rw [hrow,hEE] at hR2
  have hg:R.getD i []=[.bool ((kk).tmod 3 == 0),.int .i64 (k1),.int .i64 (k2),.int .i64 (k3),.int .i64 (k4),.int .i64 (k5),.int .i64 (k6),.int .i64 (k7),.int .i64 (k8),.int .i64 (k9),.int .i64 (k10),.int .i64 (k11),.int .i64 (k12),.int .i64 (k13),.int .i64 (k14),.int .i64 (k15),.bool ((k16).tmod 3 == 0),.int .i64 (k17),.int .i64 (k18),.int .i64 (k19),.int .i64 (k20)]:=by rw [hR2,getD_mid hA]
  simp (maxSteps:=2000000) only [go_sem,seval,hRl,hd,hg,hw,bne_self_eq_false,hw1,hw2,hw3,hw4,hw5,hw6,hw7,hw8,hw9,hw10,hw11,hw12,hw13,hw14,hw15,hw16,hw17,hw18,hw19,hw20,hw21]
  refine scs ?_
  apply hK
  exact ⟨l.length - (i + 1),_,by omega,Ent.wk [],i + 1,A ++ [[.bool ((kk).tmod 3 == 0),.int .i64 (k1),.int .i64 (k2),.int .i64 (k3),.int .i64 (k4),.int .i64 (k5),.int .i64 (k6),.int .i64 (k7),.int .i64 (k8),.int .i64 (k9),.int .i64 (k10),.int .i64 (k11),.int .i64 (k12),.int .i64 (k13),.int .i64 (k14),.int .i64 (k15),.bool ((k16).tmod 3 == 0),.int .i64 (k17),.int .i64 (k18),.int .i64 (k19),.int .i64 (k20)]],k21,by omega,rfl,⟨by simp [hA],by rw [hR2,List.append_assoc];rfl,by omega,by omega⟩,rfl⟩
 ·have hge':i=l.length:=by omega
  subst hge'
  rw [List.drop_length] at hk2
  have hkk:kk=k + 21 * (l.length:Int):=by rw [<- hk2];simp
  have hd:decide (((l.length:Nat):Int) < ((l.length:Nat):Int))=false:=by simp
  refine sv11 ?_
  apply hK
  refine evl ?_
  rw [hkk]
  refine Fin.nt results97 [] ?_ ?_ ?_ <;> try trivial
def mrkLList (k:Int) (x:LList):List D:=[.sl 2 (markLRows k x.Rows.length)]
def mrkLListS:Int -> List LList -> List (List D)
 | _,[]=>[]
 | k,x :: l=>mrkLList k x :: mrkLListS (k + (cntLList x:Nat)) l
theorem mrkLListS_len:∀ (l:List LList) (k:Int),(mrkLListS k l).length=l.length
 | [],_=>rfl
 | x :: l,k=>by rw [mrkLListS,List.length_cons,List.length_cons,mrkLListS_len l]
theorem c180_e (l:List LList) (hl:l.length <= 1048576) (hq:∀ x ∈ l,x.sok) (k:Int) (hk0:0 <= k) (hk:k + (cntLListS l:Int) <= 4611686018427387904):Ctr prog 180 [.one (.own 0),.one (.dat (.int .i64 k))] [.vec 1 true (l.map encLList)] (.one (.dat (.int .i64 (k + (cntLListS l:Int))))) [.vec 1 true (mrkLListS k l)]:=by
 refine Ctr.of_body mixed func180 rfl (by kernel_rfl) (Nat.le_of_ble_eq_true rfl) (by simp [AV.Clean,AV.Clean1,Leaf.Clean,D.flat]) (by simp [AObj.Sep]) (by simp) ?_ (by simp [AV.Low,AV.Low1,Leaf.Low]) ?_
 ·intro o ho
  have:o=0:=by simpa using ho
  subst this
  simp [Objs,Compat,mrkLListS_len]
 show wpA _ _ _ (FinQ _ _ _ _ _) _
 refine evl ?_
 refine LoopK_intro (fun zn zs=>∃ (i:Nat) (A:List (List D)) (kk:Int),i <= l.length /\ zn=l.length - i /\ (A.length=i /\ mrkLListS k l=A ++ mrkLListS kk (l.drop i) /\ 0 <= kk /\ kk + (cntLListS (l.drop i):Int)=k + (cntLListS l:Int)) /\ zs=mkSt [(5,.one (.dat (.int .i64 i))),(1,.one (.dat (.int .i64 kk))),(0,.one (.own 0))] [.vec 1 true (A ++ (l.drop i).map encLList)]) l.length _
  (Ent.wk [0]) ⟨0,[],k,by omega,by omega,⟨rfl,rfl,hk0,rfl⟩,rfl⟩ ?_
 rintro zn zs ⟨i,A,kk,hi,rfl,⟨hA,hR2,hk1,hk2⟩,rfl⟩ K hK
 rcases Nat.lt_or_ge i l.length with hlt | hge
 ·have hd:decide ((i:Int) < ((l.length:Nat):Int))=true:=decide_eq_true (by omega)
  have hw:=wrap_succ hlt (show l.length <= maxLen by unfold maxLen;omega)
  have hqx:=hq l[i] (List.getElem_mem hlt)
  rw [List.drop_eq_getElem_cons hlt] at hk2 hR2 ⊢
  rw [List.map_cons]
  generalize l[i]=x at hk2 hR2 hqx ⊢
  obtain ⟨q0,_⟩:=hqx
  rw [cntLListS_cons] at hk2
  have hcx:cntLList x=2 * x.Rows.length:=rfl
  rw [mrkLListS] at hR2
  have hBl:((l.drop (i + 1)).map encLList).length=l.length - (i + 1):=by simp
  have hl1:∀ y,(A ++ y :: (l.drop (i + 1)).map encLList).length=l.length:=fun y=>by rw [List.length_append,List.length_cons,hBl];omega
  have hrow:mrkLList kk x=[.sl 2 (markLRows kk x.Rows.length)]:=by rfl
  have hEE:kk + ((cntLList x:Nat):Int)=(kk + 2 * (x.Rows.length:Int)):=by omega
  rw [hrow,hEE] at hR2
  refine sv8 ?_
  refine scs ?_
  intro v0
  try (refine sv8 ?_)
  refine scs ?_
  refine CallK_os [1] e262 (by simp [osOk,St.obj,find]) (c262_e x.Rows (kk) (by omega) (by omega)) rfl ?_
  refine sv8 ?_
  refine scs ?_
  apply hK
  refine ⟨l.length - (i + 1),_,by omega,Ent.trans (closeMid (k:=0) (n:=1) (p:=2) (j:=0) (v:=v0) (s2:=2) (rs:=markLRows (kk) x.Rows.length) hA rfl (by decide) rfl rfl rfl (by decide)) (?_),i + 1,A ++ [[.sl 2 (markLRows kk x.Rows.length)]],(kk + 2 * (x.Rows.length:Int)),by omega,rfl,⟨by simp [hA],by rw [hR2,List.append_assoc];rfl,by omega,by omega⟩,rfl⟩
  refine Ent.wk [0] (h4:=objsLe_one (Nat.zero_lt_succ _) ?_) (h5:=?_)
  ·show AObj.vec 1 true _=AObj.vec 1 true _
   rw [List.append_assoc]
   rfl
  ·simp [closeMd,St.setObj,envLe,find,AV.renF,AV.renF1,Leaf.renF,hw]
 ·have hge':i=l.length:=by omega
  subst hge'
  rw [List.drop_length] at hk2 hR2 ⊢
  rw [mrkLListS,List.append_nil] at hR2
  have hkk:kk=k + (cntLListS l:Int):=by rw [<- hk2];simp [cntLListS]
  have hd:decide (((l.length:Nat):Int) < ((l.length:Nat):Int))=false:=by simp
  rw [List.map_nil,List.append_nil]
  refine sv10 ?_
  apply hK
  refine evl ?_
  rw [hkk,hR2]
  refine Fin.nt results180 [0] ?_ ?_ ?_ <;> try trivial
  all_goals exact entd
theorem c184 (l:List LList) (hl:l.length <= 1048576) (hq:∀ x ∈ l,x.sok) (k:Int) (hk0:0 <= k) (hk:k + (cntLListS l:Int) <= 4611686018427387904):Ctr prog 184 [.one (.dat (.sl 1 (mrkLListS k l))),.one (.dat (.int .i64 k))] [] (.one (.dat (.int .i64 (k + (cntLListS l:Int))))) []:=by
 obtain ⟨R,hR⟩:∃ R,R=mrkLListS k l:=⟨_,rfl⟩
 have hRl:R.length=l.length:=by rw [hR,mrkLListS_len]
 rw [<- hR]
 refine Ctr.bd mixed func184 rfl ?_
 refine evl ?_
 refine LoopK_intro (fun zn zs=>∃ (i:Nat) (A:List (List D)) (kk:Int),i <= l.length /\ zn=l.length - i /\ (A.length=i /\ R=A ++ mrkLListS kk (l.drop i) /\ 0 <= kk /\ kk + (cntLListS (l.drop i):Int)=k + (cntLListS l:Int)) /\ zs=mkSt [(5,.one (.dat (.int .i64 i))),(1,.one (.dat (.int .i64 kk))),(0,.one (.dat (.sl 1 R)))] []) l.length _
  (Ent.wk []) ⟨0,[],k,by omega,by omega,⟨rfl,hR,hk0,rfl⟩,rfl⟩ ?_
 rintro zn zs ⟨i,A,kk,hi,rfl,⟨hA,hR2,hk1,hk2⟩,rfl⟩ K hK
 rcases Nat.lt_or_ge i l.length with hlt | hge
 ·have hd:decide ((i:Int) < ((l.length:Nat):Int))=true:=decide_eq_true (by omega)
  have hw:=wrap_succ hlt (show l.length <= maxLen by unfold maxLen;omega)
  have hqx:=hq l[i] (List.getElem_mem hlt)
  rw [List.drop_eq_getElem_cons hlt] at hk2 hR2
  generalize l[i]=x at hk2 hR2 hqx
  obtain ⟨q0,_⟩:=hqx
  rw [cntLListS_cons] at hk2
  have hcx:cntLList x=2 * x.Rows.length:=rfl
  rw [mrkLListS] at hR2
  have hn1:decide ((kk + 2 * (x.Rows.length:Int)) < 0)=false:=decide_eq_false (by omega)
  have hrow:mrkLList kk x=[.sl 2 (markLRows kk x.Rows.length)]:=by rfl
  have hEE:kk + ((cntLList x:Nat):Int)=(kk + 2 * (x.Rows.length:Int)):=by omega
  rw [hrow,hEE] at hR2
  have hg:R.getD i []=[.sl 2 (markLRows kk x.Rows.length)]:=by rw [hR2,getD_mid hA]
  refine sv14 ?_
  refine scs ?_
  refine ck e266 (c266 x.Rows.length (kk) (by omega) (by omega)) rfl ?_
  refine sv14 ?_
  refine scs ?_
  apply hK
  exact ⟨l.length - (i + 1),_,by omega,Ent.wk [],i + 1,A ++ [[.sl 2 (markLRows kk x.Rows.length)]],(kk + 2 * (x.Rows.length:Int)),by omega,rfl,⟨by simp [hA],by rw [hR2,List.append_assoc];rfl,by omega,by omega⟩,rfl⟩
 ·have hge':i=l.length:=by omega
  subst hge'
  rw [List.drop_length] at hk2
  have hkk:kk=k + (cntLListS l:Int):=by rw [<- hk2];simp [cntLListS]
  have hd:decide (((l.length:Nat):Int) < ((l.length:Nat):Int))=false:=by simp
  refine sv11 ?_
  apply hK
  refine evl ?_
  rw [hkk]
  refine Fin.nt results184 [] ?_ ?_ ?_ <;> try trivial
def mrkQueue (k:Int) (x:Queue):List D:=[.sl 4 (markOps k x.Ops.length)]
def mrkQueueS:Int -> List Queue -> List (List D)
 | _,[]=>[]
 | k,x :: l=>mrkQueue k x :: mrkQueueS (k + (cntQueue x:Nat)) l
theorem mrkQueueS_len:∀ (l:List Queue) (k:Int),(mrkQueueS k l).length=l.length
 | [],_=>rfl
 | x :: l,k=>by rw [mrkQueueS,List.length_cons,List.length_cons,mrkQueueS_len l]
theorem c93_e (l:List Queue) (hl:l.length <= 1048576) (hq:∀ x ∈ l,x.sok) (k:Int) (hk0:0 <= k) (hk:k + (cntQueueS l:Int) <= 4611686018427387904):Ctr prog 93 [.one (.own 0),.one (.dat (.int .i64 k))] [.vec 1 true (l.map encQueue)] (.one (.dat (.int .i64 (k + (cntQueueS l:Int))))) [.vec 1 true (mrkQueueS k l)]:=by
 refine Ctr.of_body mixed func93 rfl (by kernel_rfl) (Nat.le_of_ble_eq_true rfl) (by simp [AV.Clean,AV.Clean1,Leaf.Clean,D.flat]) (by simp [AObj.Sep]) (by simp) ?_ (by simp [AV.Low,AV.Low1,Leaf.Low]) ?_
 ·intro o ho
  have:o=0:=by simpa using ho
  subst this
  simp [Objs,Compat,mrkQueueS_len]
 show wpA _ _ _ (FinQ _ _ _ _ _) _
 refine evl ?_
 refine LoopK_intro (fun zn zs=>∃ (i:Nat) (A:List (List D)) (kk:Int),i <= l.length /\ zn=l.length - i /\ (A.length=i /\ mrkQueueS k l=A ++ mrkQueueS kk (l.drop i) /\ 0 <= kk /\ kk + (cntQueueS (l.drop i):Int)=k + (cntQueueS l:Int)) /\ zs=mkSt [(5,.one (.dat (.int .i64 i))),(1,.one (.dat (.int .i64 kk))),(0,.one (.own 0))] [.vec 1 true (A ++ (l.drop i).map encQueue)]) l.length _
  (Ent.wk [0]) ⟨0,[],k,by omega,by omega,⟨rfl,rfl,hk0,rfl⟩,rfl⟩ ?_
 rintro zn zs ⟨i,A,kk,hi,rfl,⟨hA,hR2,hk1,hk2⟩,rfl⟩ K hK
 rcases Nat.lt_or_ge i l.length with hlt | hge
 ·have hd:decide ((i:Int) < ((l.length:Nat):Int))=true:=decide_eq_true (by omega)
  have hw:=wrap_succ hlt (show l.length <= maxLen by unfold maxLen;omega)
  have hqx:=hq l[i] (List.getElem_mem hlt)
  rw [List.drop_eq_getElem_cons hlt] at hk2 hR2 ⊢
  rw [List.map_cons]
  generalize l[i]=x at hk2 hR2 hqx ⊢
  obtain ⟨q0,_⟩:=hqx
  rw [cntQueueS_cons] at hk2
  have hcx:cntQueue x=4 * x.Ops.length:=rfl
  rw [mrkQueueS] at hR2
  have hBl:((l.drop (i + 1)).map encQueue).length=l.length - (i + 1):=by simp
  have hl1:∀ y,(A ++ y :: (l.drop (i + 1)).map encQueue).length=l.length:=fun y=>by rw [List.length_append,List.length_cons,hBl];omega
  have hrow:mrkQueue kk x=[.sl 4 (markOps kk x.Ops.length)]:=by rfl
  have hEE:kk + ((cntQueue x:Nat):Int)=(kk + 4 * (x.Ops.length:Int)):=by omega
  rw [hrow,hEE] at hR2
  refine sv9 ?_
  refine scs ?_
  intro v0
  try (refine sv9 ?_)
  refine scs ?_
  refine CallK_os [1] e181 (by simp [osOk,St.obj,find]) (c181_e x.Ops (kk) (by omega) (by omega)) rfl ?_
  refine sv9 ?_
  refine scs ?_
  apply hK
  refine ⟨l.length - (i + 1),_,by omega,Ent.trans (closeMid (k:=0) (n:=1) (p:=2) (j:=0) (v:=v0) (s2:=4) (rs:=markOps (kk) x.Ops.length) hA rfl (by decide) rfl rfl rfl (by decide)) (?_),i + 1,A ++ [[.sl 4 (markOps kk x.Ops.length)]],(kk + 4 * (x.Ops.length:Int)),by omega,rfl,⟨by simp [hA],by rw [hR2,List.append_assoc];rfl,by omega,by omega⟩,rfl⟩
  refine Ent.wk [0] (h4:=objsLe_one (Nat.zero_lt_succ _) ?_) (h5:=?_)
  ·show AObj.vec 1 true _=AObj.vec 1 true _
   rw [List.append_assoc]
   rfl
  ·simp [closeMd,St.setObj,envLe,find,AV.renF,AV.renF1,Leaf.renF,hw]
 ·have hge':i=l.length:=by omega
  subst hge'
  rw [List.drop_length] at hk2 hR2 ⊢
  rw [mrkQueueS,List.append_nil] at hR2
  have hkk:kk=k + (cntQueueS l:Int):=by rw [<- hk2];simp [cntQueueS]
  have hd:decide (((l.length:Nat):Int) < ((l.length:Nat):Int))=false:=by simp
  rw [List.map_nil,List.append_nil]
  refine sv10 ?_
  apply hK
  refine evl ?_
  rw [hkk,hR2]
  refine Fin.nt results93 [0] ?_ ?_ ?_ <;> try trivial
  all_goals exact entd
theorem c98 (l:List Queue) (hl:l.length <= 1048576) (hq:∀ x ∈ l,x.sok) (k:Int) (hk0:0 <= k) (hk:k + (cntQueueS l:Int) <= 4611686018427387904):Ctr prog 98 [.one (.dat (.sl 1 (mrkQueueS k l))),.one (.dat (.int .i64 k))] [] (.one (.dat (.int .i64 (k + (cntQueueS l:Int))))) []:=by
 obtain ⟨R,hR⟩:∃ R,R=mrkQueueS k l:=⟨_,rfl⟩
 have hRl:R.length=l.length:=by rw [hR,mrkQueueS_len]
 rw [<- hR]
 refine Ctr.bd mixed func98 rfl ?_
 refine evl ?_
 refine LoopK_intro (fun zn zs=>∃ (i:Nat) (A:List (List D)) (kk:Int),i <= l.length /\ zn=l.length - i /\ (A.length=i /\ R=A ++ mrkQueueS kk (l.drop i) /\ 0 <= kk /\ kk + (cntQueueS (l.drop i):Int)=k + (cntQueueS l:Int)) /\ zs=mkSt [(5,.one (.dat (.int .i64 i))),(1,.one (.dat (.int .i64 kk))),(0,.one (.dat (.sl 1 R)))] []) l.length _
  (Ent.wk []) ⟨0,[],k,by omega,by omega,⟨rfl,hR,hk0,rfl⟩,rfl⟩ ?_
 rintro zn zs ⟨i,A,kk,hi,rfl,⟨hA,hR2,hk1,hk2⟩,rfl⟩ K hK
 rcases Nat.lt_or_ge i l.length with hlt | hge
 ·have hd:decide ((i:Int) < ((l.length:Nat):Int))=true:=decide_eq_true (by omega)
  have hw:=wrap_succ hlt (show l.length <= maxLen by unfold maxLen;omega)
  have hqx:=hq l[i] (List.getElem_mem hlt)
  rw [List.drop_eq_getElem_cons hlt] at hk2 hR2
  generalize l[i]=x at hk2 hR2 hqx
  obtain ⟨q0,_⟩:=hqx
  rw [cntQueueS_cons] at hk2
  have hcx:cntQueue x=4 * x.Ops.length:=rfl
  rw [mrkQueueS] at hR2
  have hn1:decide ((kk + 4 * (x.Ops.length:Int)) < 0)=false:=decide_eq_false (by omega)
  have hrow:mrkQueue kk x=[.sl 4 (markOps kk x.Ops.length)]:=by rfl
  have hEE:kk + ((cntQueue x:Nat):Int)=(kk + 4 * (x.Ops.length:Int)):=by omega
  rw [hrow,hEE] at hR2
  have hg:R.getD i []=[.sl 4 (markOps kk x.Ops.length)]:=by rw [hR2,getD_mid hA]
  refine sv14 ?_
  refine scs ?_
  refine ck e185 (c185 x.Ops.length (kk) (by omega) (by omega)) rfl ?_
  refine sv14 ?_
  refine scs ?_
  apply hK
  exact ⟨l.length - (i + 1),_,by omega,Ent.wk [],i + 1,A ++ [[.sl 4 (markOps kk x.Ops.length)]],(kk + 4 * (x.Ops.length:Int)),by omega,rfl,⟨by simp [hA],by rw [hR2,List.append_assoc];rfl,by omega,by omega⟩,rfl⟩
 ·have hge':i=l.length:=by omega
  subst hge'
  rw [List.drop_length] at hk2
  have hkk:kk=k + (cntQueueS l:Int):=by rw [<- hk2];simp [cntQueueS]
  have hd:decide (((l.length:Nat):Int) < ((l.length:Nat):Int))=false:=by simp
  refine sv11 ?_
  apply hK
  refine evl ?_
  rw [hkk]
  refine Fin.nt results98 [] ?_ ?_ ?_ <;> try trivial
theorem c179_e (x:Clock) (hx:x.sok) (k:Int) (hk0:0 <= k) (hk:k + (mcClock x:Int) <= 4611686018427387904):Ctr prog 179 [.agg [.dat (.int .i64 x.Epoch),.own 0],.one (.dat (.int .i64 k))] [.vec 4 true (x.Pins.map encPin)] (.one (.dat (.int .i64 (k + (mcClock x:Int))))) [.vec 4 true (markPins k x.Pins.length)]:=by
 have hmc:mcClock x=4 * x.Pins.length:=rfl
 obtain ⟨q0,_⟩:=hx
 refine Ctr.of_body mixed func179 rfl (by kernel_rfl) (Nat.le_of_ble_eq_true rfl) (by simp [AV.Clean,AV.Clean1,Leaf.Clean,D.flat]) (by simp [AObj.Sep]) (by simp) ?_ (by simp [AV.Low,AV.Low1,Leaf.Low]) ?_
 ·intro o ho
  have:o=0:=by have:o < 1:=ho;omega
  rcases this with rfl <;> simp [Objs,Compat,markPins_length]
 show wpA _ _ _ (FinQ _ _ _ _ _) _
 refine evl ?_
 refine scs ?_
 refine CallK_os [0] e261 (by simp [osOk,St.obj,find]) (c261 x.Pins (k) (by omega) (by omega)) rfl ?_
 refine evl ?_
 rw [show (k + 4 * (x.Pins.length:Int))=k + (mcClock x:Int) by omega]
 refine Fin.nt results179 [0] ?_ ?_ ?_ <;> try trivial
 all_goals exact entd
theorem c183 (x:Clock) (hx:x.sok) (k:Int) (hk0:0 <= k) (hk:k + (mcClock x:Int) <= 4611686018427387904):Ctr prog 183 [.agg [.dat (.int .i64 x.Epoch),.dat (.sl 4 (markPins k x.Pins.length))],.one (.dat (.int .i64 k))] [] (.one (.dat (.int .i64 (k + (mcClock x:Int))))) []:=by
 have hmc:mcClock x=4 * x.Pins.length:=rfl
 obtain ⟨q0,_⟩:=hx
 refine Ctr.bd mixed func183 rfl ?_
 refine evl ?_
 refine scs ?_
 refine ck e265 (c265 x.Pins.length (k) (by omega) (by omega)) rfl ?_
 have hn0:decide ((k + 4 * (x.Pins.length:Int)) < 0)=false:=decide_eq_false (by omega)
 refine sv15 ?_
 rw [show (k + 4 * (x.Pins.length:Int))=k + (mcClock x:Int) by omega]
 refine Fin.nt results183 [] ?_ ?_ ?_ <;> try trivial
theorem c90_e (x:Base) (hx:x.sok) (k:Int) (hk0:0 <= k) (hk:k + (mcBase x:Int) <= 4611686018427387904):Ctr prog 90 [.agg [.own 0,.own 1,.own 2,.own 3,.dat (.int .i64 x.Clock.Epoch),.own 4,.own 5,.own 6],.one (.dat (.int .i64 k))] [.vec 1 true (x.Mem.Heap.Bytes.map encI),.vec 1 true (x.Mem.Heap.Class.map encI),.vec 1 true (x.Mem.Lists.Global.map encSList),.vec 1 true (x.Mem.Lists.Own.map encSList),.vec 4 true (x.Clock.Pins.map encPin),.vec 1 true (x.Limbo.map encLList),.vec 1 true (x.Haz.map encI)] (.one (.dat (.int .i64 (k + (mcBase x:Int))))) [.vec 1 true (markInts k x.Mem.Heap.Bytes.length),.vec 1 true (markInts (k + 1 * (x.Mem.Heap.Bytes.length:Int)) x.Mem.Heap.Class.length),.vec 1 true (mrkSListS (k + (mcHeap x.Mem.Heap:Int)) x.Mem.Lists.Global),.vec 1 true (mrkSListS ((k + (mcHeap x.Mem.Heap:Int)) + (cntSListS x.Mem.Lists.Global:Int)) x.Mem.Lists.Own),.vec 4 true (markPins (k + (mcMem x.Mem:Int)) x.Clock.Pins.length),.vec 1 true (mrkLListS ((k + (mcMem x.Mem:Int)) + (mcClock x.Clock:Int)) x.Limbo),.vec 1 true (markInts (((k + (mcMem x.Mem:Int)) + (mcClock x.Clock:Int)) + (cntLListS x.Limbo:Int)) x.Haz.length)]:=by
 have hmc:mcBase x=mcMem x.Mem + mcClock x.Clock + cntLListS x.Limbo + 1 * x.Haz.length:=rfl
 obtain ⟨q0,q1,q2,q3,q4,_⟩:=hx
 refine Ctr.of_body mixed func90 rfl (by kernel_rfl) (Nat.le_of_ble_eq_true rfl) (by simp [AV.Clean,AV.Clean1,Leaf.Clean,D.flat]) (by simp [AObj.Sep]) (by simp) ?_ (by simp [AV.Low,AV.Low1,Leaf.Low]) ?_
 ·intro o ho
  have:o=0 \/ o=1 \/ o=2 \/ o=3 \/ o=4 \/ o=5 \/ o=6:=by have:o < 7:=ho;omega
  rcases this with rfl | rfl | rfl | rfl | rfl | rfl | rfl <;> simp [Objs,Compat,markInts_len,markPins_length,mrkLListS_len,mrkSListS_len]
 show wpA _ _ _ (FinQ _ _ _ _ _) _
 refine evl ?_
 refine scs ?_
 refine CallK_os [0,1,2,3] e178 (by simp [osOk,St.obj,find]) (c178_e x.Mem q0 (k) (by omega) (by omega)) rfl ?_
 refine evl ?_
 refine scs ?_
 refine CallK_os [4] e179 (by simp [osOk,St.obj,find]) (c179_e x.Clock q1 ((k + (mcMem x.Mem:Int))) (by omega) (by omega)) rfl ?_
 refine evl ?_
 refine scs ?_
 refine CallK_os [5] e180 (by simp [osOk,St.obj,find]) (c180_e x.Limbo q2 q3 (((k + (mcMem x.Mem:Int)) + (mcClock x.Clock:Int))) (by omega) (by omega)) rfl ?_
 refine evl ?_
 refine scs ?_
 refine CallK_os [6] e91 (by simp [osOk,St.obj,find]) (c91 x.Haz ((((k + (mcMem x.Mem:Int)) + (mcClock x.Clock:Int)) + (cntLListS x.Limbo:Int))) (by omega) (by omega)) rfl ?_
 refine evl ?_
 rw [show ((((k + (mcMem x.Mem:Int)) + (mcClock x.Clock:Int)) + (cntLListS x.Limbo:Int)) + 1 * (x.Haz.length:Int))=k + (mcBase x:Int) by omega]
 refine Fin.nt results90 [0,1,2,3,4,5,6] ?_ ?_ ?_ <;> try trivial
 all_goals exact entd
theorem c95 (x:Base) (hx:x.sok) (k:Int) (hk0:0 <= k) (hk:k + (mcBase x:Int) <= 4611686018427387904):Ctr prog 95 [.agg [.dat (.sl 1 (markInts k x.Mem.Heap.Bytes.length)),.dat (.sl 1 (markInts (k + 1 * (x.Mem.Heap.Bytes.length:Int)) x.Mem.Heap.Class.length)),.dat (.sl 1 (mrkSListS (k + (mcHeap x.Mem.Heap:Int)) x.Mem.Lists.Global)),.dat (.sl 1 (mrkSListS ((k + (mcHeap x.Mem.Heap:Int)) + (cntSListS x.Mem.Lists.Global:Int)) x.Mem.Lists.Own)),.dat (.int .i64 x.Clock.Epoch),.dat (.sl 4 (markPins (k + (mcMem x.Mem:Int)) x.Clock.Pins.length)),.dat (.sl 1 (mrkLListS ((k + (mcMem x.Mem:Int)) + (mcClock x.Clock:Int)) x.Limbo)),.dat (.sl 1 (markInts (((k + (mcMem x.Mem:Int)) + (mcClock x.Clock:Int)) + (cntLListS x.Limbo:Int)) x.Haz.length))],.one (.dat (.int .i64 k))] [] (.one (.dat (.int .i64 (k + (mcBase x:Int))))) []:=by
 have hmc:mcBase x=mcMem x.Mem + mcClock x.Clock + cntLListS x.Limbo + 1 * x.Haz.length:=rfl
 obtain ⟨q0,q1,q2,q3,q4,_⟩:=hx
 refine Ctr.bd mixed func95 rfl ?_
 refine evl ?_
 refine scs ?_
 refine ck e182 (c182 x.Mem q0 (k) (by omega) (by omega)) rfl ?_
 have hn0:decide ((k + (mcMem x.Mem:Int)) < 0)=false:=decide_eq_false (by omega)
 refine sv15 ?_
 refine scs ?_
 refine ck e183 (c183 x.Clock q1 ((k + (mcMem x.Mem:Int))) (by omega) (by omega)) rfl ?_
 have hn1:decide (((k + (mcMem x.Mem:Int)) + (mcClock x.Clock:Int)) < 0)=false:=decide_eq_false (by omega)
 refine sv12 ?_
 refine scs ?_
 refine ck e184 (c184 x.Limbo q2 q3 (((k + (mcMem x.Mem:Int)) + (mcClock x.Clock:Int))) (by omega) (by omega)) rfl ?_
 have hn2:decide ((((k + (mcMem x.Mem:Int)) + (mcClock x.Clock:Int)) + (cntLListS x.Limbo:Int)) < 0)=false:=decide_eq_false (by omega)
 refine sv13 ?_
 refine scs ?_
 refine ck e96 (c96 x.Haz.length ((((k + (mcMem x.Mem:Int)) + (mcClock x.Clock:Int)) + (cntLListS x.Limbo:Int))) (by omega) (by omega)) rfl ?_
 have hn3:decide (((((k + (mcMem x.Mem:Int)) + (mcClock x.Clock:Int)) + (cntLListS x.Limbo:Int)) + 1 * (x.Haz.length:Int)) < 0)=false:=decide_eq_false (by omega)
 simp (maxSteps:=2000000) only [go_sem,seval,hn3]
 rw [show ((((k + (mcMem x.Mem:Int)) + (mcClock x.Clock:Int)) + (cntLListS x.Limbo:Int)) + 1 * (x.Haz.length:Int))=k + (mcBase x:Int) by omega]
 refine Fin.nt results95 [] ?_ ?_ ?_ <;> try trivial
theorem c33_e (x:Shelf) (hx:x.sok) (k:Int) (hk0:0 <= k) (hk:k + (mcShelf x:Int) <= 4611686018427387904):Ctr prog 33 [.agg [.own 0,.own 1,.own 2,.own 3,.dat (.int .i64 x.Base.Clock.Epoch),.own 4,.own 5,.own 6,.own 7,.own 8,.own 9,.own 10,.dat (.int .i64 x.Serial)],.one (.dat (.int .i64 k))] [.vec 1 true (x.Base.Mem.Heap.Bytes.map encI),.vec 1 true (x.Base.Mem.Heap.Class.map encI),.vec 1 true (x.Base.Mem.Lists.Global.map encSList),.vec 1 true (x.Base.Mem.Lists.Own.map encSList),.vec 4 true (x.Base.Clock.Pins.map encPin),.vec 1 true (x.Base.Limbo.map encLList),.vec 1 true (x.Base.Haz.map encI),.vec 1 true (x.Cells.map encI),.vec 21 true (x.Jobs.map encJob),.vec 1 true (x.Todo.map encQueue),.vec 7 true (x.Log.map encEv)] (.one (.dat (.int .i64 (k + (mcShelf x:Int))))) [.vec 1 true (markInts k x.Base.Mem.Heap.Bytes.length),.vec 1 true (markInts (k + 1 * (x.Base.Mem.Heap.Bytes.length:Int)) x.Base.Mem.Heap.Class.length),.vec 1 true (mrkSListS (k + (mcHeap x.Base.Mem.Heap:Int)) x.Base.Mem.Lists.Global),.vec 1 true (mrkSListS ((k + (mcHeap x.Base.Mem.Heap:Int)) + (cntSListS x.Base.Mem.Lists.Global:Int)) x.Base.Mem.Lists.Own),.vec 4 true (markPins (k + (mcMem x.Base.Mem:Int)) x.Base.Clock.Pins.length),.vec 1 true (mrkLListS ((k + (mcMem x.Base.Mem:Int)) + (mcClock x.Base.Clock:Int)) x.Base.Limbo),.vec 1 true (markInts (((k + (mcMem x.Base.Mem:Int)) + (mcClock x.Base.Clock:Int)) + (cntLListS x.Base.Limbo:Int)) x.Base.Haz.length),.vec 1 true (markInts (k + (mcBase x.Base:Int)) x.Cells.length),.vec 21 true (mrkJobS ((k + (mcBase x.Base:Int)) + 1 * (x.Cells.length:Int)) x.Jobs),.vec 1 true (mrkQueueS (((k + (mcBase x.Base:Int)) + 1 * (x.Cells.length:Int)) + 21 * (x.Jobs.length:Int)) x.Todo),.vec 7 true (markEvs ((((k + (mcBase x.Base:Int)) + 1 * (x.Cells.length:Int)) + 21 * (x.Jobs.length:Int)) + (cntQueueS x.Todo:Int)) x.Log.length)]:=by
 have hmc:mcShelf x=mcBase x.Base + 1 * x.Cells.length + 21 * x.Jobs.length + cntQueueS x.Todo + 7 * x.Log.length:=rfl
 obtain ⟨q0,q1,q2,q3,q4,q5,_⟩:=hx
 refine Ctr.of_body mixed func33 rfl (by kernel_rfl) (Nat.le_of_ble_eq_true rfl) (by simp [AV.Clean,AV.Clean1,Leaf.Clean,D.flat]) (by simp [AObj.Sep]) (by simp) ?_ (by simp [AV.Low,AV.Low1,Leaf.Low]) ?_
 ·intro o ho
  have:o=0 \/ o=1 \/ o=2 \/ o=3 \/ o=4 \/ o=5 \/ o=6 \/ o=7 \/ o=8 \/ o=9 \/ o=10:=by have:o < 11:=ho;omega
  rcases this with rfl | rfl | rfl | rfl | rfl | rfl | rfl | rfl | rfl | rfl | rfl <;> simp [Objs,Compat,markEvs_length,markInts_len,markPins_length,mrkJobS_len,mrkLListS_len,mrkQueueS_len,mrkSListS_len]
 show wpA _ _ _ (FinQ _ _ _ _ _) _
 refine evl ?_
 refine scs ?_
 refine CallK_os [0,1,2,3,4,5,6] e90 (by simp [osOk,St.obj,find]) (c90_e x.Base q0 (k) (by omega) (by omega)) rfl ?_
 refine evl ?_
 refine scs ?_
 refine CallK_os [7] e91 (by simp [osOk,St.obj,find]) (c91 x.Cells ((k + (mcBase x.Base:Int))) (by omega) (by omega)) rfl ?_
 refine evl ?_
 refine scs ?_
 refine CallK_os [8] e92 (by simp [osOk,St.obj,find]) (c92_e x.Jobs (((k + (mcBase x.Base:Int)) + 1 * (x.Cells.length:Int))) (by omega) (by omega)) rfl ?_
 refine evl ?_
 refine scs ?_
 refine CallK_os [9] e93 (by simp [osOk,St.obj,find]) (c93_e x.Todo q3 q4 ((((k + (mcBase x.Base:Int)) + 1 * (x.Cells.length:Int)) + 21 * (x.Jobs.length:Int))) (by omega) (by omega)) rfl ?_
 refine evl ?_
 refine scs ?_
 refine CallK_os [10] e94 (by simp [osOk,St.obj,find]) (c94 x.Log (((((k + (mcBase x.Base:Int)) + 1 * (x.Cells.length:Int)) + 21 * (x.Jobs.length:Int)) + (cntQueueS x.Todo:Int))) (by omega) (by omega)) rfl ?_
 refine evl ?_
 rw [show (((((k + (mcBase x.Base:Int)) + 1 * (x.Cells.length:Int)) + 21 * (x.Jobs.length:Int)) + (cntQueueS x.Todo:Int)) + 7 * (x.Log.length:Int))=k + (mcShelf x:Int) by omega]
 refine Fin.nt results33 [0,1,2,3,4,5,6,7,8,9,10] ?_ ?_ ?_ <;> try trivial
 all_goals exact entd
theorem c34 (x:Shelf) (hx:x.sok) (k:Int) (hk0:0 <= k) (hk:k + (mcShelf x:Int) <= 4611686018427387904):Ctr prog 34 [.agg [.dat (.sl 1 (markInts k x.Base.Mem.Heap.Bytes.length)),.dat (.sl 1 (markInts (k + 1 * (x.Base.Mem.Heap.Bytes.length:Int)) x.Base.Mem.Heap.Class.length)),.dat (.sl 1 (mrkSListS (k + (mcHeap x.Base.Mem.Heap:Int)) x.Base.Mem.Lists.Global)),.dat (.sl 1 (mrkSListS ((k + (mcHeap x.Base.Mem.Heap:Int)) + (cntSListS x.Base.Mem.Lists.Global:Int)) x.Base.Mem.Lists.Own)),.dat (.int .i64 x.Base.Clock.Epoch),.dat (.sl 4 (markPins (k + (mcMem x.Base.Mem:Int)) x.Base.Clock.Pins.length)),.dat (.sl 1 (mrkLListS ((k + (mcMem x.Base.Mem:Int)) + (mcClock x.Base.Clock:Int)) x.Base.Limbo)),.dat (.sl 1 (markInts (((k + (mcMem x.Base.Mem:Int)) + (mcClock x.Base.Clock:Int)) + (cntLListS x.Base.Limbo:Int)) x.Base.Haz.length)),.dat (.sl 1 (markInts (k + (mcBase x.Base:Int)) x.Cells.length)),.dat (.sl 21 (mrkJobS ((k + (mcBase x.Base:Int)) + 1 * (x.Cells.length:Int)) x.Jobs)),.dat (.sl 1 (mrkQueueS (((k + (mcBase x.Base:Int)) + 1 * (x.Cells.length:Int)) + 21 * (x.Jobs.length:Int)) x.Todo)),.dat (.sl 7 (markEvs ((((k + (mcBase x.Base:Int)) + 1 * (x.Cells.length:Int)) + 21 * (x.Jobs.length:Int)) + (cntQueueS x.Todo:Int)) x.Log.length)),.dat (.int .i64 x.Serial)],.one (.dat (.int .i64 k))] [] (.one (.dat (.int .i64 (k + (mcShelf x:Int))))) []:=by
 have hmc:mcShelf x=mcBase x.Base + 1 * x.Cells.length + 21 * x.Jobs.length + cntQueueS x.Todo + 7 * x.Log.length:=rfl
 obtain ⟨q0,q1,q2,q3,q4,q5,_⟩:=hx
 refine Ctr.bd mixed func34 rfl ?_
 refine evl ?_
 refine scs ?_
 refine ck e95 (c95 x.Base q0 (k) (by omega) (by omega)) rfl ?_
 have hn0:decide ((k + (mcBase x.Base:Int)) < 0)=false:=decide_eq_false (by omega)
 refine sv15 ?_
 refine scs ?_
 refine ck e96 (c96 x.Cells.length ((k + (mcBase x.Base:Int))) (by omega) (by omega)) rfl ?_
 have hn1:decide (((k + (mcBase x.Base:Int)) + 1 * (x.Cells.length:Int)) < 0)=false:=decide_eq_false (by omega)
 refine sv12 ?_
 refine scs ?_
 refine ck e97 (c97 x.Jobs (((k + (mcBase x.Base:Int)) + 1 * (x.Cells.length:Int))) (by omega) (by omega)) rfl ?_
 have hn2:decide ((((k + (mcBase x.Base:Int)) + 1 * (x.Cells.length:Int)) + 21 * (x.Jobs.length:Int)) < 0)=false:=decide_eq_false (by omega)
 refine sv13 ?_
 refine scs ?_
 refine ck e98 (c98 x.Todo q3 q4 ((((k + (mcBase x.Base:Int)) + 1 * (x.Cells.length:Int)) + 21 * (x.Jobs.length:Int))) (by omega) (by omega)) rfl ?_
 have hn3:decide (((((k + (mcBase x.Base:Int)) + 1 * (x.Cells.length:Int)) + 21 * (x.Jobs.length:Int)) + (cntQueueS x.Todo:Int)) < 0)=false:=decide_eq_false (by omega)
 simp (maxSteps:=2000000) only [go_sem,seval,hn3]
 refine scs ?_
 refine ck e99 (c99 x.Log.length (((((k + (mcBase x.Base:Int)) + 1 * (x.Cells.length:Int)) + 21 * (x.Jobs.length:Int)) + (cntQueueS x.Todo:Int))) (by omega) (by omega)) rfl ?_
 have hn4:decide ((((((k + (mcBase x.Base:Int)) + 1 * (x.Cells.length:Int)) + 21 * (x.Jobs.length:Int)) + (cntQueueS x.Todo:Int)) + 7 * (x.Log.length:Int)) < 0)=false:=decide_eq_false (by omega)
 simp (maxSteps:=2000000) only [go_sem,seval,hn4]
 rw [show (((((k + (mcBase x.Base:Int)) + 1 * (x.Cells.length:Int)) + 21 * (x.Jobs.length:Int)) + (cntQueueS x.Todo:Int)) + 7 * (x.Log.length:Int))=k + (mcShelf x:Int) by omega]
 refine Fin.nt results34 [] ?_ ?_ ?_ <;> try trivial
end Go.Proofs.YtcnddedeeplbcaaGreat.Mod
