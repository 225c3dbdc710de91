import Derived.Test.YtcnddedeeplbcaaGreatRows
import Derived.Test.YtcnddedeeplbcaaGreatSATy
import Derived.Test.YtcnddedeeplbcaaGreatSAbsTac
import Derived.Test.YtcnddedeeplbcaaGreatSAbsData
import Derived.Test.YtcnddedeeplbcaaGreatSAFam
import Derived.Test.YtcnddedeeplbcaaGreatSAFam2
import Derived.WalkKit
import Derived.ProofKit
import Derived.OpenShut
/- Contracts: Sl2. -/
namespace Go.Proofs.YtcnddedeeplbcaaGreat.Mod
open Go.Proofs.Tryz Go.Abs Go.Proofs.YtcnddedeeplbcaaGreat.Ty Go.ChangeShapes Go.WideShapes Go.ChangeAt Go.RowKit
set_option linter.unusedSimpArgs false
set_option linter.unusedVariables false
set_option maxHeartbeats 8000000
set_option maxRecDepth 100000
def ixF {α:Type} (p:α -> Bool) (l:List α):Int:=match l.findIdx? p with
 | some i=>i
 | none=>-1
theorem ixF_none {α:Type} {p:α -> Bool} {l:List α} (h:∀ j (hj:j < l.length),p l[j]=false):ixF p l=-1:=by
 unfold ixF
 have:l.findIdx? p=none:=by
  rw [List.findIdx?_eq_none_iff]
  intro x hx
  obtain ⟨j,hj,rfl⟩:=List.getElem_of_mem hx
  exact h j hj
 rw [this]
theorem ixF_some {α:Type} {p:α -> Bool} {l:List α} {i:Nat} (hi:i < l.length) (hp:p l[i]=true) (h:∀ j (hj:j < l.length),j < i -> p l[j]=false):ixF p l=i:=by
 unfold ixF
 have:l.findIdx? p=some i:=by
  rw [List.findIdx?_eq_some_iff_getElem]
  refine ⟨hi,hp,fun j hj=>?_⟩
  have:=h j (by omega) hj
  simp [this]
 rw [this]
theorem ixF_cases {α:Type} (p:α -> Bool) (l:List α):(ixF p l=-1 /\ ∀ j (hj:j < l.length),p l[j]=false) \/ ∃ i,∃ hi:i < l.length,ixF p l=i /\ p l[i]=true /\ ∀ j (hj:j < l.length),j < i -> p l[j]=false:=by
 unfold ixF
 cases e:l.findIdx? p with
 | none =>
  rw [List.findIdx?_eq_none_iff] at e
  exact .inl ⟨rfl,fun j hj=>e _ (List.getElem_mem hj)⟩
 | some i =>
  rw [List.findIdx?_eq_some_iff_getElem] at e
  obtain ⟨hi,hp,h⟩:=e
  exact .inr ⟨i,hi,rfl,hp,fun j hj hji=>by have:=h j hji;simpa using this⟩
theorem c292 (l:List LRow) (hl:l.length <= 16777216):Ctr prog 292 [.one (.dat (.sl 2 (l.map encLRow)))] [] (.one (.own 0)) [.vec 2 true (l.map encLRow)]:=by
 refine Ctr.bd mixed func292 rfl ?_
 refine evl ?_
 intro b hb
 constructor <;> intro h
 ·have:l=[]:=by simpa using hb h
  subst this
  refine Fin.ent (Ent.emp (t:=2) (sz:=2) rfl) ?_
  refine evl ?_
  refine Fin.nt results292 [0] ?_ ?_ ?_ <;> try trivial
  all_goals exact entd
 ·refine ⟨by simp,⟨by simp [encLRow,D.flat],by simp,by omega,by omega⟩,?_⟩
  refine Fin.nt results292 [1] ?_ ?_ ?_ <;> try trivial
  all_goals exact entd
theorem c235 (l:List Op) (hl:l.length <= 16777216):Ctr prog 235 [.one (.dat (.sl 4 (l.map encOp)))] [] (.one (.own 0)) [.vec 4 true (l.map encOp)]:=by
 refine Ctr.bd mixed func235 rfl ?_
 refine evl ?_
 intro b hb
 constructor <;> intro h
 ·have:l=[]:=by simpa using hb h
  subst this
  refine Fin.ent (Ent.emp (t:=2) (sz:=4) rfl) ?_
  refine evl ?_
  refine Fin.nt results235 [0] ?_ ?_ ?_ <;> try trivial
  all_goals exact entd
 ·refine ⟨by simp,⟨by simp [encOp,D.flat],by simp,by omega,by omega⟩,?_⟩
  refine Fin.nt results235 [1] ?_ ?_ ?_ <;> try trivial
  all_goals exact entd
theorem c291 (l:List Pin) (hl:l.length <= 16777216):Ctr prog 291 [.one (.dat (.sl 4 (l.map encPin)))] [] (.one (.own 0)) [.vec 4 true (l.map encPin)]:=by
 refine Ctr.bd mixed func291 rfl ?_
 refine evl ?_
 intro b hb
 constructor <;> intro h
 ·have:l=[]:=by simpa using hb h
  subst this
  refine Fin.ent (Ent.emp (t:=2) (sz:=4) rfl) ?_
  refine evl ?_
  refine Fin.nt results291 [0] ?_ ?_ ?_ <;> try trivial
  all_goals exact entd
 ·refine ⟨by simp,⟨by simp [encPin,D.flat],by simp,by omega,by omega⟩,?_⟩
  refine Fin.nt results291 [1] ?_ ?_ ?_ <;> try trivial
  all_goals exact entd
theorem c160 (l:List Ev) (hl:l.length <= 16777216):Ctr prog 160 [.one (.dat (.sl 7 (l.map encEv)))] [] (.one (.own 0)) [.vec 7 true (l.map encEv)]:=by
 refine Ctr.bd mixed func160 rfl ?_
 refine evl ?_
 intro b hb
 constructor <;> intro h
 ·have:l=[]:=by simpa using hb h
  subst this
  refine Fin.ent (Ent.emp (t:=2) (sz:=7) rfl) ?_
  refine evl ?_
  refine Fin.nt results160 [0] ?_ ?_ ?_ <;> try trivial
  all_goals exact entd
 ·refine ⟨by simp,⟨by simp [encEv,D.flat],by simp,by omega,by omega⟩,?_⟩
  refine Fin.nt results160 [1] ?_ ?_ ?_ <;> try trivial
  all_goals exact entd
theorem ixF_any {α:Type} (p:α -> Bool) (l:List α):decide (0 <= ixF p l)=l.any p:=by
 rcases ixF_cases p l with ⟨e,hno⟩ | ⟨i,hi,e,hp,_⟩
 ·rw [e]
  symm
  have:l.any p=false:=by
   rw [List.any_eq_false]
   intro x hx
   obtain ⟨j,hj,rfl⟩:=List.getElem_of_mem hx
   simp [hno j hj]
  rw [this];rfl
 ·rw [e]
  have:l.any p=true:=List.any_eq_true.2 ⟨_,List.getElem_mem hi,hp⟩
  rw [this];simp
theorem c65 (l:List Int) (hl:l.length <= maxLen) (v:Int):Ctr prog 65 [.one (.dat (.sl 1 (l.map encI))),.one (.dat (.int .i64 v))] [] (.one (.dat (.int .i64 (ixF (fun x=>x == v) l)))) []:=by
 refine Ctr.bd mixed func65 rfl ?_
 refine evl ?_
 refine LoopK_intro (fun zn zs=>∃ i:Nat,i <= l.length /\ zn=l.length - i /\ (∀ j (hj:j < l.length),j < i -> (l[j] == v)=false) /\ zs=mkSt [(8,.one (.dat (.int .i64 i))),(7,.one (.dat (.int .i64 (l.length)))),(0,.one (.dat (.sl 1 (l.map encI)))),(1,.one (.dat (.int .i64 v)))] []) (l.length) _
  (Ent.wk []) ⟨0,by omega,by omega,by simp,rfl⟩ ?_
 rintro zn zs ⟨i,hi,rfl,hinv,rfl⟩ K hK
 rcases Nat.lt_or_ge i (l.length) with hlt | hge
 ·have hdi:decide ((i:Int) < ((l.length:Nat):Int))=true:=decide_eq_true (by omega)
  have hw:=wrap_succ hlt hl
  refine sv16 ?_
  refine ⟨⟨by omega,by omega⟩,hlt,?_⟩
  constructor <;> intro h
  ·apply hK
   refine evl ?_
   refine Fin.nt results65 [] ?_ ?_ ?_ <;> try trivial
   (refine rsl ?_;try exact .intro)
   exact (ixF_some (p:=fun x=>x == v) hlt (BEq.comm.trans h) hinv).symm
  ·(apply hK
    exact ⟨l.length - (i + 1),_,by omega,Ent.wk [],i + 1,by omega,rfl,fun j hj hji=>if e:j=i then by subst e;exact BEq.comm.trans h else hinv j hj (by omega),rfl⟩)
 ·have hge':l.length=i:=by omega
  subst hge'
  have hdi:decide (((l.length:Nat):Int) < ((l.length:Nat):Int))=false:=by simp
  refine sv4 ?_
  apply hK
  refine evl ?_
  refine Fin.nt results65 [] ?_ ?_ ?_ <;> try trivial
  (refine rsl ?_;try exact .intro)
  exact (ixF_none fun j hj=>hinv j hj hj).symm
theorem c62 (l:List Int) (hl:l.length <= maxLen) (v:Int):Ctr prog 62 [.one (.dat (.sl 1 (l.map encI))),.one (.dat (.int .i64 v))] [] (.one (.dat (.bool (l.any fun x=>x == v)))) []:=by
 refine Ctr.bd mixed func62 rfl ?_
 refine evl ?_
 refine CallK_pure e65 (c65 l hl v) rfl ?_
 refine evl ?_
 refine Fin.nt results62 [] ?_ ?_ ?_ <;> try trivial
 (refine rsl ?_;try exact .intro)
 exact ixF_any _ l
theorem c247_k0 (l:List Int) (hl:l.length <= maxLen) {fid:FuncId} {p:Int -> Bool} (he:enters prog fid=true)
  (hp:∀ x ∈ l,Ctr prog fid [.one (.dat (.int .i64 x))] [] (.one (.dat (.bool (p x)))) []):Ctr prog 247 [.one (.dat (.sl 1 (l.map encI))),.one (.fn fid [])] [] (.one (.dat (.int .i64 (ixF p l)))) []:=by
 refine Ctr.bd mixed func247 rfl ?_
 refine evl ?_
 refine LoopK_intro (fun n s=>∃ i:Nat,i <= l.length /\ n=l.length - i /\ (∀ j (hj:j < l.length),j < i -> p l[j]=false) /\ s=mkSt [(8,.one (.dat (.int .i64 i))),(7,.one (.dat (.int .i64 l.length))),(1,.one (.fn fid [])),(0,.one (.dat (.sl 1 (l.map encI))))] []) l.length _
  (Ent.wk []) ⟨0,by omega,by omega,by simp,rfl⟩ ?_
 rintro n s ⟨i,hi,rfl,ht,rfl⟩ K hK
 refine evl ?_
 constructor <;> intro h
 ·have hlt:i < l.length:=by simpa using h
  have hw:=wrap_succ hlt hl
  refine ⟨⟨by omega,by omega⟩,hlt,?_⟩
  have hpx:=hp l[i] (List.getElem_mem hlt)
  simp only [getD_map hlt,encI,List.map_cons,List.map_nil,List.take_succ_cons,List.take_zero,List.getD_cons_zero] at hpx ⊢
  refine CallK_pure he hpx rfl ?_
  refine sv0 ?_
  constructor <;> intro h
  ·apply hK
   refine evl ?_
   refine Fin.nt results247 [] ?_ ?_ ?_ <;> try trivial
   (refine rsl ?_;try exact .intro)
   exact (ixF_some hlt h ht).symm
  ·apply hK
   refine ⟨l.length - (i + 1),_,by omega,Ent.wk [],i + 1,by omega,rfl,fun j hj hji=>?_,rfl⟩
   by_cases e:j=i
   ·subst e;exact h
   ·exact ht j hj (by omega)
 ·have hge:i=l.length:=by simp at h;omega
  subst hge
  apply hK
  refine evl ?_
  refine Fin.nt results247 [] ?_ ?_ ?_ <;> try trivial
  (refine rsl ?_;try exact .intro)
  exact (ixF_none fun j hj=>ht j hj hj).symm
theorem c163_k0 (l:List Int) (hl:l.length <= maxLen) {fid:FuncId} {p:Int -> Bool} (he:enters prog fid=true)
  (hp:∀ x ∈ l,Ctr prog fid [.one (.dat (.int .i64 x))] [] (.one (.dat (.bool (p x)))) []):Ctr prog 163 [.one (.dat (.sl 1 (l.map encI))),.one (.fn fid [])] [] (.one (.dat (.bool (l.any p)))) []:=by
 refine Ctr.bd mixed func163 rfl ?_
 refine evl ?_
 refine CallK_pure e247 (c247_k0 l hl he hp) rfl ?_
 refine evl ?_
 refine Fin.nt results163 [] ?_ ?_ ?_ <;> try trivial
 (refine rsl ?_;try exact .intro)
 exact ixF_any p l
theorem c320_k1 (l:List SList) (hl:l.length <= maxLen) {fid:FuncId} {m:Nat} {r:List D} {p:SList -> Bool} (he:enters prog fid=true)
  (hp:∀ x ∈ l,Ctr prog fid [.agg ((encSList x).map .dat),.one (.ptr (.ro m [r] 0 0))] [] (.one (.dat (.bool (p x)))) []):Ctr prog 320 [.one (.dat (.sl 1 (l.map encSList))),.one (.fn fid [.ro m [r] 0 0])] [] (.one (.dat (.int .i64 (ixF p l)))) []:=by
 refine Ctr.bd mixed func320 rfl ?_
 refine evl ?_
 refine LoopK_intro (fun n s=>∃ i:Nat,i <= l.length /\ n=l.length - i /\ (∀ j (hj:j < l.length),j < i -> p l[j]=false) /\ s=mkSt [(8,.one (.dat (.int .i64 i))),(7,.one (.dat (.int .i64 l.length))),(1,.one (.fn fid [.ro m [r] 0 0])),(0,.one (.dat (.sl 1 (l.map encSList))))] []) l.length _
  (Ent.wk []) ⟨0,by omega,by omega,by simp,rfl⟩ ?_
 rintro n s ⟨i,hi,rfl,ht,rfl⟩ K hK
 refine evl ?_
 constructor <;> intro h
 ·have hlt:i < l.length:=by simpa using h
  have hw:=wrap_succ hlt hl
  refine ⟨⟨by omega,by omega⟩,hlt,?_⟩
  have hpx:=hp l[i] (List.getElem_mem hlt)
  simp only [getD_map hlt,encSList,List.map_cons,List.map_nil,List.take_succ_cons,List.take_zero,List.getD_cons_zero] at hpx ⊢
  refine CallK_pure he hpx rfl ?_
  refine sv0 ?_
  constructor <;> intro h
  ·apply hK
   refine evl ?_
   refine Fin.nt results320 [] ?_ ?_ ?_ <;> try trivial
   (refine rsl ?_;try exact .intro)
   exact (ixF_some hlt h ht).symm
  ·apply hK
   refine ⟨l.length - (i + 1),_,by omega,Ent.wk [],i + 1,by omega,rfl,fun j hj hji=>?_,rfl⟩
   by_cases e:j=i
   ·subst e;exact h
   ·exact ht j hj (by omega)
 ·have hge:i=l.length:=by simp at h;omega
  subst hge
  apply hK
  refine evl ?_
  refine Fin.nt results320 [] ?_ ?_ ?_ <;> try trivial
  (refine rsl ?_;try exact .intro)
  exact (ixF_none fun j hj=>ht j hj hj).symm
theorem c312_k1 (l:List SList) (hl:l.length <= maxLen) {fid:FuncId} {m:Nat} {r:List D} {p:SList -> Bool} (he:enters prog fid=true)
  (hp:∀ x ∈ l,Ctr prog fid [.agg ((encSList x).map .dat),.one (.ptr (.ro m [r] 0 0))] [] (.one (.dat (.bool (p x)))) []):Ctr prog 312 [.one (.dat (.sl 1 (l.map encSList))),.one (.fn fid [.ro m [r] 0 0])] [] (.one (.dat (.bool (l.any p)))) []:=by
 refine Ctr.bd mixed func312 rfl ?_
 refine evl ?_
 refine CallK_pure e320 (c320_k1 l hl he hp) rfl ?_
 refine evl ?_
 refine Fin.nt results312 [] ?_ ?_ ?_ <;> try trivial
 (refine rsl ?_;try exact .intro)
 exact ixF_any p l
theorem c316_k1 (l:List Pin) (hl:l.length <= maxLen) {fid:FuncId} {m:Nat} {r:List D} {p:Pin -> Bool} (he:enters prog fid=true)
  (hp:∀ x ∈ l,Ctr prog fid [.agg ((encPin x).map .dat),.one (.ptr (.ro m [r] 0 0))] [] (.one (.dat (.bool (p x)))) []):Ctr prog 316 [.one (.dat (.sl 4 (l.map encPin))),.one (.fn fid [.ro m [r] 0 0])] [] (.one (.dat (.int .i64 (ixF p l)))) []:=by
 refine Ctr.bd mixed func316 rfl ?_
 refine evl ?_
 refine LoopK_intro (fun n s=>∃ i:Nat,i <= l.length /\ n=l.length - i /\ (∀ j (hj:j < l.length),j < i -> p l[j]=false) /\ s=mkSt [(8,.one (.dat (.int .i64 i))),(7,.one (.dat (.int .i64 l.length))),(1,.one (.fn fid [.ro m [r] 0 0])),(0,.one (.dat (.sl 4 (l.map encPin))))] []) l.length _
  (Ent.wk []) ⟨0,by omega,by omega,by simp,rfl⟩ ?_
 rintro n s ⟨i,hi,rfl,ht,rfl⟩ K hK
 refine evl ?_
 constructor <;> intro h
 ·have hlt:i < l.length:=by simpa using h
  have hw:=wrap_succ hlt hl
  refine ⟨⟨by omega,by omega⟩,hlt,?_⟩
  have hpx:=hp l[i] (List.getElem_mem hlt)
  simp only [getD_map hlt,encPin,List.map_cons,List.map_nil,List.take_succ_cons,List.take_zero,List.getD_cons_zero] at hpx ⊢
  refine CallK_pure he hpx rfl ?_
  refine sv0 ?_
  constructor <;> intro h
  ·apply hK
   refine evl ?_
   refine Fin.nt results316 [] ?_ ?_ ?_ <;> try trivial
   (refine rsl ?_;try exact .intro)
   exact (ixF_some hlt h ht).symm
  ·apply hK
   refine ⟨l.length - (i + 1),_,by omega,Ent.wk [],i + 1,by omega,rfl,fun j hj hji=>?_,rfl⟩
   by_cases e:j=i
   ·subst e;exact h
   ·exact ht j hj (by omega)
 ·have hge:i=l.length:=by simp at h;omega
  subst hge
  apply hK
  refine evl ?_
  refine Fin.nt results316 [] ?_ ?_ ?_ <;> try trivial
  (refine rsl ?_;try exact .intro)
  exact (ixF_none fun j hj=>ht j hj hj).symm
theorem c293_k1 (l:List Pin) (hl:l.length <= maxLen) {fid:FuncId} {m:Nat} {r:List D} {p:Pin -> Bool} (he:enters prog fid=true)
  (hp:∀ x ∈ l,Ctr prog fid [.agg ((encPin x).map .dat),.one (.ptr (.ro m [r] 0 0))] [] (.one (.dat (.bool (p x)))) []):Ctr prog 293 [.one (.dat (.sl 4 (l.map encPin))),.one (.fn fid [.ro m [r] 0 0])] [] (.one (.dat (.bool (l.any p)))) []:=by
 refine Ctr.bd mixed func293 rfl ?_
 refine evl ?_
 refine CallK_pure e316 (c316_k1 l hl he hp) rfl ?_
 refine evl ?_
 refine Fin.nt results293 [] ?_ ?_ ?_ <;> try trivial
 (refine rsl ?_;try exact .intro)
 exact ixF_any p l
theorem c298_k1 (l:List LRow) (hl:l.length <= maxLen) {fid:FuncId} {m:Nat} {r:List D} {p:LRow -> Bool} (he:enters prog fid=true)
  (hp:∀ x ∈ l,Ctr prog fid [.agg ((encLRow x).map .dat),.one (.ptr (.ro m [r] 0 0))] [] (.one (.dat (.bool (p x)))) []):Ctr prog 298 [.one (.dat (.sl 2 (l.map encLRow))),.one (.fn fid [.ro m [r] 0 0])] [] (.one (.dat (.int .i64 (ixF p l)))) []:=by
 refine Ctr.bd mixed func298 rfl ?_
 refine evl ?_
 refine LoopK_intro (fun n s=>∃ i:Nat,i <= l.length /\ n=l.length - i /\ (∀ j (hj:j < l.length),j < i -> p l[j]=false) /\ s=mkSt [(8,.one (.dat (.int .i64 i))),(7,.one (.dat (.int .i64 l.length))),(1,.one (.fn fid [.ro m [r] 0 0])),(0,.one (.dat (.sl 2 (l.map encLRow))))] []) l.length _
  (Ent.wk []) ⟨0,by omega,by omega,by simp,rfl⟩ ?_
 rintro n s ⟨i,hi,rfl,ht,rfl⟩ K hK
 refine evl ?_
 constructor <;> intro h
 ·have hlt:i < l.length:=by simpa using h
  have hw:=wrap_succ hlt hl
  refine ⟨⟨by omega,by omega⟩,hlt,?_⟩
  have hpx:=hp l[i] (List.getElem_mem hlt)
  simp only [getD_map hlt,encLRow,List.map_cons,List.map_nil,List.take_succ_cons,List.take_zero,List.getD_cons_zero] at hpx ⊢
  refine CallK_pure he hpx rfl ?_
  refine sv0 ?_
  constructor <;> intro h
  ·apply hK
   refine evl ?_
   refine Fin.nt results298 [] ?_ ?_ ?_ <;> try trivial
   (refine rsl ?_;try exact .intro)
   exact (ixF_some hlt h ht).symm
  ·apply hK
   refine ⟨l.length - (i + 1),_,by omega,Ent.wk [],i + 1,by omega,rfl,fun j hj hji=>?_,rfl⟩
   by_cases e:j=i
   ·subst e;exact h
   ·exact ht j hj (by omega)
 ·have hge:i=l.length:=by simp at h;omega
  subst hge
  apply hK
  refine evl ?_
  refine Fin.nt results298 [] ?_ ?_ ?_ <;> try trivial
  (refine rsl ?_;try exact .intro)
  exact (ixF_none fun j hj=>ht j hj hj).symm
theorem c241_k1 (l:List LRow) (hl:l.length <= maxLen) {fid:FuncId} {m:Nat} {r:List D} {p:LRow -> Bool} (he:enters prog fid=true)
  (hp:∀ x ∈ l,Ctr prog fid [.agg ((encLRow x).map .dat),.one (.ptr (.ro m [r] 0 0))] [] (.one (.dat (.bool (p x)))) []):Ctr prog 241 [.one (.dat (.sl 2 (l.map encLRow))),.one (.fn fid [.ro m [r] 0 0])] [] (.one (.dat (.bool (l.any p)))) []:=by
 refine Ctr.bd mixed func241 rfl ?_
 refine evl ?_
 refine CallK_pure e298 (c298_k1 l hl he hp) rfl ?_
 refine evl ?_
 refine Fin.nt results241 [] ?_ ?_ ?_ <;> try trivial
 (refine rsl ?_;try exact .intro)
 exact ixF_any p l
theorem c297_k1 (l:List LList) (hl:l.length <= maxLen) {fid:FuncId} {m:Nat} {r:List D} {p:LList -> Bool} (he:enters prog fid=true)
  (hp:∀ x ∈ l,Ctr prog fid [.agg ((encLList x).map .dat),.one (.ptr (.ro m [r] 0 0))] [] (.one (.dat (.bool (p x)))) []):Ctr prog 297 [.one (.dat (.sl 1 (l.map encLList))),.one (.fn fid [.ro m [r] 0 0])] [] (.one (.dat (.int .i64 (ixF p l)))) []:=by
 refine Ctr.bd mixed func297 rfl ?_
 refine evl ?_
 refine LoopK_intro (fun n s=>∃ i:Nat,i <= l.length /\ n=l.length - i /\ (∀ j (hj:j < l.length),j < i -> p l[j]=false) /\ s=mkSt [(8,.one (.dat (.int .i64 i))),(7,.one (.dat (.int .i64 l.length))),(1,.one (.fn fid [.ro m [r] 0 0])),(0,.one (.dat (.sl 1 (l.map encLList))))] []) l.length _
  (Ent.wk []) ⟨0,by omega,by omega,by simp,rfl⟩ ?_
 rintro n s ⟨i,hi,rfl,ht,rfl⟩ K hK
 refine evl ?_
 constructor <;> intro h
 ·have hlt:i < l.length:=by simpa using h
  have hw:=wrap_succ hlt hl
  refine ⟨⟨by omega,by omega⟩,hlt,?_⟩
  have hpx:=hp l[i] (List.getElem_mem hlt)
  simp only [getD_map hlt,encLList,List.map_cons,List.map_nil,List.take_succ_cons,List.take_zero,List.getD_cons_zero] at hpx ⊢
  refine CallK_pure he hpx rfl ?_
  refine sv0 ?_
  constructor <;> intro h
  ·apply hK
   refine evl ?_
   refine Fin.nt results297 [] ?_ ?_ ?_ <;> try trivial
   (refine rsl ?_;try exact .intro)
   exact (ixF_some hlt h ht).symm
  ·apply hK
   refine ⟨l.length - (i + 1),_,by omega,Ent.wk [],i + 1,by omega,rfl,fun j hj hji=>?_,rfl⟩
   by_cases e:j=i
   ·subst e;exact h
   ·exact ht j hj (by omega)
 ·have hge:i=l.length:=by simp at h;omega
  subst hge
  apply hK
  refine evl ?_
  refine Fin.nt results297 [] ?_ ?_ ?_ <;> try trivial
  (refine rsl ?_;try exact .intro)
  exact (ixF_none fun j hj=>ht j hj hj).symm
theorem c239_k1 (l:List LList) (hl:l.length <= maxLen) {fid:FuncId} {m:Nat} {r:List D} {p:LList -> Bool} (he:enters prog fid=true)
  (hp:∀ x ∈ l,Ctr prog fid [.agg ((encLList x).map .dat),.one (.ptr (.ro m [r] 0 0))] [] (.one (.dat (.bool (p x)))) []):Ctr prog 239 [.one (.dat (.sl 1 (l.map encLList))),.one (.fn fid [.ro m [r] 0 0])] [] (.one (.dat (.bool (l.any p)))) []:=by
 refine Ctr.bd mixed func239 rfl ?_
 refine evl ?_
 refine CallK_pure e297 (c297_k1 l hl he hp) rfl ?_
 refine evl ?_
 refine Fin.nt results239 [] ?_ ?_ ?_ <;> try trivial
 (refine rsl ?_;try exact .intro)
 exact ixF_any p l
theorem c299_k0 (l:List Op) (hl:l.length <= maxLen) {fid:FuncId} {p:Op -> Bool} (he:enters prog fid=true)
  (hp:∀ x ∈ l,Ctr prog fid [.agg ((encOp x).map .dat)] [] (.one (.dat (.bool (p x)))) []):Ctr prog 299 [.one (.dat (.sl 4 (l.map encOp))),.one (.fn fid [])] [] (.one (.dat (.int .i64 (ixF p l)))) []:=by
 refine Ctr.bd mixed func299 rfl ?_
 refine evl ?_
 refine LoopK_intro (fun n s=>∃ i:Nat,i <= l.length /\ n=l.length - i /\ (∀ j (hj:j < l.length),j < i -> p l[j]=false) /\ s=mkSt [(8,.one (.dat (.int .i64 i))),(7,.one (.dat (.int .i64 l.length))),(1,.one (.fn fid [])),(0,.one (.dat (.sl 4 (l.map encOp))))] []) l.length _
  (Ent.wk []) ⟨0,by omega,by omega,by simp,rfl⟩ ?_
 rintro n s ⟨i,hi,rfl,ht,rfl⟩ K hK
 refine evl ?_
 constructor <;> intro h
 ·have hlt:i < l.length:=by simpa using h
  have hw:=wrap_succ hlt hl
  refine ⟨⟨by omega,by omega⟩,hlt,?_⟩
  have hpx:=hp l[i] (List.getElem_mem hlt)
  simp only [getD_map hlt,encOp,List.map_cons,List.map_nil,List.take_succ_cons,List.take_zero,List.getD_cons_zero] at hpx ⊢
  refine CallK_pure he hpx rfl ?_
  refine sv0 ?_
  constructor <;> intro h
  ·apply hK
   refine evl ?_
   refine Fin.nt results299 [] ?_ ?_ ?_ <;> try trivial
   (refine rsl ?_;try exact .intro)
   exact (ixF_some hlt h ht).symm
  ·apply hK
   refine ⟨l.length - (i + 1),_,by omega,Ent.wk [],i + 1,by omega,rfl,fun j hj hji=>?_,rfl⟩
   by_cases e:j=i
   ·subst e;exact h
   ·exact ht j hj (by omega)
 ·have hge:i=l.length:=by simp at h;omega
  subst hge
  apply hK
  refine evl ?_
  refine Fin.nt results299 [] ?_ ?_ ?_ <;> try trivial
  (refine rsl ?_;try exact .intro)
  exact (ixF_none fun j hj=>ht j hj hj).symm
theorem c244_k0 (l:List Op) (hl:l.length <= maxLen) {fid:FuncId} {p:Op -> Bool} (he:enters prog fid=true)
  (hp:∀ x ∈ l,Ctr prog fid [.agg ((encOp x).map .dat)] [] (.one (.dat (.bool (p x)))) []):Ctr prog 244 [.one (.dat (.sl 4 (l.map encOp))),.one (.fn fid [])] [] (.one (.dat (.bool (l.any p)))) []:=by
 refine Ctr.bd mixed func244 rfl ?_
 refine evl ?_
 refine CallK_pure e299 (c299_k0 l hl he hp) rfl ?_
 refine evl ?_
 refine Fin.nt results244 [] ?_ ?_ ?_ <;> try trivial
 (refine rsl ?_;try exact .intro)
 exact ixF_any p l
theorem c249_k0 (l:List Queue) (hl:l.length <= maxLen) {fid:FuncId} {p:Queue -> Bool} (he:enters prog fid=true)
  (hp:∀ x ∈ l,Ctr prog fid [.agg ((encQueue x).map .dat)] [] (.one (.dat (.bool (p x)))) []):Ctr prog 249 [.one (.dat (.sl 1 (l.map encQueue))),.one (.fn fid [])] [] (.one (.dat (.int .i64 (ixF p l)))) []:=by
 refine Ctr.bd mixed func249 rfl ?_
 refine evl ?_
 refine LoopK_intro (fun n s=>∃ i:Nat,i <= l.length /\ n=l.length - i /\ (∀ j (hj:j < l.length),j < i -> p l[j]=false) /\ s=mkSt [(8,.one (.dat (.int .i64 i))),(7,.one (.dat (.int .i64 l.length))),(1,.one (.fn fid [])),(0,.one (.dat (.sl 1 (l.map encQueue))))] []) l.length _
  (Ent.wk []) ⟨0,by omega,by omega,by simp,rfl⟩ ?_
 rintro n s ⟨i,hi,rfl,ht,rfl⟩ K hK
 refine evl ?_
 constructor <;> intro h
 ·have hlt:i < l.length:=by simpa using h
  have hw:=wrap_succ hlt hl
  refine ⟨⟨by omega,by omega⟩,hlt,?_⟩
  have hpx:=hp l[i] (List.getElem_mem hlt)
  simp only [getD_map hlt,encQueue,List.map_cons,List.map_nil,List.take_succ_cons,List.take_zero,List.getD_cons_zero] at hpx ⊢
  refine CallK_pure he hpx rfl ?_
  refine sv0 ?_
  constructor <;> intro h
  ·apply hK
   refine evl ?_
   refine Fin.nt results249 [] ?_ ?_ ?_ <;> try trivial
   (refine rsl ?_;try exact .intro)
   exact (ixF_some hlt h ht).symm
  ·apply hK
   refine ⟨l.length - (i + 1),_,by omega,Ent.wk [],i + 1,by omega,rfl,fun j hj hji=>?_,rfl⟩
   by_cases e:j=i
   ·subst e;exact h
   ·exact ht j hj (by omega)
 ·have hge:i=l.length:=by simp at h;omega
  subst hge
  apply hK
  refine evl ?_
  refine Fin.nt results249 [] ?_ ?_ ?_ <;> try trivial
  (refine rsl ?_;try exact .intro)
  exact (ixF_none fun j hj=>ht j hj hj).symm
theorem c169_k0 (l:List Queue) (hl:l.length <= maxLen) {fid:FuncId} {p:Queue -> Bool} (he:enters prog fid=true)
  (hp:∀ x ∈ l,Ctr prog fid [.agg ((encQueue x).map .dat)] [] (.one (.dat (.bool (p x)))) []):Ctr prog 169 [.one (.dat (.sl 1 (l.map encQueue))),.one (.fn fid [])] [] (.one (.dat (.bool (l.any p)))) []:=by
 refine Ctr.bd mixed func169 rfl ?_
 refine evl ?_
 refine CallK_pure e249 (c249_k0 l hl he hp) rfl ?_
 refine evl ?_
 refine Fin.nt results169 [] ?_ ?_ ?_ <;> try trivial
 (refine rsl ?_;try exact .intro)
 exact ixF_any p l
theorem c248_k0 (l:List Job) (hl:l.length <= maxLen) {fid:FuncId} {p:Job -> Bool} (he:enters prog fid=true)
  (hp:∀ x ∈ l,Ctr prog fid [.agg ((encJob x).map .dat)] [] (.one (.dat (.bool (p x)))) []):Ctr prog 248 [.one (.dat (.sl 21 (l.map encJob))),.one (.fn fid [])] [] (.one (.dat (.int .i64 (ixF p l)))) []:=by
 refine Ctr.bd mixed func248 rfl ?_
 refine evl ?_
 refine LoopK_intro (fun n s=>∃ i:Nat,i <= l.length /\ n=l.length - i /\ (∀ j (hj:j < l.length),j < i -> p l[j]=false) /\ s=mkSt [(8,.one (.dat (.int .i64 i))),(7,.one (.dat (.int .i64 l.length))),(1,.one (.fn fid [])),(0,.one (.dat (.sl 21 (l.map encJob))))] []) l.length _
  (Ent.wk []) ⟨0,by omega,by omega,by simp,rfl⟩ ?_
 rintro n s ⟨i,hi,rfl,ht,rfl⟩ K hK
 refine evl ?_
 constructor <;> intro h
 ·have hlt:i < l.length:=by simpa using h
  have hw:=wrap_succ hlt hl
  refine ⟨⟨by omega,by omega⟩,hlt,?_⟩
  have hpx:=hp l[i] (List.getElem_mem hlt)
  simp only [getD_map hlt,encJob,List.map_cons,List.map_nil,List.take_succ_cons,List.take_zero,List.getD_cons_zero] at hpx ⊢
  refine CallK_pure he hpx rfl ?_
  refine sv0 ?_
  constructor <;> intro h
  ·apply hK
   refine evl ?_
   refine Fin.nt results248 [] ?_ ?_ ?_ <;> try trivial
   (refine rsl ?_;try exact .intro)
   exact (ixF_some hlt h ht).symm
  ·apply hK
   refine ⟨l.length - (i + 1),_,by omega,Ent.wk [],i + 1,by omega,rfl,fun j hj hji=>?_,rfl⟩
   by_cases e:j=i
   ·subst e;exact h
   ·exact ht j hj (by omega)
 ·have hge:i=l.length:=by simp at h;omega
  subst hge
  apply hK
  refine evl ?_
  refine Fin.nt results248 [] ?_ ?_ ?_ <;> try trivial
  (refine rsl ?_;try exact .intro)
  exact (ixF_none fun j hj=>ht j hj hj).symm
theorem c165_k0 (l:List Job) (hl:l.length <= maxLen) {fid:FuncId} {p:Job -> Bool} (he:enters prog fid=true)
  (hp:∀ x ∈ l,Ctr prog fid [.agg ((encJob x).map .dat)] [] (.one (.dat (.bool (p x)))) []):Ctr prog 165 [.one (.dat (.sl 21 (l.map encJob))),.one (.fn fid [])] [] (.one (.dat (.bool (l.any p)))) []:=by
 refine Ctr.bd mixed func165 rfl ?_
 refine evl ?_
 refine CallK_pure e248 (c248_k0 l hl he hp) rfl ?_
 refine evl ?_
 refine Fin.nt results165 [] ?_ ?_ ?_ <;> try trivial
 (refine rsl ?_;try exact .intro)
 exact ixF_any p l
end Go.Proofs.YtcnddedeeplbcaaGreat.Mod
