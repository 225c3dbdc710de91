/- Contracts: Sl2. -/
import Derived.Test.YtcnddedeeplbcaaGreatRows
import Derived.Test.YtcnddedeeplbcaaGreatCTy
import Derived.Test.YtcnddedeeplbcaaGreatAbsTac
import Derived.Test.YtcnddedeeplbcaaGreatAbsData
import Derived.Test.YtcnddedeeplbcaaGreatCFam
import Derived.Test.YtcnddedeeplbcaaGreatCFam2
import Derived.WalkKit
import Derived.ProofKit
import Derived.OpenShut
namespace Go.Proofs.YtcnddedeeplbcaaGreat.Mod
open Go.Proofs.Tryz Go.Abs Go.Proofs.YtcnddedeeplbcaaGreat.Ty Go.ChangeShapes Go.WideShapes Go.ChangeAt Go.RowKit
set_option linter.unusedSimpArgs false
set_option linter.unusedVariables false
set_option maxHeartbeats 8000000
set_option maxRecDepth 100000
def ixF {α:Type} (p:α -> Bool) (l:List α):Int:=match l.findIdx? p with
 | some i=>i
 | none=>-1
theorem ixF_none {α:Type} {p:α -> Bool} {l:List α} (h:∀ j (hj:j < l.length),p l[j]=false):ixF p l=-1:=by
 unfold ixF
 have:l.findIdx? p=none:=by
  rw [List.findIdx?_eq_none_iff]
  intro x hx
  obtain ⟨j,hj,rfl⟩:=List.getElem_of_mem hx
  exact h j hj
 rw [this]
theorem ixF_some {α:Type} {p:α -> Bool} {l:List α} {i:Nat} (hi:i < l.length) (hp:p l[i]=true) (h:∀ j (hj:j < l.length),j < i -> p l[j]=false):ixF p l=i:=by
 unfold ixF
 have:l.findIdx? p=some i:=by
  rw [List.findIdx?_eq_some_iff_getElem]
  refine ⟨hi,hp,fun j hj=>?_⟩
  have:=h j (by omega) hj
  simp [this]
 rw [this]
theorem ixF_cases {α:Type} (p:α -> Bool) (l:List α):(ixF p l=-1 /\ ∀ j (hj:j < l.length),p l[j]=false) \/ ∃ i,∃ hi:i < l.length,ixF p l=i /\ p l[i]=true /\ ∀ j (hj:j < l.length),j < i -> p l[j]=false:=by
 unfold ixF
 cases e:l.findIdx? p with
 | none =>
  rw [List.findIdx?_eq_none_iff] at e
  exact .inl ⟨rfl,fun j hj=>e _ (List.getElem_mem hj)⟩
 | some i =>
  rw [List.findIdx?_eq_some_iff_getElem] at e
  obtain ⟨hi,hp,h⟩:=e
  exact .inr ⟨i,hi,rfl,hp,fun j hj hji=>by have:=h j hji;simpa using this⟩
def firstF {α:Type} (p:α -> Bool) (z:α) (l:List α):α × Bool:=match l.find? p with
 | some x=>(x,true)
 | none=>(z,false)
theorem firstF_none {α:Type} {p:α -> Bool} {z:α} {l:List α} (h:∀ j (hj:j < l.length),p l[j]=false):firstF p z l=(z,false):=by
 unfold firstF
 have:l.find? p=none:=by
  rw [List.find?_eq_none]
  intro x hx
  obtain ⟨j,hj,rfl⟩:=List.getElem_of_mem hx
  simp [h j hj]
 rw [this]
theorem firstF_some {α:Type} {p:α -> Bool} {z:α} {l:List α} {i:Nat} (hi:i < l.length) (hp:p l[i]=true) (h:∀ j (hj:j < l.length),j < i -> p l[j]=false):firstF p z l=(l[i],true):=by
 unfold firstF
 have:l.find? p=some l[i]:=by
  rw [List.find?_eq_some_iff_getElem]
  refine ⟨hp,i,hi,rfl,fun j hj=>?_⟩
  simp [h j (by omega) hj]
 rw [this]
theorem c127 (l l':List Int) (hl:l.length <= maxLen) (hl':l'.length <= maxLen):Ctr prog 127 [.one (.dat (.sl 1 (l.map encI))),.one (.dat (.sl 1 (l'.map encI)))] [] (.one (.dat (.bool (decide (l=l'))))) []:=by
 refine Ctr.bd mixed func127 rfl ?_
 refine evl ?_
 constructor <;> intro h
 ·have hne:l.length ≠ l'.length:=by simp at h;omega
  refine Fin.nt results127 [] ?_ ?_ ?_ <;> try trivial
  (refine rsl ?_;try exact .intro)
  symm;rw [decide_eq_false_iff_not]
  intro e;exact hne (by rw [e])
 have hlen:l.length=l'.length:=by simp at h;omega
 refine LoopK_intro (fun n s=>∃ i:Nat,i <= l.length /\ n=l.length - i /\ l.take i=l'.take i /\ s=mkSt [(5,.one (.dat (.int .i64 i))),(1,.one (.dat (.sl 1 (l'.map encI)))),(0,.one (.dat (.sl 1 (l.map encI))))] []) l.length _
  (Ent.wk []) ⟨0,by omega,by omega,rfl,rfl⟩ ?_
 rintro n s ⟨i,hi,rfl,ht,rfl⟩ K hK
 refine evl ?_
 constructor <;> intro h
 ·have hlt:i < l.length:=by simpa using h
  have hlt':i < l'.length:=by omega
  simp only [getD_map hlt,getD_map hlt',encI,List.map_cons,List.map_nil,List.take_succ_cons,List.take_zero]
  simp (maxSteps:=2000000) only [go_sem,seval,wrap_succ hlt hl]
  repeat' first
   | with_reducible intro h
   | ((with_reducible show _ /\ _);apply And.intro)
  all_goals try (first | assumption | exact True.intro | omega | (clear hK;simp_all;done))
  ·apply hK
   refine evl ?_
   refine Fin.nt results127 [] ?_ ?_ ?_ <;> try trivial
   (refine rsl ?_;try exact .intro)
   symm;rw [decide_eq_false_iff_not]
   rintro rfl;simp at h
  ·apply hK
   have he:l[i]=l'[i]:=by simpa using h
   refine ⟨l.length - (i + 1),_,by omega,Ent.wk [],i + 1,by omega,rfl,?_,rfl⟩
   rw [List.take_succ_eq_append_getElem hlt,List.take_succ_eq_append_getElem hlt',ht,he]
 ·have hge:i=l.length:=by simp at h;omega
  subst hge
  apply hK
  refine evl ?_
  refine Fin.nt results127 [] ?_ ?_ ?_ <;> try trivial
  (refine rsl ?_;try exact .intro)
  symm;rw [decide_eq_true_iff]
  rw [List.take_of_length_le (Nat.le_refl _),List.take_of_length_le (by omega)] at ht
  exact ht
theorem ixF_any {α:Type} (p:α -> Bool) (l:List α):decide (0 <= ixF p l)=l.any p:=by
 rcases ixF_cases p l with ⟨e,hno⟩ | ⟨i,hi,e,hp,_⟩
 ·rw [e]
  symm
  have:l.any p=false:=by
   rw [List.any_eq_false]
   intro x hx
   obtain ⟨j,hj,rfl⟩:=List.getElem_of_mem hx
   simp [hno j hj]
  rw [this];rfl
 ·rw [e]
  have:l.any p=true:=List.any_eq_true.2 ⟨_,List.getElem_mem hi,hp⟩
  rw [this];simp
theorem c65 (l:List Int) (hl:l.length <= maxLen) (v:Int):Ctr prog 65 [.one (.dat (.sl 1 (l.map encI))),.one (.dat (.int .i64 v))] [] (.one (.dat (.int .i64 (ixF (fun x=>x == v) l)))) []:=by
 refine Ctr.bd mixed func65 rfl ?_
 refine evl ?_
 refine LoopK_intro (fun zn zs=>∃ i:Nat,i <= l.length /\ zn=l.length - i /\ (∀ j (hj:j < l.length),j < i -> (l[j] == v)=false) /\ zs=mkSt [(8,.one (.dat (.int .i64 i))),(7,.one (.dat (.int .i64 (l.length)))),(0,.one (.dat (.sl 1 (l.map encI)))),(1,.one (.dat (.int .i64 v)))] []) (l.length) _
  (Ent.wk []) ⟨0,by omega,by omega,by simp,rfl⟩ ?_
 rintro zn zs ⟨i,hi,rfl,hinv,rfl⟩ K hK
 rcases Nat.lt_or_ge i (l.length) with hlt | hge
 ·have hdi:decide ((i:Int) < ((l.length:Nat):Int))=true:=decide_eq_true (by omega)
  have hw:=wrap_succ hlt hl
  refine sv0 ?_
  refine ⟨⟨by omega,by omega⟩,hlt,?_⟩
  constructor <;> intro h
  ·apply hK
   refine evl ?_
   refine Fin.nt results65 [] ?_ ?_ ?_ <;> try trivial
   (refine rsl ?_;try exact .intro)
   exact (ixF_some (p:=fun x=>x == v) hlt (BEq.comm.trans h) hinv).symm
  ·(apply hK
    exact ⟨l.length - (i + 1),_,by omega,Ent.wk [],i + 1,by omega,rfl,fun j hj hji=>if e:j=i then by subst e;exact BEq.comm.trans h else hinv j hj (by omega),rfl⟩)
 ·have hge':l.length=i:=by omega
  subst hge'
  have hdi:decide (((l.length:Nat):Int) < ((l.length:Nat):Int))=false:=by simp
  refine sv1 ?_
  apply hK
  refine evl ?_
  refine Fin.nt results65 [] ?_ ?_ ?_ <;> try trivial
  (refine rsl ?_;try exact .intro)
  exact (ixF_none fun j hj=>hinv j hj hj).symm
theorem c62 (l:List Int) (hl:l.length <= maxLen) (v:Int):Ctr prog 62 [.one (.dat (.sl 1 (l.map encI))),.one (.dat (.int .i64 v))] [] (.one (.dat (.bool (l.any fun x=>x == v)))) []:=by
 refine Ctr.bd mixed func62 rfl ?_
 refine evl ?_
 refine CallK_pure e65 (c65 l hl v) rfl ?_
 refine evl ?_
 refine Fin.nt results62 [] ?_ ?_ ?_ <;> try trivial
 (refine rsl ?_;try exact .intro)
 exact ixF_any _ l
theorem c247_k0 (l:List Int) (hl:l.length <= maxLen) {fid:FuncId} {p:Int -> Bool} (he:enters prog fid=true)
  (hp:∀ x ∈ l,Ctr prog fid [.one (.dat (.int .i64 x))] [] (.one (.dat (.bool (p x)))) []):Ctr prog 247 [.one (.dat (.sl 1 (l.map encI))),.one (.fn fid [])] [] (.one (.dat (.int .i64 (ixF p l)))) []:=by
 refine Ctr.bd mixed func247 rfl ?_
 refine evl ?_
 refine LoopK_intro (fun n s=>∃ i:Nat,i <= l.length /\ n=l.length - i /\ (∀ j (hj:j < l.length),j < i -> p l[j]=false) /\ s=mkSt [(8,.one (.dat (.int .i64 i))),(7,.one (.dat (.int .i64 l.length))),(1,.one (.fn fid [])),(0,.one (.dat (.sl 1 (l.map encI))))] []) l.length _
  (Ent.wk []) ⟨0,by omega,by omega,by simp,rfl⟩ ?_
 rintro n s ⟨i,hi,rfl,ht,rfl⟩ K hK
 refine evl ?_
 constructor <;> intro h
 ·have hlt:i < l.length:=by simpa using h
  have hw:=wrap_succ hlt hl
  refine ⟨⟨by omega,by omega⟩,hlt,?_⟩
  have hpx:=hp l[i] (List.getElem_mem hlt)
  simp only [getD_map hlt,encI,List.map_cons,List.map_nil,List.take_succ_cons,List.take_zero,List.getD_cons_zero] at hpx ⊢
  refine CallK_pure he hpx rfl ?_
  refine sv2 ?_
  constructor <;> intro h
  ·apply hK
   refine evl ?_
   refine Fin.nt results247 [] ?_ ?_ ?_ <;> try trivial
   (refine rsl ?_;try exact .intro)
   exact (ixF_some hlt h ht).symm
  ·apply hK
   refine ⟨l.length - (i + 1),_,by omega,Ent.wk [],i + 1,by omega,rfl,fun j hj hji=>?_,rfl⟩
   by_cases e:j=i
   ·subst e;exact h
   ·exact ht j hj (by omega)
 ·have hge:i=l.length:=by simp at h;omega
  subst hge
  apply hK
  refine evl ?_
  refine Fin.nt results247 [] ?_ ?_ ?_ <;> try trivial
  (refine rsl ?_;try exact .intro)
  exact (ixF_none fun j hj=>ht j hj hj).symm
theorem c163_k0 (l:List Int) (hl:l.length <= maxLen) {fid:FuncId} {p:Int -> Bool} (he:enters prog fid=true)
  (hp:∀ x ∈ l,Ctr prog fid [.one (.dat (.int .i64 x))] [] (.one (.dat (.bool (p x)))) []):Ctr prog 163 [.one (.dat (.sl 1 (l.map encI))),.one (.fn fid [])] [] (.one (.dat (.bool (l.any p)))) []:=by
 refine Ctr.bd mixed func163 rfl ?_
 refine evl ?_
 refine CallK_pure e247 (c247_k0 l hl he hp) rfl ?_
 refine evl ?_
 refine Fin.nt results163 [] ?_ ?_ ?_ <;> try trivial
 (refine rsl ?_;try exact .intro)
 exact ixF_any p l
theorem c320_k1 (l:List SList) (hl:l.length <= maxLen) {fid:FuncId} {m:Nat} {r:List D} {p:SList -> Bool} (he:enters prog fid=true)
  (hp:∀ x ∈ l,Ctr prog fid [.agg ((encSList x).map .dat),.one (.ptr (.ro m [r] 0 0))] [] (.one (.dat (.bool (p x)))) []):Ctr prog 320 [.one (.dat (.sl 1 (l.map encSList))),.one (.fn fid [.ro m [r] 0 0])] [] (.one (.dat (.int .i64 (ixF p l)))) []:=by
 refine Ctr.bd mixed func320 rfl ?_
 refine evl ?_
 refine LoopK_intro (fun n s=>∃ i:Nat,i <= l.length /\ n=l.length - i /\ (∀ j (hj:j < l.length),j < i -> p l[j]=false) /\ s=mkSt [(8,.one (.dat (.int .i64 i))),(7,.one (.dat (.int .i64 l.length))),(1,.one (.fn fid [.ro m [r] 0 0])),(0,.one (.dat (.sl 1 (l.map encSList))))] []) l.length _
  (Ent.wk []) ⟨0,by omega,by omega,by simp,rfl⟩ ?_
 rintro n s ⟨i,hi,rfl,ht,rfl⟩ K hK
 refine evl ?_
 constructor <;> intro h
 ·have hlt:i < l.length:=by simpa using h
  have hw:=wrap_succ hlt hl
  refine ⟨⟨by omega,by omega⟩,hlt,?_⟩
  have hpx:=hp l[i] (List.getElem_mem hlt)
  simp only [getD_map hlt,encSList,List.map_cons,List.map_nil,List.take_succ_cons,List.take_zero,List.getD_cons_zero] at hpx ⊢
  refine CallK_pure he hpx rfl ?_
  refine sv2 ?_
  constructor <;> intro h
  ·apply hK
   refine evl ?_
   refine Fin.nt results320 [] ?_ ?_ ?_ <;> try trivial
   (refine rsl ?_;try exact .intro)
   exact (ixF_some hlt h ht).symm
  ·apply hK
   refine ⟨l.length - (i + 1),_,by omega,Ent.wk [],i + 1,by omega,rfl,fun j hj hji=>?_,rfl⟩
   by_cases e:j=i
   ·subst e;exact h
   ·exact ht j hj (by omega)
 ·have hge:i=l.length:=by simp at h;omega
  subst hge
  apply hK
  refine evl ?_
  refine Fin.nt results320 [] ?_ ?_ ?_ <;> try trivial
  (refine rsl ?_;try exact .intro)
  exact (ixF_none fun j hj=>ht j hj hj).symm
theorem c312_k1 (l:List SList) (hl:l.length <= maxLen) {fid:FuncId} {m:Nat} {r:List D} {p:SList -> Bool} (he:enters prog fid=true)
  (hp:∀ x ∈ l,Ctr prog fid [.agg ((encSList x).map .dat),.one (.ptr (.ro m [r] 0 0))] [] (.one (.dat (.bool (p x)))) []):Ctr prog 312 [.one (.dat (.sl 1 (l.map encSList))),.one (.fn fid [.ro m [r] 0 0])] [] (.one (.dat (.bool (l.any p)))) []:=by
 refine Ctr.bd mixed func312 rfl ?_
 refine evl ?_
 refine CallK_pure e320 (c320_k1 l hl he hp) rfl ?_
 refine evl ?_
 refine Fin.nt results312 [] ?_ ?_ ?_ <;> try trivial
 (refine rsl ?_;try exact .intro)
 exact ixF_any p l
end Go.Proofs.YtcnddedeeplbcaaGreat.Mod
