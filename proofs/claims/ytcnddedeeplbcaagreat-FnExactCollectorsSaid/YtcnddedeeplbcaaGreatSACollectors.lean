import Derived.Test.YtcnddedeeplbcaaGreatRows
import Derived.Test.YtcnddedeeplbcaaGreatSATy
import Derived.Test.YtcnddedeeplbcaaGreatSAbsTac
import Derived.Test.YtcnddedeeplbcaaGreatSAbsData
import Derived.Test.YtcnddedeeplbcaaGreatSWhole
import Derived.Test.YtcnddedeeplbcaaGreatSABase
import Derived.Test.YtcnddedeeplbcaaGreatSANum
import Derived.Test.YtcnddedeeplbcaaGreatSAFam
import Derived.Test.YtcnddedeeplbcaaGreatSAFam2
import Derived.Test.YtcnddedeeplbcaaGreatSAFam3
import Derived.Test.YtcnddedeeplbcaaGreatSAMarks
import Derived.Test.YtcnddedeeplbcaaGreatSAExact
import Derived.Test.YtcnddedeeplbcaaGreatSASl2
import Derived.Test.YtcnddedeeplbcaaGreatSAHist
import Derived.Test.YtcnddedeeplbcaaGreatSAHeap
import Derived.Test.YtcnddedeeplbcaaGreatSAStore
import Derived.Test.YtcnddedeeplbcaaGreatSASame
import Derived.Test.YtcnddedeeplbcaaGreatSAValid
import Derived.Test.YtcnddedeeplbcaaGreatSASorts
import Derived.WalkKit
import Derived.ProofKit
import Derived.OpenShut
/- FnExactCollectors: the program answers as the statement says, at every argument. -/
namespace Go.Proofs.YtcnddedeeplbcaaGreat.Mod
open Go.Proofs.Tryz Go.Abs Go.Proofs.YtcnddedeeplbcaaGreat.Ty Go.ChangeShapes Go.WideShapes Go.ChangeAt Go.RowKit
set_option linter.unusedSimpArgs false
set_option linter.unusedVariables false
set_option maxHeartbeats 8000000
set_option maxRecDepth 100000
def celled (k:Int):Bool:=k == 1 || (k == 2 || (k == 3 || k == 7))
def opOk (o:Op):Bool:=within o.Kind 1 7 && ((bif celled o.Kind then within o.Cell 0 1 else o.Cell == 0) && (bif o.Kind == 1 then within o.Size 0 100 && within o.Val 0 65535 else o.Size == 0 && o.Val == 0))
def opsOk (q:Queue):Bool:=decide ((q.Ops.length:Int) <= 12) && q.Ops.all opOk
def todoOk (l:List Queue):Bool:=decide ((l.length:Int)=3) && l.all opsOk
def jobOk (j:Job):Bool:=bif j.Busy then opOk j.Op && (isLink j.H && isLink j.Old) else decide (j=zeroJob)
def shelfOk (s:Shelf):Bool:=baseOk s.Base && (decide ((s.Cells.length:Int)=2) && (decide ((s.Jobs.length:Int)=3) && (todoOk s.Todo && (within s.Serial 0 1000000 && (s.Cells.all isLink && s.Jobs.all jobOk)))))
theorem todo_len {l:List Queue} (hz:sizQueueS l <= 1048576):l.length <= 1048576 /\ ∀ q ∈ l,q.Ops.length <= 1048576:=by
 unfold sizQueueS at hz
 refine ⟨by omega,fun q hq=>?_⟩
 have h1:=sum_mem sizQueue hq
 have h2:sizQueue q <= 1048576:=by omega
 unfold sizQueue at h2;omega
theorem shelf_len {s:Shelf} (hz:sizShelf s <= 1048576):sizBase s.Base <= 1048576 /\ s.Cells.length <= 1048576 /\ s.Jobs.length <= 1048576 /\ sizQueueS s.Todo <= 1048576:=by
 unfold sizShelf at hz
 exact ⟨by omega,by omega,by omega,by omega⟩
theorem c246 (o:Op):Ctr prog 246 [.agg ((encOp o).map .dat)] [] (.one (.dat (.bool (opOk o)))) []:=by
 simp only [encOp,List.map_cons,List.map_nil]
 have hcl:(bif bif bif o.Kind == 1 then true else o.Kind == 2 then true else o.Kind == 3 then true else o.Kind == 7)=celled o.Kind:=by
  rw [celled];cases o.Kind == 1 <;> cases o.Kind == 2 <;> cases o.Kind == 3 <;> rfl
 have hop:opOk o=(within o.Kind 1 7 && ((bif celled o.Kind then within o.Cell 0 1 else o.Cell == 0) && (bif o.Kind == 1 then within o.Size 0 100 && within o.Val 0 65535 else o.Size == 0 && o.Val == 0))):=rfl
 rw [hop]
 refine Ctr.bd mixed func246 rfl ?_
 refine evl ?_
 refine scs ?_
 simp only [hcl]
 generalize celled o.Kind=c at *
 refine ck e57 (c57 ..) rfl ?_
 refine evl ?_
 refine scs ?_
 constructor <;> intro hq
 ·have hq:within o.Kind 1 7=false:=by simpa using hq
  refine Fin.nt results246 [] ?_ ?_ ?_ <;> try trivial
  (refine rsl ?_;try exact .intro)
  rw [hq];rfl
 have hq:within o.Kind 1 7=true:=by simpa using hq
 rw [hq]
 have hfin:∀ d:Bool,(bif o.Kind == 1 then within o.Size 0 100 && within o.Val 0 65535 else o.Size == 0 && o.Val == 0)=d -> d=(bif o.Kind == 1 then within o.Size 0 100 && within o.Val 0 65535 else o.Size == 0 && o.Val == 0):=fun d h=>h.symm
 cases c with
 | true =>
  refine evl ?_
  refine scs ?_
  first | refine CCallK_intro e57 (fun hg=>⟨by first | exact trivial | exact hg | exact ⟨hg,hg⟩ | (simp;done) | (simp_all only [Bool.not_false,Bool.not_true,and_self];done),c57 ..⟩) rfl rfl ?_ | refine Or.inl (CCallK_intro e57 (fun hg=>⟨by first | exact trivial | exact hg | exact ⟨hg,hg⟩ | (simp;done) | (simp_all only [Bool.not_false,Bool.not_true,and_self];done),c57 ..⟩) rfl rfl ?_)
  rcases hw:within o.Cell 0 1 with _ | _
  ·refine sv0 ?_
   refine scs ?_
   refine Fin.nt results246 [] ?_ ?_ ?_ <;> try trivial
  ·refine sv0 ?_
   refine scs ?_
   constructor <;> intro hk
   ·refine ck e57 (c57 ..) rfl ?_
    refine evl ?_
    refine scs ?_
    first | refine CCallK_intro e57 (fun hg=>⟨by first | exact trivial | exact hg | exact ⟨hg,hg⟩ | (simp;done) | (simp_all only [Bool.not_false,Bool.not_true,and_self];done),c57 ..⟩) rfl rfl ?_ | refine Or.inl (CCallK_intro e57 (fun hg=>⟨by first | exact trivial | exact hg | exact ⟨hg,hg⟩ | (simp;done) | (simp_all only [Bool.not_false,Bool.not_true,and_self];done),c57 ..⟩) rfl rfl ?_)
    refine evl ?_
    refine scs ?_
    refine Fin.nt results246 [] ?_ ?_ ?_ <;> try trivial
    (refine rsl ?_;try exact .intro)
    rw [hk];cases within o.Size 0 100 <;> rfl
   ·refine scs ?_
    refine Fin.nt results246 [] ?_ ?_ ?_ <;> try trivial
    (refine rsl ?_;try exact .intro)
    rw [hk];cases o.Size == 0 <;> rfl
 | false =>
  rcases hw:(o.Cell == 0) with _ | _
  ·have hw2:(o.Cell != 0)=true:=by simpa [bne] using hw
   refine sv38 ?_
   refine scs ?_
   first | refine CCallK_of (.one (.dat (.bool false))) ?_ | refine CCallK_og (.one (.dat (.bool false))) ?_
   refine sv38 ?_
   refine scs ?_
   refine Fin.nt results246 [] ?_ ?_ ?_ <;> try trivial
  ·have hw2:(o.Cell != 0)=false:=by simpa [bne] using hw
   refine sv38 ?_
   refine scs ?_
   first | refine CCallK_of (.one (.dat (.bool false))) ?_ | refine CCallK_og (.one (.dat (.bool false))) ?_
   refine sv38 ?_
   refine scs ?_
   constructor <;> intro hk
   ·refine ck e57 (c57 ..) rfl ?_
    refine evl ?_
    refine scs ?_
    first | refine CCallK_intro e57 (fun hg=>⟨by first | exact trivial | exact hg | exact ⟨hg,hg⟩ | (simp;done) | (simp_all only [Bool.not_false,Bool.not_true,and_self];done),c57 ..⟩) rfl rfl ?_ | refine Or.inl (CCallK_intro e57 (fun hg=>⟨by first | exact trivial | exact hg | exact ⟨hg,hg⟩ | (simp;done) | (simp_all only [Bool.not_false,Bool.not_true,and_self];done),c57 ..⟩) rfl rfl ?_)
    refine evl ?_
    refine scs ?_
    refine Fin.nt results246 [] ?_ ?_ ?_ <;> try trivial
    (refine rsl ?_;try exact .intro)
    rw [hk];cases within o.Size 0 100 <;> rfl
   ·refine scs ?_
    refine Fin.nt results246 [] ?_ ?_ ?_ <;> try trivial
    (refine rsl ?_;try exact .intro)
    rw [hk];cases o.Size == 0 <;> rfl
theorem c225 (k:Int):Ctr prog 225 [.one (.dat (.int .i64 k))] [] (.one (.dat (.bool (celled k)))) []:=by
 refine Ctr.bd mixed func225 rfl ?_
 refine evl ?_
 refine scs ?_
 refine Fin.nt results225 [] ?_ ?_ ?_ <;> try trivial
 (refine rsl ?_;try exact .intro)
 rw [celled]
 cases k == 1 <;> cases k == 2 <;> cases k == 3 <;> rfl
theorem c149 (o:Op):Ctr prog 149 [.agg ((encOp o).map .dat)] [] (.one (.dat (.bool (opOk o)))) []:=by
 simp only [encOp,List.map_cons,List.map_nil]
 have hcd:=c225 o.Kind
 have hop:opOk o=(within o.Kind 1 7 && ((bif celled o.Kind then within o.Cell 0 1 else o.Cell == 0) && (bif o.Kind == 1 then within o.Size 0 100 && within o.Val 0 65535 else o.Size == 0 && o.Val == 0))):=rfl
 rw [hop]
 generalize celled o.Kind=c at *
 refine Ctr.bd mixed func149 rfl ?_
 refine evl ?_
 refine scs ?_
 refine ck e67 (c67 ..) rfl ?_
 refine evl ?_
 refine scs ?_
 constructor <;> intro hq
 ·have hq:within o.Kind 1 7=false:=by simpa using hq
  refine Fin.nt results149 [] ?_ ?_ ?_ <;> try trivial
  (refine rsl ?_;try exact .intro)
  rw [hq];rfl
 have hq:within o.Kind 1 7=true:=by simpa using hq
 rw [hq]
 refine scs ?_
 refine ck e225 (hcd) rfl ?_
 have hend:∀ d:Bool,d=true -> (within o.Kind 1 7 && (d && (bif o.Kind == 1 then within o.Size 0 100 && within o.Val 0 65535 else o.Size == 0 && o.Val == 0)))=(bif o.Kind == 1 then within o.Size 0 100 && within o.Val 0 65535 else o.Size == 0 && o.Val == 0):=fun d h=>by rw [hq,h];rfl
 clear hend
 cases c with
 | true =>
  refine evl ?_
  refine scs ?_
  first | refine CCallK_intro e67 (fun hg=>⟨by first | exact trivial | exact hg | exact ⟨hg,hg⟩ | (simp;done) | (simp_all only [Bool.not_false,Bool.not_true,and_self];done),c67 ..⟩) rfl rfl ?_ | refine Or.inl (CCallK_intro e67 (fun hg=>⟨by first | exact trivial | exact hg | exact ⟨hg,hg⟩ | (simp;done) | (simp_all only [Bool.not_false,Bool.not_true,and_self];done),c67 ..⟩) rfl rfl ?_)
  rcases hw:within o.Cell 0 1 with _ | _
  ·refine sv0 ?_
   refine scs ?_
   refine Fin.nt results149 [] ?_ ?_ ?_ <;> try trivial
  ·refine sv0 ?_
   refine scs ?_
   constructor <;> intro hk
   ·have hk:(o.Kind == 1)=false:=by simpa [bne] using hk
    refine scs ?_
    refine Fin.nt results149 [] ?_ ?_ ?_ <;> try trivial
    (refine rsl ?_;try exact .intro)
    rw [hk];cases o.Size == 0 <;> rfl
   ·have hk:(o.Kind == 1)=true:=by simpa [bne] using hk
    refine scs ?_
    refine ck e67 (c67 ..) rfl ?_
    refine evl ?_
    refine scs ?_
    first | refine CCallK_intro e67 (fun hg=>⟨by first | exact trivial | exact hg | exact ⟨hg,hg⟩ | (simp;done) | (simp_all only [Bool.not_false,Bool.not_true,and_self];done),c67 ..⟩) rfl rfl ?_ | refine Or.inl (CCallK_intro e67 (fun hg=>⟨by first | exact trivial | exact hg | exact ⟨hg,hg⟩ | (simp;done) | (simp_all only [Bool.not_false,Bool.not_true,and_self];done),c67 ..⟩) rfl rfl ?_)
    refine evl ?_
    refine scs ?_
    refine Fin.nt results149 [] ?_ ?_ ?_ <;> try trivial
    (refine rsl ?_;try exact .intro)
    rw [hk];cases within o.Size 0 100 <;> rfl
 | false =>
  rcases hw:(o.Cell == 0) with _ | _
  ·have hw2:(o.Cell != 0)=true:=by simpa [bne] using hw
   refine sv38 ?_
   refine scs ?_
   first | refine CCallK_of (.one (.dat (.bool false))) ?_ | refine CCallK_og (.one (.dat (.bool false))) ?_
   refine sv38 ?_
   refine scs ?_
   refine Fin.nt results149 [] ?_ ?_ ?_ <;> try trivial
  ·have hw2:(o.Cell != 0)=false:=by simpa [bne] using hw
   have hw3:within o.Cell 0 1=true:=by
    have:o.Cell=0:=by simpa using hw
    rw [this];rfl
   refine sv38 ?_
   refine scs ?_
   first | refine CCallK_intro e67 (fun hg=>⟨by first | exact trivial | exact hg | exact ⟨hg,hg⟩ | (simp;done) | (simp_all only [Bool.not_false,Bool.not_true,and_self];done),c67 ..⟩) rfl rfl ?_ | refine Or.inl (CCallK_intro e67 (fun hg=>⟨by first | exact trivial | exact hg | exact ⟨hg,hg⟩ | (simp;done) | (simp_all only [Bool.not_false,Bool.not_true,and_self];done),c67 ..⟩) rfl rfl ?_)
   simp (maxSteps:=2000000) only [go_sem,seval,hw3]
   refine scs ?_
   constructor <;> intro hk
   ·have hk:(o.Kind == 1)=false:=by simpa [bne] using hk
    refine scs ?_
    refine Fin.nt results149 [] ?_ ?_ ?_ <;> try trivial
    (refine rsl ?_;try exact .intro)
    rw [hk];cases o.Size == 0 <;> rfl
   ·have hk:(o.Kind == 1)=true:=by simpa [bne] using hk
    refine scs ?_
    refine ck e67 (c67 ..) rfl ?_
    refine evl ?_
    refine scs ?_
    first | refine CCallK_intro e67 (fun hg=>⟨by first | exact trivial | exact hg | exact ⟨hg,hg⟩ | (simp;done) | (simp_all only [Bool.not_false,Bool.not_true,and_self];done),c67 ..⟩) rfl rfl ?_ | refine Or.inl (CCallK_intro e67 (fun hg=>⟨by first | exact trivial | exact hg | exact ⟨hg,hg⟩ | (simp;done) | (simp_all only [Bool.not_false,Bool.not_true,and_self];done),c67 ..⟩) rfl rfl ?_)
    refine evl ?_
    refine scs ?_
    refine Fin.nt results149 [] ?_ ?_ ?_ <;> try trivial
    (refine rsl ?_;try exact .intro)
    rw [hk];cases within o.Size 0 100 <;> rfl
theorem Ent_empBox {nf:Nat} {st:St} {o j sz:Nat} {cells:List Leaf} (eo:st.obj o=.box cells) (hj:cells[j]?=some .emp):Ent nf st ((st.addObj (.vec sz true [])).setObj o (.box (cells.set j (.own st.next)))):=fun B N β φ a w hB h=>by
 have hon:o < st.next:=lt_next h (by rw [eo];simp)
 have ho:=h.objs o
 unfold ObjRel at ho
 rw [show (st.ctx w β φ).ob o=_ from eo] at ho
 obtain ⟨b,T,vs,e1,e2,e3,e4⟩:=ho
 obtain ⟨v,hv,ad,rfl⟩:=e4.2 j _ hj
 obtain ⟨β1,φ1,le1,sr1,hp⟩:=h.newVec0 (ks:=[]) (by simp) sz true ad
 have sr1:SR B N (st.addObj (.vec sz true [])) β1 φ1 a w:=sr1
 have le1:(st.ctx w β φ).Le ((st.addObj (.vec sz true [])).ctx w β1 φ1):=le1
 have hp:AVRel ((st.addObj (.vec sz true [])).ctx w β1 φ1) (.one (.own st.next)) (.slice ad 0 0):=hp
 have eo1:(st.addObj (.vec sz true [])).obj o=.box cells:=by rw [St.obj_addObj_ne _ _ (by omega)];exact eo
 have ho1:=sr1.objs o
 unfold ObjRel at ho1
 rw [show ((st.addObj (.vec sz true [])).ctx w β1 φ1).ob o=_ from eo1] at ho1
 obtain ⟨b',T',vs',f1,f2,f3,f4⟩:=ho1
 have hβ:β1 o=β o:=(le1.obj o hon (by rw [show (st.ctx w β φ).ob o=_ from eo];simp)).2 (by rw [show ((st.addObj (.vec sz true [])).ctx w β1 φ1).ob o=_ from eo1];simp)
 have hbb:b'=b:=by
  have f1':(β1 o).base=some ⟨b',0,none⟩:=f1
  have e1':(β o).base=some ⟨b,0,none⟩:=e1
  rw [hβ,e1'] at f1'
  cases f1';rfl
 subst hbb
 have hvv:vs'=vs:=by
  have e3':w.heap[b']?=some (.cells vs T (0,0)):=e3
  have f3':w.heap[b']?=some (.cells vs' T' (0,0)):=f3
  rw [e3'] at f3'
  cases f3';rfl
 subst hvv
 let st2:=(st.addObj (.vec sz true [])).setObj o (.box (cells.set j (.own st.next)))
 have on2:∀ k,k ≠ o -> st2.obj k=(st.addObj (.vec sz true [])).obj k:=fun k hk=>St.obj_setObj_ne _ _ hk
 have ok2:st2.obj o=.box (cells.set j (.own st.next)):=St.obj_setObj_same _ _ _
 obtain ⟨le2,sr2⟩:=sr1.change (st':=st2) (β':=β1) (φ':=φ1) (w':=w) (fun k=>k=o) rfl (Nat.le_refl _) (fun k hk=>on2 k hk) (fun _ _=>rfl) (fun _ _=>rfl)
  (fun k hk=>by
    have hk':st.next + 1 <= k:=hk
    rw [on2 k (by omega)]
    exact sr1.dead k hk)
  (fun k hk hl=>by
    subst hk
    rw [ok2,show (st.addObj (.vec sz true [])).obj k=_ from eo1]
    exact ⟨trivial,fun _=>rfl⟩)
  (Frm.refl w _)
  (fun le k hk=>by
    subst hk
    unfold ObjRel
    rw [show (st2.ctx w β1 φ1).ob k=_ from ok2]
    refine ⟨b',T',vs',f1,f2,f3,by rw [List.length_set];exact f4.1,fun i l hi=>?_⟩
    by_cases hij:j=i
    ·subst hij
     have hlt:j < cells.length:=(List.getElem?_eq_some_iff.1 hj).1
     rw [List.getElem?_set_self hlt] at hi
     cases hi
     refine ⟨_,hv,?_⟩
     exact AVRel.mono le (a:=.one (.own st.next)) hp
    ·rw [List.getElem?_set_ne hij] at hi
     obtain ⟨u,hu,hr⟩:=f4.2 i l hi
     exact ⟨u,hu,AVRel.mono le (a:=.one l) hr⟩)
  (fun k hk=>sr1.nodup k)
  (fun k hk x hx=>⟨(sr1.fp k x hx).1,.inr ⟨k,hk,hx⟩⟩)
  (fun k k' hk hk' hne=>absurd (hk.trans hk'.symm) hne)
 exact ⟨β1,φ1,sr2⟩
theorem c106 (h:Heap) (hz:sizHeap h <= 1048576):Ctr prog 106 [.agg ((encHeap h).map .dat)] [] (.agg [.own 0,.own 1]) [.vec 1 true (h.Bytes.map encI),.vec 1 true (h.Class.map encI)]:=by
 unfold sizHeap at hz
 simp only [encHeap,List.map_cons,List.map_nil]
 refine Ctr.bd mixed func106 rfl ?_
 refine evl ?_
 refine scs ?_
 refine ck e157 (c157 h.Bytes (by omega)) rfl ?_
 refine evl ?_
 refine scs ?_
 refine ck e157 (c157 h.Class (by omega)) rfl ?_
 refine evl ?_
 repeat ((with_reducible show _=true /\ _);refine ⟨by kernel_rfl,?_⟩)
 refine scs ?_
 refine Fin.nt results106 [2,3] ?_ ?_ ?_ <;> try trivial
 all_goals exact entd
theorem c145 (l:List Int) (hl:l.length <= 1048576):Ctr prog 145 [.one (.dat (.sl 1 (l.map encI)))] [] (.one (.own 0)) [.vec 1 true (l.map encI)]:=by
 have hfl:∀ r ∈ l.map encI,∀ d ∈ r,d.flat=true:=by
  intro r hr d hd
  obtain ⟨y,_,rfl⟩:=List.mem_map.1 hr
  simp only [encI,List.mem_cons,List.not_mem_nil,or_false] at hd
  subst hd;rfl
 refine Ctr.bd mixed func145 rfl ?_
 refine sv17 ?_
 refine scs ?_
 refine Fin.nt results145 [1] ?_ ?_ ?_ <;> try trivial
 all_goals exact entd
theorem c203 (l:List SList) (hl:l.length <= 1048576) (hq:∀ x ∈ l,x.sok):Ctr prog 203 [.one (.dat (.sl 1 (l.map encSList)))] [] (.one (.own 0)) [.vec 1 true (l.map encSList)]:=by
 refine Ctr.bd mixed func203 rfl ?_
 refine evl ?_
 refine scs ?_
 refine LoopK_intro (fun zn zs=>∃ (i:Nat) (o:List SList),i <= l.length /\ zn=l.length - i /\ (l=o ++ l.drop i /\ o.length=i) /\ zs=mkSt [(4,.one (.dat (.int .i64 i))),(3,.one (.own 0)),(0,.one (.dat (.sl 1 (l.map encSList))))] [.vec 1 true (o.map encSList)]) (l.length) _
  (Ent.wk [0]) ⟨0,[],by omega,by omega,⟨rfl,rfl⟩,rfl⟩ ?_
 rintro zn zs ⟨i,o,hi,rfl,hinv,rfl⟩ K hK
 rcases Nat.lt_or_ge i (l.length) with hlt | hge
 ·have hdi:decide ((i:Int) < ((l.length:Nat):Int))=true:=decide_eq_true (by omega)
  have hw:=wrap_succ hlt (show l.length <= maxLen by unfold maxLen;omega)
  obtain ⟨hin,hol⟩:=hinv
  obtain ⟨q0,_⟩:=hq l[i] (List.getElem_mem hlt)
  rw [List.drop_eq_getElem_cons hlt] at hin
  refine sv20 ?_
  refine scs ?_
  refine ck e145 (c145 l[i].Slots q0) rfl ?_
  refine sv20 ?_
  refine scs ?_
  (apply hK
   exact ⟨l.length - (i + 1),_,by omega,Ent.wk [3],i + 1,(o ++ [l[i]]),by omega,rfl,⟨by rw [List.append_assoc];exact hin,by simp [hol]⟩,rfl⟩)
 ·have hge':l.length=i:=by omega
  subst hge'
  have hdi:decide (((l.length:Nat):Int) < ((l.length:Nat):Int))=false:=by simp
  have hoe:l=o:=by have:=hinv.1;rw [List.drop_length,List.append_nil] at this;exact this
  clear hinv
  refine sv4 ?_
  apply hK
  refine evl ?_
  rw [hoe]
  refine Fin.nt results203 [0] ?_ ?_ ?_ <;> try trivial
  all_goals exact entd
theorem c107 (x:Lists) (hx:x.sok):Ctr prog 107 [.agg ((encLists x).map .dat)] [] (.agg [.own 0,.own 1]) [.vec 1 true (x.Global.map encSList),.vec 1 true (x.Own.map encSList)]:=by
 obtain ⟨hl1,hq1,hl2,hq2,_⟩:=hx
 simp only [encLists,List.map_cons,List.map_nil]
 refine Ctr.bd mixed func107 rfl ?_
 refine evl ?_
 refine scs ?_
 refine LoopK_ent (Ent_empBox (o:=2) (j:=0) (sz:=1) rfl rfl) ?_
 refine LoopK_ent (Ent_empBox (o:=2) (j:=1) (sz:=1) rfl rfl) ?_
 refine evl ?_
 refine LoopK_intro (fun zn zs=>∃ (i:Nat) (o:List SList),i <= x.Global.length /\ zn=x.Global.length - i /\ (x.Global=o ++ x.Global.drop i /\ o.length=i) /\ zs=mkSt [(12,.one (.dat (.int .i64 i))),(11,.one (.dat (.int .i64 (x.Global.length)))),(10,.one (.dat (.sl 1 (x.Global.map encSList)))),(1,.one (.ptr (.own 0 0 0))),(2,.one (.ptr (.own 1 0 0))),(3,.one (.ptr (.own 2 0 0)))] [.box [.dat (.sl 1 (x.Global.map encSList)),.dat (.sl 1 (x.Own.map encSList))],.box [.emp,.emp],.box [.own 3,.own 4],.vec 1 true (o.map encSList),.vec 1 true []]) (x.Global.length) _
  (Ent.wk [0,1,2,3,4]) ⟨0,[],by omega,by omega,⟨rfl,rfl⟩,rfl⟩ ?_
 rintro zn zs ⟨i,o,hi,rfl,hinv,rfl⟩ K hK
 rcases Nat.lt_or_ge i (x.Global.length) with hlt | hge
 ·have hdi:decide ((i:Int) < ((x.Global.length:Nat):Int))=true:=decide_eq_true (by omega)
  have hw:=wrap_succ hlt (show x.Global.length <= maxLen by unfold maxLen;omega)
  obtain ⟨hin,hol⟩:=hinv
  obtain ⟨q0,_⟩:=hq1 x.Global[i] (List.getElem_mem hlt)
  rw [List.drop_eq_getElem_cons hlt] at hin
  refine sv20 ?_
  refine scs ?_
  refine FloatR_intro [(0,[]),(1,[]),(2,[]),(3,[]),(4,[0,1]),(5,[]),(6,[0,1]),(7,[]),(8,[]),(9,[])] (by kernel_rfl) ?_
  refine sv20 ?_
  refine scs ?_
  refine ck e157 (c157 x.Global[i].Slots (by omega)) rfl ?_
  refine sv20 ?_
  refine scs ?_
  (apply hK
   exact ⟨x.Global.length - (i + 1),_,by omega,Ent.wk [0,1,2,8,4],i + 1,(o ++ [x.Global[i]]),by omega,rfl,⟨by rw [List.append_assoc];exact hin,by simp [hol]⟩,rfl⟩)
 ·have hge':x.Global.length=i:=by omega
  subst hge'
  have hdi:decide (((x.Global.length:Nat):Int) < ((x.Global.length:Nat):Int))=false:=by simp
  have hoe:x.Global=o:=by have:=hinv.1;rw [List.drop_length,List.append_nil] at this;exact this
  clear hinv
  refine sv4 ?_
  apply hK
  refine evl ?_
  rw [<- hoe]
  refine LoopK_intro (fun zn zs=>∃ (k:Nat) (p:List SList),k <= x.Own.length /\ zn=x.Own.length - k /\ (x.Own=p ++ x.Own.drop k /\ p.length=k) /\ zs=mkSt [(29,.one (.dat (.int .i64 k))),(28,.one (.dat (.int .i64 (x.Own.length)))),(27,.one (.dat (.sl 1 (x.Own.map encSList)))),(1,.one (.ptr (.own 0 0 0))),(2,.one (.ptr (.own 1 0 0))),(3,.one (.ptr (.own 2 0 0)))] [.box [.dat (.sl 1 (x.Global.map encSList)),.dat (.sl 1 (x.Own.map encSList))],.box [.emp,.emp],.box [.own 3,.own 4],.vec 1 true (x.Global.map encSList),.vec 1 true (p.map encSList)]) (x.Own.length) _
   (Ent.wk [0,1,2,3,4]) ⟨0,[],by omega,by omega,⟨rfl,rfl⟩,rfl⟩ ?_
  rintro zn zs ⟨k,p,hi2,rfl,hinv2,rfl⟩ K2 hK2
  rcases Nat.lt_or_ge k (x.Own.length) with hlt2 | hge2
  ·have hdi2:decide ((k:Int) < ((x.Own.length:Nat):Int))=true:=decide_eq_true (by omega)
   have hw2:=wrap_succ hlt2 (show x.Own.length <= maxLen by unfold maxLen;omega)
   obtain ⟨hin,hol⟩:=hinv2
   obtain ⟨q0,_⟩:=hq2 x.Own[k] (List.getElem_mem hlt2)
   rw [List.drop_eq_getElem_cons hlt2] at hin
   refine sv39 ?_
   refine scs ?_
   refine FloatR_intro [(0,[]),(1,[]),(2,[]),(3,[]),(4,[0,1]),(5,[]),(6,[0,1]),(7,[]),(8,[]),(9,[])] (by kernel_rfl) ?_
   refine sv39 ?_
   refine scs ?_
   refine ck e157 (c157 x.Own[k].Slots (by omega)) rfl ?_
   refine sv39 ?_
   refine scs ?_
   (apply hK2
    exact ⟨x.Own.length - (k + 1),_,by omega,Ent.wk [0,1,2,3,8],k + 1,(p ++ [x.Own[k]]),by omega,rfl,⟨by rw [List.append_assoc];exact hin,by simp [hol]⟩,rfl⟩)
  ·have hge2':x.Own.length=k:=by omega
   subst hge2'
   have hdi2:decide (((x.Own.length:Nat):Int) < ((x.Own.length:Nat):Int))=false:=by simp
   have hoe2:x.Own=p:=by have:=hinv2.1;rw [List.drop_length,List.append_nil] at this;exact this
   clear hinv2
   refine sv27 ?_
   apply hK2
   refine evl ?_
   rw [<- hoe2]
   refine scs ?_
   refine Fin.nt results107 [3,4] ?_ ?_ ?_ <;> try trivial
   all_goals exact entd
def jobZ (j:Job):Bool:=(j.Op.Kind == 0 && (j.Op.Cell == 0 && (j.Op.Size == 0 && (j.Op.Val == 0 && (j.Serial == 0 && (j.Pc == 0 && (j.Sub.Kind == 0 && (j.Sub.A == 0 && (j.Sub.Pc == 0 && (j.Sub.E == 0 && (j.Sub.Row == 0 && (j.Sub.B == 0 && (j.Sub.H == 0 && (j.Sub.Out == 0 && (j.Sub.Code == 0 && (!j.Sub.Done && (j.H == 0 && (j.Old == 0 && (j.Val == 0 && j.Code == 0)))))))))))))))))))
theorem jobZ_iff {j:Job} (hb:j.Busy=false):jobZ j=true ↔ j=zeroJob:=by
 unfold jobZ
 simp only [Bool.and_eq_true,Job.eq_iff,Op.eq_iff,Sub.eq_iff,zeroJob,zeroOp,zeroSub,beq_iff_eq,Bool.not_eq_true',hb,true_and,and_assoc]
theorem c245 (o:Op):Ctr prog 245 [.agg ((encOp o).map .dat)] [] (.one (.dat (.bool (!opOk o)))) []:=by
 have hcb:=c246 o
 simp only [encOp,List.map_cons,List.map_nil] at hcb ⊢
 refine Ctr.bd mixed func245 rfl ?_
 refine evl ?_
 refine scs ?_
 refine ck e246 (hcb) rfl ?_
 refine evl ?_
 refine Fin.nt results245 [] ?_ ?_ ?_ <;> try trivial
theorem c243 (q:Queue) (hl:q.Ops.length <= maxLen):Ctr prog 243 [.agg ((encQueue q).map .dat)] [] (.one (.dat (.bool (!opsOk q)))) []:=by
 simp only [encQueue,List.map_cons,List.map_nil]
 refine Ctr.bd mixed func243 rfl ?_
 refine sv17 ?_
 refine scs ?_
 refine ck e244 (c244_k0 q.Ops hl e245 (fun x _=>c245 x)) rfl ?_
 refine sv17 ?_
 refine scs ?_
 refine Fin.nt results243 [] ?_ ?_ ?_ <;> try trivial
 (refine rsl ?_;try exact .intro)
 have he:decide (12 < (q.Ops.length:Int))=!decide ((q.Ops.length:Int) <= 12):=by
  by_cases h:(q.Ops.length:Int) <= 12
  ·simp [h]
  ·simp [h];omega
 rw [he,opsOk,<- any_not_all]
 cases decide ((q.Ops.length:Int) <= 12) <;> simp
theorem c162 (l:List Queue) (hz:sizQueueS l <= 1048576):Ctr prog 162 [.one (.dat (.sl 1 (l.map encQueue)))] [] (.one (.dat (.bool (todoOk l)))) []:=by
 have hmx:maxLen=9223372036854775807:=rfl
 obtain ⟨hl,hq⟩:=todo_len hz
 refine Ctr.bd mixed func162 rfl ?_
 refine sv17 ?_
 refine scs ?_
 refine ck e169 (c169_k0 l (by omega) e243 (fun x hx=>c243 x (by have:=hq x hx;omega))) rfl ?_
 refine sv17 ?_
 refine scs ?_
 refine Fin.nt results162 [] ?_ ?_ ?_ <;> try trivial
 (refine rsl ?_;try exact .intro)
 simp only [todoOk,<- any_not_all,ibeq]
 cases decide ((l.length:Int)=3) <;> rfl
theorem c148 (l:List Queue) (hz:sizQueueS l <= 1048576):Ctr prog 148 [.one (.dat (.sl 1 (l.map encQueue)))] [] (.one (.dat (.bool (todoOk l)))) []:=by
 have hmx:maxLen=9223372036854775807:=rfl
 obtain ⟨hl,hql⟩:=todo_len hz
 have hcb:=fun b=>c149 b
 simp only [encOp,List.map_cons,List.map_nil] at hcb
 refine Ctr.bd mixed func148 rfl ?_
 refine sv17 ?_
 refine scs ?_
 refine LoopK_intro (fun zn zs=>∃ i:Nat,i <= l.length /\ zn=l.length - i /\ (l.all opsOk=(l.drop i).all opsOk) /\ zs=mkSt [(3,.one (.dat (.int .i64 i))),(0,.one (.dat (.sl 1 (l.map encQueue))))] []) (l.length) _
  (Ent.wk []) ⟨0,by omega,by omega,rfl,rfl⟩ ?_
 rintro zn zs ⟨i,hi,rfl,hinv,rfl⟩ K hK
 rcases Nat.lt_or_ge i (l.length) with hlt | hge
 ·have hdi:decide ((i:Int) < ((l.length:Nat):Int))=true:=decide_eq_true (by omega)
  have hw:=wrap_succ hlt (show l.length <= maxLen by omega)
  rw [List.drop_eq_getElem_cons hlt,List.all_cons] at hinv
  obtain ⟨q,hqi⟩:∃ q,l[i]=q:=⟨_,rfl⟩
  have hqm:q ∈ l:=hqi ▸ List.getElem_mem hlt
  have hl1:=hql q hqm
  rw [hqi] at hinv
  simp (maxSteps:=2000000) only [go_sem,seval,hdi,hw,getD_map hlt,hqi,encQueue]
  refine scs ?_
  constructor <;> intro hq
  ·have hp0:opsOk q=false:=by
    have hd:=of_decide_eq_true hq
    rw [opsOk,decide_eq_false (by omega)];rfl
   rw [hp0,Bool.false_and] at hinv
   apply hK
   simp (maxSteps:=2000000) only [go_sem,seval,hdi,hw,getD_map hlt,hqi,encQueue]
   refine Fin.nt results148 [] ?_ ?_ ?_ <;> try trivial
   (refine rsl ?_;try exact .intro)
   rw [todoOk,hinv,Bool.and_false]
  have hq0:opsOk q=q.Ops.all opOk:=by
   have hd:=of_decide_eq_false hq
   rw [opsOk,decide_eq_true (by omega)];rfl
  clear hq
  obtain ⟨B,hB⟩:∃ B,q.Ops=B:=⟨_,rfl⟩
  rw [hB] at hq0 hl1 ⊢
  refine LoopK_intro (fun zn zs=>∃ k:Nat,k <= B.length /\ zn=B.length - k /\ (B.all opOk=(B.drop k).all opOk) /\ zs=mkSt [(4,.one (.dat (.int .i64 k))),(3,.one (.dat (.int .i64 i))),(0,.one (.dat (.sl 1 (l.map encQueue))))] []) (B.length) _
   (Ent.wk []) ⟨0,by omega,by omega,rfl,rfl⟩ ?_
  rintro zn zs ⟨k,hi2,rfl,hinv2,rfl⟩ K2 hK2
  rcases Nat.lt_or_ge k (B.length) with hlt2 | hge2
  ·have hdi2:decide ((k:Int) < ((B.length:Nat):Int))=true:=decide_eq_true (by omega)
   have hw2:=wrap_succ hlt2 (show B.length <= maxLen by omega)
   rw [List.drop_eq_getElem_cons hlt2,List.all_cons] at hinv2
   obtain ⟨b,hbk⟩:∃ b,B[k]=b:=⟨_,rfl⟩
   rw [hbk] at hinv2
   refine sv40 ?_
   refine scs ?_
   refine ck e149 (hcb b) rfl ?_
   refine sv40 ?_
   refine scs ?_
   constructor <;> intro hq
   ·have hp1:opOk b=false:=by simpa using hq
    rw [hp1,Bool.false_and] at hinv2
    rw [hq0,hinv2,Bool.false_and] at hinv
    apply hK2
    refine sv40 ?_
    apply hK
    refine sv40 ?_
    refine Fin.nt results148 [] ?_ ?_ ?_ <;> try trivial
    (refine rsl ?_;try exact .intro)
    rw [todoOk,hinv,Bool.and_false]
   ·have hp1:opOk b=true:=by simpa using hq
    rw [hp1,Bool.true_and] at hinv2
    (apply hK2
     exact ⟨B.length - (k + 1),_,by omega,Ent.wk [],k + 1,by omega,rfl,hinv2,rfl⟩)
  ·have hge2':B.length=k:=by omega
   subst hge2'
   have hdi2:decide (((B.length:Nat):Int) < ((B.length:Nat):Int))=false:=by simp
   rw [List.drop_length,List.all_nil] at hinv2
   rw [hq0,hinv2,Bool.true_and] at hinv
   simp (maxSteps:=2000000) only [go_sem,seval,hdi2,hdi,getD_map hlt,hqi,hB,encQueue]
   refine scs ?_
   apply hK2
   refine sv0 ?_
   (apply hK
    exact ⟨l.length - (i + 1),_,by omega,Ent.wk [],i + 1,by omega,rfl,hinv,rfl⟩)
 ·have hge':l.length=i:=by omega
  subst hge'
  have hdi:decide (((l.length:Nat):Int) < ((l.length:Nat):Int))=false:=by simp
  rw [List.drop_length,List.all_nil] at hinv
  refine sv4 ?_
  apply hK
  refine sv17 ?_
  refine Fin.nt results148 [] ?_ ?_ ?_ <;> try trivial
  (refine rsl ?_;try exact .intro)
  rw [todoOk,hinv,Bool.and_true,ibeq]
theorem c167 (j:Job):Ctr prog 167 [.agg ((encJob j).map .dat)] [] (.one (.dat (.bool (jobOk j)))) []:=by
 have hco:=c246 j.Op
 simp only [encOp,List.map_cons,List.map_nil] at hco
 simp only [encJob,List.map_cons,List.map_nil]
 have hjo:jobOk j=bif j.Busy then opOk j.Op && (isLink j.H && isLink j.Old) else decide (j=zeroJob):=rfl
 rw [hjo]
 refine Ctr.bd mixed func167 rfl ?_
 refine evl ?_
 refine scs ?_
 constructor <;> intro hb
 ·refine scs ?_
  refine Fin.nt results167 [] ?_ ?_ ?_ <;> try trivial
  (refine rsl ?_;try exact .intro)
  have hb:j.Busy=false:=by simpa using hb
  rw [hb,cond_false,Bool.eq_iff_iff]
  simp only [Bool.and_eq_true,decide_eq_true_eq,Job.eq_iff,Op.eq_iff,Sub.eq_iff,zeroJob,zeroOp,zeroSub,beq_iff_eq,Bool.not_eq_true',hb,Bool.not_false,true_and,and_assoc]
 ·have hb:j.Busy=true:=by simpa using hb
  rw [hb]
  refine scs ?_
  refine ck e246 (hco) rfl ?_
  refine evl ?_
  refine scs ?_
  first | refine CCallK_intro e52 (fun hg=>⟨by first | exact trivial | exact hg | exact ⟨hg,hg⟩ | (simp;done) | (simp_all only [Bool.not_false,Bool.not_true,and_self];done),c52 ..⟩) rfl rfl ?_ | refine Or.inl (CCallK_intro e52 (fun hg=>⟨by first | exact trivial | exact hg | exact ⟨hg,hg⟩ | (simp;done) | (simp_all only [Bool.not_false,Bool.not_true,and_self];done),c52 ..⟩) rfl rfl ?_)
  refine evl ?_
  refine scs ?_
  first | refine CCallK_intro e52 (fun hg=>⟨by first | exact trivial | exact hg | exact ⟨hg,hg⟩ | (simp;done) | (simp_all only [Bool.not_false,Bool.not_true,and_self];done),c52 ..⟩) rfl rfl ?_ | refine Or.inl (CCallK_intro e52 (fun hg=>⟨by first | exact trivial | exact hg | exact ⟨hg,hg⟩ | (simp;done) | (simp_all only [Bool.not_false,Bool.not_true,and_self];done),c52 ..⟩) rfl rfl ?_)
  refine evl ?_
  refine scs ?_
  refine Fin.nt results167 [] ?_ ?_ ?_ <;> try trivial
  (refine rsl ?_;try exact .intro)
  cases opOk j.Op <;> cases isLink j.H <;> rfl
theorem c164 (x:Int):Ctr prog 164 [.one (.dat (.int .i64 x))] [] (.one (.dat (.bool (!isLink x)))) []:=by
 refine Ctr.bd mixed func164 rfl ?_
 refine evl ?_
 refine scs ?_
 refine ck e52 (c52 x) rfl ?_
 refine evl ?_
 refine Fin.nt results164 [] ?_ ?_ ?_ <;> try trivial
theorem c166 (x:Job):Ctr prog 166 [.agg ((encJob x).map .dat)] [] (.one (.dat (.bool (!jobOk x)))) []:=by
 have hcj:=c167 x
 simp only [encJob,List.map_cons,List.map_nil] at hcj ⊢
 refine Ctr.bd mixed func166 rfl ?_
 refine sv41 ?_
 refine scs ?_
 refine ck e167 (hcj) rfl ?_
 refine sv41 ?_
 refine Fin.nt results166 [] ?_ ?_ ?_ <;> try trivial
theorem c82 (s:Shelf) (hz:sizShelf s <= 1048576):Ctr prog 82 [.agg ((encShelf s).map .dat)] [] (.one (.dat (.bool (shelfOk s)))) []:=by
 have hmx:maxLen=9223372036854775807:=rfl
 obtain ⟨z1,z2,z3,z4⟩:=shelf_len hz
 have hcb:=c161 s.Base z1
 simp only [encBase,encShelf,List.map_cons,List.map_nil] at hcb ⊢
 refine Ctr.bd mixed func82 rfl ?_
 refine sv17 ?_
 refine scs ?_
 refine ck e161 (hcb) rfl ?_
 refine sv17 ?_
 refine scs ?_
 refine ck e162 (c162 s.Todo z4) rfl ?_
 refine sv17 ?_
 refine scs ?_
 refine ck e57 (c57 ..) rfl ?_
 refine sv17 ?_
 refine scs ?_
 refine ck e163 (c163_k0 s.Cells (by omega) e164 (fun x _=>c164 x)) rfl ?_
 refine sv17 ?_
 refine scs ?_
 refine ck e165 (c165_k0 s.Jobs (by omega) e166 (fun x _=>c166 x)) rfl ?_
 refine sv17 ?_
 refine scs ?_
 refine Fin.nt results82 [] ?_ ?_ ?_ <;> try trivial
 (refine rsl ?_;try exact .intro)
 rw [shelfOk,<- any_not_all,<- any_not_all]
 simp only [Bool.cond_false_right,Bool.and_assoc,ibeq]
theorem c74 (s:Shelf) (hz:sizShelf s <= 1048576):Ctr prog 74 [.agg ((encShelf s).map .dat)] [] (.one (.dat (.bool (shelfOk s)))) []:=by
 have hmx:maxLen=9223372036854775807:=rfl
 obtain ⟨z1,z2,z3,z4⟩:=shelf_len hz
 have hcb:=c147 s.Base z1
 have hco:=fun o=>c149 o
 simp only [encBase,encShelf,encOp,List.map_cons,List.map_nil] at hcb hco ⊢
 refine Ctr.bd mixed func74 rfl ?_
 refine sv17 ?_
 refine scs ?_
 refine ck e147 (hcb) rfl ?_
 refine sv17 ?_
 refine scs ?_
 refine ck e148 (c148 s.Todo z4) rfl ?_
 refine sv17 ?_
 refine scs ?_
 refine ck e67 (c67 ..) rfl ?_
 refine sv17 ?_
 refine scs ?_
 obtain ⟨a,ha⟩:∃ a,a=(baseOk s.Base && (decide ((s.Cells.length:Int)=2) && (decide ((s.Jobs.length:Int)=3) && (todoOk s.Todo && within s.Serial 0 1000000)))):=⟨_,rfl⟩
 have hto:shelfOk s=(a && (s.Cells.all isLink && s.Jobs.all jobOk)):=by
  rw [shelfOk,ha]
  cases baseOk s.Base <;> cases decide ((s.Cells.length:Int)=2) <;> cases decide ((s.Jobs.length:Int)=3) <;> cases todoOk s.Todo <;> cases within s.Serial 0 1000000 <;> simp
 constructor <;> intro hq
 ·have ha0:a=false:=by
   rw [ha]
   revert hq
   cases baseOk s.Base <;> cases todoOk s.Todo <;> cases within s.Serial 0 1000000 <;> simp <;> omega
  refine Fin.nt results74 [] ?_ ?_ ?_ <;> try trivial
  (refine rsl ?_;try exact .intro)
  rw [hto,ha0,Bool.false_and]
 have ha1:baseOk s.Base=true /\ (s.Cells.length:Int)=2 /\ (s.Jobs.length:Int)=3 /\ a=true:=by
  rw [ha]
  revert hq
  cases baseOk s.Base <;> cases todoOk s.Todo <;> cases within s.Serial 0 1000000 <;> simp <;> omega
 obtain ⟨_,hb2,hj3,ha2⟩:=ha1
 rw [ha2,Bool.true_and] at hto
 rw [hto]
 clear hq ha hcb
 refine LoopK_intro (fun zn zs=>∃ i:Nat,i <= 2 /\ zn=2 - i /\ (s.Cells.all isLink=(s.Cells.drop i).all isLink) /\ zs=mkSt [(3,.one (.dat (.int .i64 i))),(1,.one (.ptr (.own 0 0 0)))] [.box [.dat (.sl 1 (s.Base.Mem.Heap.Bytes.map encI)),.dat (.sl 1 (s.Base.Mem.Heap.Class.map encI)),.dat (.sl 1 (s.Base.Mem.Lists.Global.map encSList)),.dat (.sl 1 (s.Base.Mem.Lists.Own.map encSList)),.dat (.int .i64 s.Base.Clock.Epoch),.dat (.sl 4 (s.Base.Clock.Pins.map encPin)),.dat (.sl 1 (s.Base.Limbo.map encLList)),.dat (.sl 1 (s.Base.Haz.map encI)),.dat (.sl 1 (s.Cells.map encI)),.dat (.sl 21 (s.Jobs.map encJob)),.dat (.sl 1 (s.Todo.map encQueue)),.dat (.sl 7 (s.Log.map encEv)),.dat (.int .i64 s.Serial)]]) (2) _
  (Ent.wk [0]) ⟨0,by omega,by omega,rfl,rfl⟩ ?_
 rintro zn zs ⟨i,hi,rfl,hinv,rfl⟩ K hK
 rcases Nat.lt_or_ge i (2) with hlt | hge
 ·have hdi:decide ((i:Int) < ((2:Nat):Int))=true:=decide_eq_true (by omega)
  have hw:=wrap_succ hlt (show 2 <= maxLen by decide)
  have hd3:decide ((i:Int) < 2)=true:=decide_eq_true (by omega)
  have hgi:i < s.Cells.length:=by omega
  rw [List.drop_eq_getElem_cons hgi,List.all_cons] at hinv
  refine sv42 ?_
  refine scs ?_
  refine ck e66 (c66 ..) rfl ?_
  refine sv42 ?_
  refine scs ?_
  constructor <;> intro hq
  ·rw [not_t hq,Bool.false_and] at hinv
   apply hK
   refine sv42 ?_
   refine Fin.nt results74 [] ?_ ?_ ?_ <;> try trivial
   (refine rsl ?_;try exact .intro)
   rw [hinv,Bool.false_and]
  ·rw [not_f hq,Bool.true_and] at hinv
   (apply hK
    exact ⟨2 - (i + 1),_,by omega,Ent.wk [0],i + 1,by omega,rfl,hinv,rfl⟩)
 ·have hge':2=i:=by omega
  subst hge'
  have hdi:decide (((2:Nat):Int) < ((2:Nat):Int))=false:=by simp
  have hd3:decide (((2:Nat):Int) < 2)=false:=rfl
  rw [List.drop_of_length_le (by omega),List.all_nil] at hinv
  have hbk:=hinv
  clear hinv
  refine sv30 ?_
  apply hK
  rw [hbk,Bool.true_and]
  refine evl ?_
  refine LoopK_intro (fun zn zs=>∃ i:Nat,i <= 3 /\ zn=3 - i /\ (s.Jobs.all jobOk=(s.Jobs.drop i).all jobOk) /\ zs=mkSt [(4,.one (.dat (.int .i64 i))),(1,.one (.ptr (.own 0 0 0)))] [.box [.dat (.sl 1 (s.Base.Mem.Heap.Bytes.map encI)),.dat (.sl 1 (s.Base.Mem.Heap.Class.map encI)),.dat (.sl 1 (s.Base.Mem.Lists.Global.map encSList)),.dat (.sl 1 (s.Base.Mem.Lists.Own.map encSList)),.dat (.int .i64 s.Base.Clock.Epoch),.dat (.sl 4 (s.Base.Clock.Pins.map encPin)),.dat (.sl 1 (s.Base.Limbo.map encLList)),.dat (.sl 1 (s.Base.Haz.map encI)),.dat (.sl 1 (s.Cells.map encI)),.dat (.sl 21 (s.Jobs.map encJob)),.dat (.sl 1 (s.Todo.map encQueue)),.dat (.sl 7 (s.Log.map encEv)),.dat (.int .i64 s.Serial)]]) (3) _
   (Ent.wk [0]) ⟨0,by omega,by omega,rfl,rfl⟩ ?_
  rintro zn zs ⟨i,hi,rfl,hinv,rfl⟩ K hK
  rcases Nat.lt_or_ge i (3) with hlt | hge
  ·have hdi:decide ((i:Int) < ((3:Nat):Int))=true:=decide_eq_true (by omega)
   have hw:=wrap_succ hlt (show 3 <= maxLen by decide)
   have hd3:decide ((i:Int) < 3)=true:=decide_eq_true (by omega)
   have hgi:i < s.Jobs.length:=by omega
   rw [List.drop_eq_getElem_cons hgi,List.all_cons] at hinv
   obtain ⟨j,hji⟩:∃ j,s.Jobs[i]=j:=⟨_,rfl⟩
   rw [hji] at hinv
   have hE:(j.Op.Kind == 0 && (j.Op.Cell == 0 && (j.Op.Size == 0 && (j.Op.Val == 0 && (j.Serial == 0 && (j.Pc == 0 && (j.Sub.Kind == 0 && (j.Sub.A == 0 && (j.Sub.Pc == 0 && (j.Sub.E == 0 && (j.Sub.Row == 0 && (j.Sub.B == 0 && (j.Sub.H == 0 && (j.Sub.Out == 0 && (j.Sub.Code == 0 && (!j.Sub.Done && (j.H == 0 && (j.Old == 0 && (j.Val == 0 && j.Code == 0)))))))))))))))))))=jobZ j:=rfl
   have hcj:=hco j.Op
   rcases hbz:j.Busy with _ | _
   ·have hjo:jobOk j=jobZ j:=by rw [jobOk,hbz,cond_false,Bool.eq_iff_iff,jobZ_iff hbz,decide_eq_true_eq]
    rcases hzz:jobZ j with _ | _
    ·rw [hjo,hzz,Bool.false_and] at hinv
     simp (maxSteps:=2000000) only [go_sem,seval,hd3,hw,getD_map hgi,hji,encJob,List.append_eq,hE,hbz,hzz]
     refine scs ?_
     first | refine CCallK_of (.one (.dat (.bool false))) ?_ | refine CCallK_og (.one (.dat (.bool false))) ?_
     refine sv43 ?_
     refine scs ?_
     first | refine CCallK_of (.one (.dat (.bool false))) ?_ | refine CCallK_og (.one (.dat (.bool false))) ?_
     refine sv43 ?_
     refine scs ?_
     first | refine CCallK_of (.one (.dat (.bool false))) ?_ | refine CCallK_og (.one (.dat (.bool false))) ?_
     refine sv43 ?_
     refine scs ?_
     apply hK
     refine sv43 ?_
     refine Fin.nt results74 [] ?_ ?_ ?_ <;> try trivial
     (refine rsl ?_;try exact .intro)
     rw [hinv]
    ·have hz:=(jobZ_iff hbz).1 hzz
     have h1:isLink j.H=true:=by rw [hz];rfl
     have h2:isLink j.Old=true:=by rw [hz];rfl
     rw [hjo,hzz,Bool.true_and] at hinv
     simp (maxSteps:=2000000) only [go_sem,seval,hd3,hw,getD_map hgi,hji,encJob,List.append_eq,hE,hbz,hzz]
     refine scs ?_
     first | refine CCallK_of (.one (.dat (.bool false))) ?_ | refine CCallK_og (.one (.dat (.bool false))) ?_
     refine sv43 ?_
     refine scs ?_
     first | refine CCallK_intro e66 (fun hg=>⟨by first | exact trivial | exact hg | exact ⟨hg,hg⟩ | (simp;done) | (simp_all only [Bool.not_false,Bool.not_true,and_self];done),c66 ..⟩) rfl rfl ?_ | refine Or.inl (CCallK_intro e66 (fun hg=>⟨by first | exact trivial | exact hg | exact ⟨hg,hg⟩ | (simp;done) | (simp_all only [Bool.not_false,Bool.not_true,and_self];done),c66 ..⟩) rfl rfl ?_)
     refine sv44 ?_
     refine scs ?_
     first | refine CCallK_intro e66 (fun hg=>⟨by first | exact trivial | exact hg | exact ⟨hg,hg⟩ | (simp;done) | (simp_all only [Bool.not_false,Bool.not_true,and_self];done),c66 ..⟩) rfl rfl ?_ | refine Or.inl (CCallK_intro e66 (fun hg=>⟨by first | exact trivial | exact hg | exact ⟨hg,hg⟩ | (simp;done) | (simp_all only [Bool.not_false,Bool.not_true,and_self];done),c66 ..⟩) rfl rfl ?_)
     refine sv45 ?_
     refine scs ?_
     (apply hK
      exact ⟨3 - (i + 1),_,by omega,Ent.wk [0],i + 1,by omega,rfl,hinv,rfl⟩)
   ·have hjo:jobOk j=(opOk j.Op && (isLink j.H && isLink j.Old)):=by rw [jobOk,hbz,cond_true]
    rcases ho:opOk j.Op with _ | _
    ·rw [hjo,ho,Bool.false_and,Bool.false_and] at hinv
     refine sv46 ?_
     refine scs ?_
     first | refine CCallK_intro e149 (fun hg=>⟨by first | exact trivial | exact hg | exact ⟨hg,hg⟩ | (simp;done) | (simp_all only [Bool.not_false,Bool.not_true,and_self];done),hcj⟩) rfl rfl ?_ | refine Or.inl (CCallK_intro e149 (fun hg=>⟨by first | exact trivial | exact hg | exact ⟨hg,hg⟩ | (simp;done) | (simp_all only [Bool.not_false,Bool.not_true,and_self];done),hcj⟩) rfl rfl ?_)
     refine sv47 ?_
     refine scs ?_
     first | refine CCallK_of (.one (.dat (.bool false))) ?_ | refine CCallK_og (.one (.dat (.bool false))) ?_
     refine sv43 ?_
     refine scs ?_
     first | refine CCallK_of (.one (.dat (.bool false))) ?_ | refine CCallK_og (.one (.dat (.bool false))) ?_
     refine sv43 ?_
     refine scs ?_
     apply hK
     refine sv43 ?_
     refine Fin.nt results74 [] ?_ ?_ ?_ <;> try trivial
     (refine rsl ?_;try exact .intro)
     rw [hinv]
    rcases h1:isLink j.H with _ | _
    ·rw [hjo,ho,h1,Bool.false_and,Bool.true_and,Bool.false_and] at hinv
     refine sv46 ?_
     refine scs ?_
     first | refine CCallK_intro e149 (fun hg=>⟨by first | exact trivial | exact hg | exact ⟨hg,hg⟩ | (simp;done) | (simp_all only [Bool.not_false,Bool.not_true,and_self];done),hcj⟩) rfl rfl ?_ | refine Or.inl (CCallK_intro e149 (fun hg=>⟨by first | exact trivial | exact hg | exact ⟨hg,hg⟩ | (simp;done) | (simp_all only [Bool.not_false,Bool.not_true,and_self];done),hcj⟩) rfl rfl ?_)
     refine sv47 ?_
     refine scs ?_
     first | refine CCallK_intro e66 (fun hg=>⟨by first | exact trivial | exact hg | exact ⟨hg,hg⟩ | (simp;done) | (simp_all only [Bool.not_false,Bool.not_true,and_self];done),c66 ..⟩) rfl rfl ?_ | refine Or.inl (CCallK_intro e66 (fun hg=>⟨by first | exact trivial | exact hg | exact ⟨hg,hg⟩ | (simp;done) | (simp_all only [Bool.not_false,Bool.not_true,and_self];done),c66 ..⟩) rfl rfl ?_)
     refine sv44 ?_
     refine scs ?_
     first | refine CCallK_of (.one (.dat (.bool false))) ?_ | refine CCallK_og (.one (.dat (.bool false))) ?_
     refine sv43 ?_
     refine scs ?_
     apply hK
     refine sv43 ?_
     refine Fin.nt results74 [] ?_ ?_ ?_ <;> try trivial
     (refine rsl ?_;try exact .intro)
     rw [hinv]
    rcases h2:isLink j.Old with _ | _
    ·rw [hjo,ho,h1,h2,Bool.true_and,Bool.true_and,Bool.false_and] at hinv
     refine sv46 ?_
     refine scs ?_
     first | refine CCallK_intro e149 (fun hg=>⟨by first | exact trivial | exact hg | exact ⟨hg,hg⟩ | (simp;done) | (simp_all only [Bool.not_false,Bool.not_true,and_self];done),hcj⟩) rfl rfl ?_ | refine Or.inl (CCallK_intro e149 (fun hg=>⟨by first | exact trivial | exact hg | exact ⟨hg,hg⟩ | (simp;done) | (simp_all only [Bool.not_false,Bool.not_true,and_self];done),hcj⟩) rfl rfl ?_)
     refine sv47 ?_
     refine scs ?_
     first | refine CCallK_intro e66 (fun hg=>⟨by first | exact trivial | exact hg | exact ⟨hg,hg⟩ | (simp;done) | (simp_all only [Bool.not_false,Bool.not_true,and_self];done),c66 ..⟩) rfl rfl ?_ | refine Or.inl (CCallK_intro e66 (fun hg=>⟨by first | exact trivial | exact hg | exact ⟨hg,hg⟩ | (simp;done) | (simp_all only [Bool.not_false,Bool.not_true,and_self];done),c66 ..⟩) rfl rfl ?_)
     refine sv44 ?_
     refine scs ?_
     first | refine CCallK_intro e66 (fun hg=>⟨by first | exact trivial | exact hg | exact ⟨hg,hg⟩ | (simp;done) | (simp_all only [Bool.not_false,Bool.not_true,and_self];done),c66 ..⟩) rfl rfl ?_ | refine Or.inl (CCallK_intro e66 (fun hg=>⟨by first | exact trivial | exact hg | exact ⟨hg,hg⟩ | (simp;done) | (simp_all only [Bool.not_false,Bool.not_true,and_self];done),c66 ..⟩) rfl rfl ?_)
     refine sv45 ?_
     refine scs ?_
     apply hK
     refine sv43 ?_
     refine Fin.nt results74 [] ?_ ?_ ?_ <;> try trivial
     (refine rsl ?_;try exact .intro)
     rw [hinv]
    ·rw [hjo,ho,h1,h2,Bool.true_and,Bool.true_and,Bool.true_and] at hinv
     refine sv46 ?_
     refine scs ?_
     first | refine CCallK_intro e149 (fun hg=>⟨by first | exact trivial | exact hg | exact ⟨hg,hg⟩ | (simp;done) | (simp_all only [Bool.not_false,Bool.not_true,and_self];done),hcj⟩) rfl rfl ?_ | refine Or.inl (CCallK_intro e149 (fun hg=>⟨by first | exact trivial | exact hg | exact ⟨hg,hg⟩ | (simp;done) | (simp_all only [Bool.not_false,Bool.not_true,and_self];done),hcj⟩) rfl rfl ?_)
     refine sv47 ?_
     refine scs ?_
     first | refine CCallK_intro e66 (fun hg=>⟨by first | exact trivial | exact hg | exact ⟨hg,hg⟩ | (simp;done) | (simp_all only [Bool.not_false,Bool.not_true,and_self];done),c66 ..⟩) rfl rfl ?_ | refine Or.inl (CCallK_intro e66 (fun hg=>⟨by first | exact trivial | exact hg | exact ⟨hg,hg⟩ | (simp;done) | (simp_all only [Bool.not_false,Bool.not_true,and_self];done),c66 ..⟩) rfl rfl ?_)
     refine sv44 ?_
     refine scs ?_
     first | refine CCallK_intro e66 (fun hg=>⟨by first | exact trivial | exact hg | exact ⟨hg,hg⟩ | (simp;done) | (simp_all only [Bool.not_false,Bool.not_true,and_self];done),c66 ..⟩) rfl rfl ?_ | refine Or.inl (CCallK_intro e66 (fun hg=>⟨by first | exact trivial | exact hg | exact ⟨hg,hg⟩ | (simp;done) | (simp_all only [Bool.not_false,Bool.not_true,and_self];done),c66 ..⟩) rfl rfl ?_)
     refine sv45 ?_
     refine scs ?_
     (apply hK
      exact ⟨3 - (i + 1),_,by omega,Ent.wk [0],i + 1,by omega,rfl,hinv,rfl⟩)
  ·have hge':3=i:=by omega
   subst hge'
   have hdi:decide (((3:Nat):Int) < ((3:Nat):Int))=false:=by simp
   have hd3:decide (((3:Nat):Int) < 3)=false:=rfl
   rw [List.drop_of_length_le (by omega),List.all_nil] at hinv
   refine sv30 ?_
   apply hK
   rw [hinv]
   refine evl ?_
   refine Fin.nt results74 [] ?_ ?_ ?_ <;> try trivial
theorem c158 (l:List Job) (hl:l.length <= 16777216):Ctr prog 158 [.one (.dat (.sl 21 (l.map encJob)))] [] (.one (.own 0)) [.vec 21 true (l.map encJob)]:=by
 refine Ctr.bd mixed func158 rfl ?_
 refine evl ?_
 intro b hb
 constructor <;> intro h
 ·have:l=[]:=by simpa using hb h
  subst this
  refine Fin.ent (Ent.emp (t:=2) (sz:=21) rfl) ?_
  refine evl ?_
  refine Fin.nt results158 [0] ?_ ?_ ?_ <;> try trivial
  all_goals exact entd
 ·refine ⟨by simp,⟨by simp [encJob,D.flat],by simp,by omega,by omega⟩,?_⟩
  refine Fin.nt results158 [1] ?_ ?_ ?_ <;> try trivial
  all_goals exact entd
theorem c38 (x:Mem) (hz:sizHeap x.Heap <= 1048576) (hx:x.Lists.sok):Ctr prog 38 [.agg ((encMem x).map .dat)] [] (.agg [.own 0,.own 1,.own 2,.own 3]) [.vec 1 true (x.Heap.Bytes.map encI),.vec 1 true (x.Heap.Class.map encI),.vec 1 true (x.Lists.Global.map encSList),.vec 1 true (x.Lists.Own.map encSList)]:=by
 have hc1:=c106 x.Heap hz
 have hc2:=c107 x.Lists hx
 simp only [encMem,encHeap,encLists,List.map_cons,List.map_nil] at hc1 hc2 ⊢
 refine Ctr.bd mixed func38 rfl ?_
 refine evl ?_
 refine scs ?_
 refine ck e106 (hc1) rfl ?_
 refine evl ?_
 refine scs ?_
 refine ck e107 (hc2) rfl ?_
 refine evl ?_
 repeat ((with_reducible show _=true /\ _);refine ⟨by kernel_rfl,?_⟩)
 refine scs ?_
 refine Fin.nt results38 [2,3,4,5] ?_ ?_ ?_ <;> try trivial
 all_goals exact entd
theorem c116 (h:Heap) (hz:sizHeap h <= 1048576):Ctr prog 116 [.agg ((encHeap h).map .dat)] [] (.agg [.own 0,.own 1]) [.vec 1 true (h.Bytes.map encI),.vec 1 true (h.Class.map encI)]:=by
 unfold sizHeap at hz
 simp only [encHeap,List.map_cons,List.map_nil]
 refine Ctr.bd mixed func116 rfl ?_
 refine evl ?_
 refine scs ?_
 refine ck e145 (c145 h.Bytes (by omega)) rfl ?_
 refine evl ?_
 refine scs ?_
 refine ck e145 (c145 h.Class (by omega)) rfl ?_
 refine evl ?_
 repeat ((with_reducible show _=true /\ _);refine ⟨by kernel_rfl,?_⟩)
 refine scs ?_
 refine Fin.nt results116 [2,3] ?_ ?_ ?_ <;> try trivial
 all_goals exact entd
theorem c117 (x:Lists) (hx:x.sok):Ctr prog 117 [.agg ((encLists x).map .dat)] [] (.agg [.own 0,.own 1]) [.vec 1 true (x.Global.map encSList),.vec 1 true (x.Own.map encSList)]:=by
 obtain ⟨hl1,hq1,hl2,hq2,_⟩:=hx
 simp only [encLists,List.map_cons,List.map_nil]
 refine Ctr.bd mixed func117 rfl ?_
 refine evl ?_
 refine scs ?_
 refine ck e203 (c203 x.Global hl1 hq1) rfl ?_
 refine evl ?_
 refine scs ?_
 refine ck e203 (c203 x.Own hl2 hq2) rfl ?_
 refine evl ?_
 repeat ((with_reducible show _=true /\ _);refine ⟨by kernel_rfl,?_⟩)
 refine scs ?_
 refine Fin.nt results117 [2,3] ?_ ?_ ?_ <;> try trivial
 all_goals exact entd
theorem c44 (x:Mem) (hz:sizHeap x.Heap <= 1048576) (hx:x.Lists.sok):Ctr prog 44 [.agg ((encMem x).map .dat)] [] (.agg [.own 0,.own 1,.own 2,.own 3]) [.vec 1 true (x.Heap.Bytes.map encI),.vec 1 true (x.Heap.Class.map encI),.vec 1 true (x.Lists.Global.map encSList),.vec 1 true (x.Lists.Own.map encSList)]:=by
 have hc1:=c116 x.Heap hz
 have hc2:=c117 x.Lists hx
 simp only [encMem,encHeap,encLists,List.map_cons,List.map_nil] at hc1 hc2 ⊢
 refine Ctr.bd mixed func44 rfl ?_
 refine evl ?_
 refine scs ?_
 refine ck e116 (hc1) rfl ?_
 refine evl ?_
 refine scs ?_
 refine ck e117 (hc2) rfl ?_
 refine evl ?_
 repeat ((with_reducible show _=true /\ _);refine ⟨by kernel_rfl,?_⟩)
 refine scs ?_
 refine Fin.nt results44 [2,3,4,5] ?_ ?_ ?_ <;> try trivial
 all_goals exact entd
theorem c233 (c:Clock) (hz:sizClock c <= 1048576):Ctr prog 233 [.agg ((encClock c).map .dat)] [] (.agg [.dat (.int .i64 c.Epoch),.own 0]) [.vec 4 true (c.Pins.map encPin)]:=by
 unfold sizClock at hz
 simp only [encClock,List.map_cons,List.map_nil]
 refine Ctr.bd mixed func233 rfl ?_
 refine evl ?_
 refine scs ?_
 refine ck e291 (c291 c.Pins (by omega)) rfl ?_
 refine evl ?_
 repeat ((with_reducible show _=true /\ _);refine ⟨by kernel_rfl,?_⟩)
 refine scs ?_
 refine Fin.nt results233 [2] ?_ ?_ ?_ <;> try trivial
 all_goals exact entd
theorem c219 (c:Clock) (hz:sizClock c <= 1048576):Ctr prog 219 [.agg ((encClock c).map .dat)] [] (.agg [.dat (.int .i64 c.Epoch),.own 0]) [.vec 4 true (c.Pins.map encPin)]:=by
 unfold sizClock at hz
 have hfl:∀ r ∈ c.Pins.map encPin,∀ d ∈ r,d.flat=true:=by
  intro r hr d hd
  obtain ⟨y,_,rfl⟩:=List.mem_map.1 hr
  simp only [encPin,List.mem_cons,List.not_mem_nil,or_false] at hd
  rcases hd with rfl | rfl | rfl | rfl <;> rfl
 simp only [encClock,List.map_cons,List.map_nil]
 refine Ctr.bd mixed func219 rfl ?_
 refine sv17 ?_
 refine FloatR_intro [(0,[]),(1,[]),(2,[]),(3,[]),(4,[]),(5,[0,1]),(6,[]),(7,[])] (by kernel_rfl) ?_
 refine sv17 ?_
 repeat ((with_reducible show _=true /\ _);refine ⟨by kernel_rfl,?_⟩)
 refine scs ?_
 refine Fin.nt results219 [2] ?_ ?_ ?_ <;> try trivial
 all_goals exact entd
theorem c234 (l:List LList) (hl:l.length <= 1048576) (hq:∀ x ∈ l,x.sok):Ctr prog 234 [.one (.dat (.sl 1 (l.map encLList)))] [] (.one (.own 0)) [.vec 1 true (l.map encLList)]:=by
 refine Ctr.bd mixed func234 rfl ?_
 refine evl ?_
 refine scs ?_
 refine LoopK_intro (fun zn zs=>∃ (i:Nat) (o:List LList),i <= l.length /\ zn=l.length - i /\ (l=o ++ l.drop i /\ o.length=i) /\ zs=mkSt [(9,.one (.dat (.int .i64 i))),(8,.one (.dat (.int .i64 (l.length)))),(7,.one (.dat (.sl 1 (l.map encLList)))),(3,.one (.own 0)),(0,.one (.dat (.sl 1 (l.map encLList))))] [.vec 1 true (o.map encLList)]) (l.length) _
  (Ent.wk [0]) ⟨0,[],by omega,by omega,⟨rfl,rfl⟩,rfl⟩ ?_
 rintro zn zs ⟨i,o,hi,rfl,hinv,rfl⟩ K hK
 rcases Nat.lt_or_ge i (l.length) with hlt | hge
 ·have hdi:decide ((i:Int) < ((l.length:Nat):Int))=true:=decide_eq_true (by omega)
  have hw:=wrap_succ hlt (show l.length <= maxLen by unfold maxLen;omega)
  obtain ⟨hin,hol⟩:=hinv
  obtain ⟨q0,_⟩:=hq l[i] (List.getElem_mem hlt)
  rw [List.drop_eq_getElem_cons hlt] at hin
  obtain ⟨x,hxi⟩:∃ x,l[i]=x:=⟨_,rfl⟩
  rw [hxi] at hin q0
  refine sv48 ?_
  refine scs ?_
  refine ck e292 (c292 x.Rows (by omega)) rfl ?_
  refine sv48 ?_
  refine scs ?_
  (apply hK
   exact ⟨l.length - (i + 1),_,by omega,Ent.wk [4],i + 1,(o ++ [x]),by omega,rfl,⟨by rw [List.append_assoc];exact hin,by simp [hol]⟩,rfl⟩)
 ·have hge':l.length=i:=by omega
  subst hge'
  have hdi:decide (((l.length:Nat):Int) < ((l.length:Nat):Int))=false:=by simp
  have hoe:l=o:=by have:=hinv.1;rw [List.drop_length,List.append_nil] at this;exact this
  clear hinv
  refine sv4 ?_
  apply hK
  refine evl ?_
  rw [hoe]
  refine Fin.nt results234 [0] ?_ ?_ ?_ <;> try trivial
  all_goals exact entd
theorem c220 (l:List LList) (hl:l.length <= 1048576) (hq:∀ x ∈ l,x.sok):Ctr prog 220 [.one (.dat (.sl 1 (l.map encLList)))] [] (.one (.own 0)) [.vec 1 true (l.map encLList)]:=by
 refine Ctr.bd mixed func220 rfl ?_
 refine evl ?_
 refine scs ?_
 refine LoopK_intro (fun zn zs=>∃ (i:Nat) (o:List LList),i <= l.length /\ zn=l.length - i /\ (l=o ++ l.drop i /\ o.length=i) /\ zs=mkSt [(4,.one (.dat (.int .i64 i))),(3,.one (.own 0)),(0,.one (.dat (.sl 1 (l.map encLList))))] [.vec 1 true (o.map encLList)]) (l.length) _
  (Ent.wk [0]) ⟨0,[],by omega,by omega,⟨rfl,rfl⟩,rfl⟩ ?_
 rintro zn zs ⟨i,o,hi,rfl,hinv,rfl⟩ K hK
 rcases Nat.lt_or_ge i (l.length) with hlt | hge
 ·have hdi:decide ((i:Int) < ((l.length:Nat):Int))=true:=decide_eq_true (by omega)
  have hw:=wrap_succ hlt (show l.length <= maxLen by unfold maxLen;omega)
  obtain ⟨hin,hol⟩:=hinv
  obtain ⟨q0,_⟩:=hq l[i] (List.getElem_mem hlt)
  rw [List.drop_eq_getElem_cons hlt] at hin
  obtain ⟨x,hxi⟩:∃ x,l[i]=x:=⟨_,rfl⟩
  rw [hxi] at hin q0
  have hfl:∀ r ∈ x.Rows.map encLRow,∀ d ∈ r,d.flat=true:=by
   intro r hr d hd
   obtain ⟨y,_,rfl⟩:=List.mem_map.1 hr
   simp only [encLRow,List.mem_cons,List.not_mem_nil,or_false] at hd
   rcases hd with rfl | rfl <;> rfl
  refine sv48 ?_
  refine scs ?_
  (apply hK
   exact ⟨l.length - (i + 1),_,by omega,Ent.wk [4],i + 1,(o ++ [x]),by omega,rfl,⟨by rw [List.append_assoc];exact hin,by simp [hol]⟩,rfl⟩)
 ·have hge':l.length=i:=by omega
  subst hge'
  have hdi:decide (((l.length:Nat):Int) < ((l.length:Nat):Int))=false:=by simp
  have hoe:l=o:=by have:=hinv.1;rw [List.drop_length,List.append_nil] at this;exact this
  clear hinv
  refine sv4 ?_
  apply hK
  refine evl ?_
  rw [hoe]
  refine Fin.nt results220 [0] ?_ ?_ ?_ <;> try trivial
  all_goals exact entd
theorem c159 (l:List Queue) (hl:l.length <= 1048576) (hq:∀ x ∈ l,x.sok):Ctr prog 159 [.one (.dat (.sl 1 (l.map encQueue)))] [] (.one (.own 0)) [.vec 1 true (l.map encQueue)]:=by
 refine Ctr.bd mixed func159 rfl ?_
 refine evl ?_
 refine scs ?_
 refine LoopK_intro (fun zn zs=>∃ (i:Nat) (o:List Queue),i <= l.length /\ zn=l.length - i /\ (l=o ++ l.drop i /\ o.length=i) /\ zs=mkSt [(9,.one (.dat (.int .i64 i))),(8,.one (.dat (.int .i64 (l.length)))),(7,.one (.dat (.sl 1 (l.map encQueue)))),(3,.one (.own 0)),(0,.one (.dat (.sl 1 (l.map encQueue))))] [.vec 1 true (o.map encQueue)]) (l.length) _
  (Ent.wk [0]) ⟨0,[],by omega,by omega,⟨rfl,rfl⟩,rfl⟩ ?_
 rintro zn zs ⟨i,o,hi,rfl,hinv,rfl⟩ K hK
 rcases Nat.lt_or_ge i (l.length) with hlt | hge
 ·have hdi:decide ((i:Int) < ((l.length:Nat):Int))=true:=decide_eq_true (by omega)
  have hw:=wrap_succ hlt (show l.length <= maxLen by unfold maxLen;omega)
  obtain ⟨hin,hol⟩:=hinv
  obtain ⟨q0,_⟩:=hq l[i] (List.getElem_mem hlt)
  rw [List.drop_eq_getElem_cons hlt] at hin
  obtain ⟨x,hxi⟩:∃ x,l[i]=x:=⟨_,rfl⟩
  rw [hxi] at hin q0
  refine sv49 ?_
  refine scs ?_
  refine ck e235 (c235 x.Ops (by omega)) rfl ?_
  refine sv49 ?_
  refine scs ?_
  (apply hK
   exact ⟨l.length - (i + 1),_,by omega,Ent.wk [4],i + 1,(o ++ [x]),by omega,rfl,⟨by rw [List.append_assoc];exact hin,by simp [hol]⟩,rfl⟩)
 ·have hge':l.length=i:=by omega
  subst hge'
  have hdi:decide (((l.length:Nat):Int) < ((l.length:Nat):Int))=false:=by simp
  have hoe:l=o:=by have:=hinv.1;rw [List.drop_length,List.append_nil] at this;exact this
  clear hinv
  refine sv4 ?_
  apply hK
  refine evl ?_
  rw [hoe]
  refine Fin.nt results159 [0] ?_ ?_ ?_ <;> try trivial
  all_goals exact entd
theorem c146 (l:List Queue) (hl:l.length <= 1048576) (hq:∀ x ∈ l,x.sok):Ctr prog 146 [.one (.dat (.sl 1 (l.map encQueue)))] [] (.one (.own 0)) [.vec 1 true (l.map encQueue)]:=by
 refine Ctr.bd mixed func146 rfl ?_
 refine evl ?_
 refine scs ?_
 refine LoopK_intro (fun zn zs=>∃ (i:Nat) (o:List Queue),i <= l.length /\ zn=l.length - i /\ (l=o ++ l.drop i /\ o.length=i) /\ zs=mkSt [(4,.one (.dat (.int .i64 i))),(3,.one (.own 0)),(0,.one (.dat (.sl 1 (l.map encQueue))))] [.vec 1 true (o.map encQueue)]) (l.length) _
  (Ent.wk [0]) ⟨0,[],by omega,by omega,⟨rfl,rfl⟩,rfl⟩ ?_
 rintro zn zs ⟨i,o,hi,rfl,hinv,rfl⟩ K hK
 rcases Nat.lt_or_ge i (l.length) with hlt | hge
 ·have hdi:decide ((i:Int) < ((l.length:Nat):Int))=true:=decide_eq_true (by omega)
  have hw:=wrap_succ hlt (show l.length <= maxLen by unfold maxLen;omega)
  obtain ⟨hin,hol⟩:=hinv
  obtain ⟨q0,_⟩:=hq l[i] (List.getElem_mem hlt)
  rw [List.drop_eq_getElem_cons hlt] at hin
  obtain ⟨x,hxi⟩:∃ x,l[i]=x:=⟨_,rfl⟩
  rw [hxi] at hin q0
  have hfl:∀ r ∈ x.Ops.map encOp,∀ d ∈ r,d.flat=true:=by
   intro r hr d hd
   obtain ⟨y,_,rfl⟩:=List.mem_map.1 hr
   simp only [encOp,List.mem_cons,List.not_mem_nil,or_false] at hd
   rcases hd with rfl | rfl | rfl | rfl <;> rfl
  refine sv49 ?_
  refine scs ?_
  (apply hK
   exact ⟨l.length - (i + 1),_,by omega,Ent.wk [4],i + 1,(o ++ [x]),by omega,rfl,⟨by rw [List.append_assoc];exact hin,by simp [hol]⟩,rfl⟩)
 ·have hge':l.length=i:=by omega
  subst hge'
  have hdi:decide (((l.length:Nat):Int) < ((l.length:Nat):Int))=false:=by simp
  have hoe:l=o:=by have:=hinv.1;rw [List.drop_length,List.append_nil] at this;exact this
  clear hinv
  refine sv4 ?_
  apply hK
  refine evl ?_
  rw [hoe]
  refine Fin.nt results146 [0] ?_ ?_ ?_ <;> try trivial
  all_goals exact entd
theorem c156 (x:Base) (hz:sizBase x <= 1048576) (hx:x.sok):Ctr prog 156 [.agg ((encBase x).map .dat)] [] (.agg [.own 0,.own 1,.own 2,.own 3,.dat (.int .i64 x.Clock.Epoch),.own 4,.own 5,.own 6]) [.vec 1 true (x.Mem.Heap.Bytes.map encI),.vec 1 true (x.Mem.Heap.Class.map encI),.vec 1 true (x.Mem.Lists.Global.map encSList),.vec 1 true (x.Mem.Lists.Own.map encSList),.vec 4 true (x.Clock.Pins.map encPin),.vec 1 true (x.Limbo.map encLList),.vec 1 true (x.Haz.map encI)]:=by
 obtain ⟨⟨_,qL,_⟩,_,q1,q2,_⟩:=hx
 unfold sizBase at hz
 have hm:=hz
 unfold sizMem at hm
 have hc1:=c38 x.Mem (by omega) qL
 have hc2:=c233 x.Clock (by omega)
 have hc3:=c234 x.Limbo q1 q2
 simp only [encMem,encClock,encBase,List.map_cons,List.map_nil] at hc1 hc2 ⊢
 refine Ctr.bd mixed func156 rfl ?_
 refine evl ?_
 refine scs ?_
 refine ck e38 (hc1) rfl ?_
 refine evl ?_
 refine scs ?_
 refine ck e233 (hc2) rfl ?_
 refine evl ?_
 refine scs ?_
 refine ck e234 (hc3) rfl ?_
 refine evl ?_
 refine scs ?_
 refine ck e157 (c157 x.Haz (by omega)) rfl ?_
 refine evl ?_
 repeat ((with_reducible show _=true /\ _);refine ⟨by kernel_rfl,?_⟩)
 refine scs ?_
 refine Fin.nt results156 [2,3,4,5,6,7,8] ?_ ?_ ?_ <;> try trivial
 all_goals exact entd
theorem c144 (x:Base) (hz:sizBase x <= 1048576) (hx:x.sok):Ctr prog 144 [.agg ((encBase x).map .dat)] [] (.agg [.own 0,.own 1,.own 2,.own 3,.dat (.int .i64 x.Clock.Epoch),.own 4,.own 5,.own 6]) [.vec 1 true (x.Mem.Heap.Bytes.map encI),.vec 1 true (x.Mem.Heap.Class.map encI),.vec 1 true (x.Mem.Lists.Global.map encSList),.vec 1 true (x.Mem.Lists.Own.map encSList),.vec 4 true (x.Clock.Pins.map encPin),.vec 1 true (x.Limbo.map encLList),.vec 1 true (x.Haz.map encI)]:=by
 obtain ⟨⟨_,qL,_⟩,_,q1,q2,_⟩:=hx
 unfold sizBase at hz
 have hm:=hz
 unfold sizMem at hm
 have hc1:=c44 x.Mem (by omega) qL
 have hc2:=c219 x.Clock (by omega)
 have hc3:=c220 x.Limbo q1 q2
 simp only [encMem,encClock,encBase,List.map_cons,List.map_nil] at hc1 hc2 ⊢
 refine Ctr.bd mixed func144 rfl ?_
 refine evl ?_
 refine scs ?_
 refine ck e44 (hc1) rfl ?_
 refine evl ?_
 refine scs ?_
 refine ck e219 (hc2) rfl ?_
 refine evl ?_
 refine scs ?_
 refine ck e220 (hc3) rfl ?_
 refine evl ?_
 refine scs ?_
 refine ck e145 (c145 x.Haz (by omega)) rfl ?_
 refine evl ?_
 repeat ((with_reducible show _=true /\ _);refine ⟨by kernel_rfl,?_⟩)
 refine scs ?_
 refine Fin.nt results144 [2,3,4,5,6,7,8] ?_ ?_ ?_ <;> try trivial
 all_goals exact entd
theorem c81 (x:Shelf) (hz:sizShelf x <= 1048576) (hx:x.sok):Ctr prog 81 [.agg ((encShelf x).map .dat)] [] (.agg [.own 0,.own 1,.own 2,.own 3,.dat (.int .i64 x.Base.Clock.Epoch),.own 4,.own 5,.own 6,.own 7,.own 8,.own 9,.own 10,.dat (.int .i64 x.Serial)]) [.vec 1 true (x.Base.Mem.Heap.Bytes.map encI),.vec 1 true (x.Base.Mem.Heap.Class.map encI),.vec 1 true (x.Base.Mem.Lists.Global.map encSList),.vec 1 true (x.Base.Mem.Lists.Own.map encSList),.vec 4 true (x.Base.Clock.Pins.map encPin),.vec 1 true (x.Base.Limbo.map encLList),.vec 1 true (x.Base.Haz.map encI),.vec 1 true (x.Cells.map encI),.vec 21 true (x.Jobs.map encJob),.vec 1 true (x.Todo.map encQueue),.vec 7 true (x.Log.map encEv)]:=by
 obtain ⟨qB,q1,q2,q3,q4,q5,_⟩:=hx
 unfold sizShelf at hz
 have hc1:=c156 x.Base (by omega) qB
 simp only [encBase,encShelf,List.map_cons,List.map_nil] at hc1 ⊢
 refine Ctr.bd mixed func81 rfl ?_
 refine evl ?_
 refine scs ?_
 refine ck e156 (hc1) rfl ?_
 refine evl ?_
 refine scs ?_
 refine ck e157 (c157 x.Cells (by omega)) rfl ?_
 refine evl ?_
 refine scs ?_
 refine ck e158 (c158 x.Jobs (by omega)) rfl ?_
 refine evl ?_
 refine scs ?_
 refine ck e159 (c159 x.Todo (by omega) (by assumption)) rfl ?_
 refine evl ?_
 refine scs ?_
 refine ck e160 (c160 x.Log (by omega)) rfl ?_
 refine evl ?_
 repeat ((with_reducible show _=true /\ _);refine ⟨by kernel_rfl,?_⟩)
 refine scs ?_
 refine Fin.nt results81 [2,3,4,5,6,7,8,9,10,11,12] ?_ ?_ ?_ <;> try trivial
 all_goals exact entd
theorem c73 (x:Shelf) (hz:sizShelf x <= 1048576) (hx:x.sok):Ctr prog 73 [.agg ((encShelf x).map .dat)] [] (.agg [.own 0,.own 1,.own 2,.own 3,.dat (.int .i64 x.Base.Clock.Epoch),.own 4,.own 5,.own 6,.own 7,.own 8,.own 9,.own 10,.dat (.int .i64 x.Serial)]) [.vec 1 true (x.Base.Mem.Heap.Bytes.map encI),.vec 1 true (x.Base.Mem.Heap.Class.map encI),.vec 1 true (x.Base.Mem.Lists.Global.map encSList),.vec 1 true (x.Base.Mem.Lists.Own.map encSList),.vec 4 true (x.Base.Clock.Pins.map encPin),.vec 1 true (x.Base.Limbo.map encLList),.vec 1 true (x.Base.Haz.map encI),.vec 1 true (x.Cells.map encI),.vec 21 true (x.Jobs.map encJob),.vec 1 true (x.Todo.map encQueue),.vec 7 true (x.Log.map encEv)]:=by
 obtain ⟨qB,q1,q2,q3,q4,q5,_⟩:=hx
 unfold sizShelf at hz
 have hc1:=c144 x.Base (by omega) qB
 have hf1:∀ r ∈ x.Jobs.map encJob,∀ d ∈ r,d.flat=true:=by
  intro r hr d hd
  obtain ⟨y,_,rfl⟩:=List.mem_map.1 hr
  simp only [encJob,List.mem_cons,List.not_mem_nil,or_false] at hd
  repeat first | (subst hd;rfl) | (rcases hd with rfl | hd;rfl)
 have hf2:∀ r ∈ x.Log.map encEv,∀ d ∈ r,d.flat=true:=by
  intro r hr d hd
  obtain ⟨y,_,rfl⟩:=List.mem_map.1 hr
  simp only [encEv,List.mem_cons,List.not_mem_nil,or_false] at hd
  repeat first | (subst hd;rfl) | (rcases hd with rfl | hd;rfl)
 simp only [encBase,encShelf,List.map_cons,List.map_nil] at hc1 ⊢
 refine Ctr.bd mixed func73 rfl ?_
 refine sv17 ?_
 refine FloatR_intro [(0,[]),(1,[]),(3,[]),(4,[]),(6,[]),(7,[]),(8,[]),(10,[]),(11,[]),(13,[]),(14,[]),(15,[]),(17,[]),(18,[]),(2,[3,4,6,7,8,10,11,13,14,15,17,18]),(5,[6,7,8,10,11,13,14,15,17,18]),(9,[10,11,13,14,15,17,18]),(12,[13,14,15,17,18]),(16,[17,18]),(19,[]),(20,[])] (by kernel_rfl) ?_
 refine sv17 ?_
 refine scs ?_
 refine ck e144 (hc1) rfl ?_
 refine sv17 ?_
 refine scs ?_
 refine ck e145 (c145 x.Cells (by omega)) rfl ?_
 refine sv17 ?_
 refine scs ?_
 refine ck e146 (c146 x.Todo (by omega) (by assumption)) rfl ?_
 refine sv17 ?_
 repeat ((with_reducible show _=true /\ _);refine ⟨by kernel_rfl,?_⟩)
 refine scs ?_
 refine Fin.nt results73 [2,3,4,5,6,7,8,9,10,11,12] ?_ ?_ ?_ <;> try trivial
 all_goals exact entd
def collectOp:Mod.Op:=⟨4,0,0,0⟩
def idle (s:Shelf):Bool:=s.Jobs.all (fun j=>!j.Busy) && s.Todo.all (fun q=>decide ((q.Ops.length:Int)=0))
def collectQ (n:Int) (q:Queue):Queue:=⟨q.Ops ++ List.replicate n.toNat collectOp⟩
def collectM (s:Shelf) (n:Int):Shelf:=bif shelfOk s && (idle s && within n 0 12) then { s with Todo:=s.Todo.map (collectQ n) } else s
def shParts (x:Shelf):Prop:=sizBase x.Base <= 1048576 /\ x.Cells.length <= 1048576 /\ x.Jobs.length <= 1048576 /\ sizQueueS x.Todo <= 1048576 /\ x.Log.length <= 1048576
def colT (n i:Nat):List Queue:=List.replicate i ⟨List.replicate n collectOp⟩ ++ List.replicate (3 - i) ⟨[]⟩
theorem shParts_of {x:Shelf} (h:sizShelf x <= 1048576):shParts x:=by
 unfold sizShelf at h
 exact ⟨by omega,by omega,by omega,by omega,by omega⟩
theorem collect_todo {s:Shelf} {n:Int} (h:(shelfOk s && (idle s && within n 0 12))=true):s.Todo.length=3 /\ (∀ q ∈ s.Todo,q.Ops=[]) /\ 0 <= n /\ n <= 12:=by
 rw [Bool.and_eq_true,Bool.and_eq_true] at h
 obtain ⟨h1,h2,h3⟩:=h
 unfold within at h3
 rw [decide_eq_true_eq] at h3
 refine ⟨?_,fun q hq=>?_,h3⟩
 ·unfold shelfOk todoOk at h1
  simp only [Bool.and_eq_true,decide_eq_true_eq] at h1
  omega
 ·unfold idle at h2
  rw [Bool.and_eq_true,List.all_eq_true,List.all_eq_true] at h2
  have:=of_decide_eq_true (h2.2 q hq)
  exact List.eq_nil_of_length_eq_zero (by omega)
theorem queues3 {l:List Queue} (h:l.length=3) (h0:∀ q ∈ l,q.Ops=[]):l=List.replicate 3 ⟨[]⟩:=by
 refine List.eq_replicate_iff.2 ⟨h,fun q hq=>?_⟩
 have:=h0 q hq
 cases q
 exact congrArg Queue.mk this
theorem colT_of {l:List Queue} {n:Nat} (h:l.length=3) (h0:∀ q ∈ l,q.Ops=[]):l=colT n 0:=queues3 h h0
theorem colT_map {l:List Queue} {n:Int} (h:l.length=3) (h0:∀ q ∈ l,q.Ops=[]):l.map (collectQ n)=colT n.toNat 3:=by
 rw [queues3 h h0,List.map_replicate]
 rfl
theorem collect_siz {s:Shelf} {n:Int} (h:(shelfOk s && (idle s && within n 0 12))=true):sizQueueS (s.Todo.map (collectQ n)) <= 39 /\ ∀ q ∈ s.Todo.map (collectQ n),q.Ops.length <= 12:=by
 obtain ⟨h1,h2,h3,h4⟩:=collect_todo h
 have hq:∀ q ∈ s.Todo.map (collectQ n),q.Ops.length <= 12:=fun q hq=>by
  obtain ⟨q',hq',rfl⟩:=List.mem_map.1 hq
  show (q'.Ops ++ List.replicate n.toNat collectOp).length <= 12
  rw [h2 q' hq',List.nil_append,List.length_replicate];omega
 refine ⟨?_,hq⟩
 unfold sizQueueS
 have hs:∀ l:List Queue,(∀ q ∈ l,q.Ops.length <= 12) -> (l.map sizQueue).sum <= 12 * l.length:=by
  intro l
  induction l with
  | nil=>intro _;exact Nat.le_refl _
  | cons x l ih =>
   intro hl
   have h1:=ih fun q hq=>hl q (by simp [hq])
   have h2:=hl x (by simp)
   rw [List.map_cons,List.sum_cons,List.length_cons]
   unfold sizQueue at h1 ⊢
   omega
 have:=hs _ hq
 rw [List.length_map,h1] at this ⊢
 omega
theorem collect_bnd {s:Shelf} {n:Int} (hz:sizShelf s <= 1048576):shParts (collectM s n) /\ (collectM s n).sok /\ sizShelf (collectM s n) <= 1048615:=by
 unfold collectM
 cases h:shelfOk s && (idle s && within n 0 12) with
 | false=>exact ⟨shParts_of hz,Shelf.sok_of hz,by rw [cond_false];omega⟩
 | true =>
  rw [cond_true]
  obtain ⟨p1,p2,p3,p4,p5⟩:=shParts_of hz
  obtain ⟨q1,q2⟩:=collect_siz h
  obtain ⟨r1,r2,r3,r4,r5,r6,_⟩:=Shelf.sok_of hz
  obtain ⟨t1,_⟩:=collect_todo h
  refine ⟨⟨p1,p2,p3,by show sizQueueS (s.Todo.map (collectQ n)) <= 1048576;omega,p5⟩,⟨r1,r2,r3,?_,fun y hy=>?_,r6,trivial⟩,?_⟩
  ·show (s.Todo.map (collectQ n)).length <= 1048576
   rw [List.length_map];exact r4
  ·have:=q2 y hy
   exact ⟨by omega,trivial⟩
  ·unfold sizShelf at hz ⊢
   show sizBase s.Base + s.Cells.length + s.Jobs.length + sizQueueS (s.Todo.map (collectQ n)) + s.Log.length <= 1048615
   omega
theorem c32_p (x y:Shelf) (hx:shParts x) (hy:shParts y):Ctr prog 32 [.agg ((encShelf x).map .dat),.agg ((encShelf y).map .dat)] [] (.one (.dat (.bool (decide (x=y))))) []:=by
 simp only [encShelf,List.map_cons,List.map_nil]
 obtain ⟨x1,x2,x3,x4,x5⟩:=hx
 obtain ⟨y1,y2,y3,y4,y5⟩:=hy
 have hm:maxLen=9223372036854775807:=rfl
 refine Ctr.bd mixed func32 rfl ?_
 refine evl ?_
 refine ck e85 (c85 x.Base y.Base (by omega) (by omega)) rfl ?_
 refine evl ?_
 constructor <;> intro h
 ·refine Fin.nt results32 [] ?_ ?_ ?_ <;> try trivial
  (refine rsl ?_;try exact .intro)
  simp_all [Shelf.eq_iff]
 have eBase:=h;clear h
 refine ck e86 (c86 x.Cells y.Cells (by omega) (by omega)) rfl ?_
 refine evl ?_
 constructor <;> intro h
 ·refine Fin.nt results32 [] ?_ ?_ ?_ <;> try trivial
  (refine rsl ?_;try exact .intro)
  simp_all [Shelf.eq_iff]
 have eCells:=h;clear h
 refine ck e87 (c87 x.Jobs y.Jobs (by omega) (by omega)) rfl ?_
 refine evl ?_
 constructor <;> intro h
 ·refine Fin.nt results32 [] ?_ ?_ ?_ <;> try trivial
  (refine rsl ?_;try exact .intro)
  simp_all [Shelf.eq_iff]
 have eJobs:=h;clear h
 refine ck e88 (c88 x.Todo y.Todo (by omega) (by omega)) rfl ?_
 refine evl ?_
 constructor <;> intro h
 ·refine Fin.nt results32 [] ?_ ?_ ?_ <;> try trivial
  (refine rsl ?_;try exact .intro)
  simp_all [Shelf.eq_iff]
 have eTodo:=h;clear h
 refine ck e89 (c89 x.Log y.Log (by omega) (by omega)) rfl ?_
 refine evl ?_
 constructor <;> intro h
 ·refine Fin.nt results32 [] ?_ ?_ ?_ <;> try trivial
  (refine rsl ?_;try exact .intro)
  simp_all [Shelf.eq_iff]
 have eLog:=h;clear h
 constructor <;> intro h
 ·refine Fin.nt results32 [] ?_ ?_ ?_ <;> try trivial
  (refine rsl ?_;try exact .intro)
  simp_all [Shelf.eq_iff]
 have eSerial:=h;clear h
 refine Fin.nt results32 [] ?_ ?_ ?_ <;> try trivial
 (refine rsl ?_;try exact .intro)
 simp_all [Shelf.eq_iff]
theorem c168 (x:Job):Ctr prog 168 [.agg ((encJob x).map .dat)] [] (.one (.dat (.bool x.Busy))) []:=by
 simp only [encJob,List.map_cons,List.map_nil]
 refine Ctr.bd mixed func168 rfl ?_
 refine sv41 ?_
 refine scs ?_
 refine Fin.nt results168 [] ?_ ?_ ?_ <;> try trivial
theorem c170 (x:Queue):Ctr prog 170 [.agg ((encQueue x).map .dat)] [] (.one (.dat (.bool (decide ((0:Int) < (x.Ops.length:Int)))))) []:=by
 simp only [encQueue,List.map_cons,List.map_nil]
 refine Ctr.bd mixed func170 rfl ?_
 refine sv17 ?_
 refine scs ?_
 refine Fin.nt results170 [] ?_ ?_ ?_ <;> try trivial
theorem c83 (s:Shelf) (hz:sizShelf s <= 1048576):Ctr prog 83 [.agg ((encShelf s).map .dat)] [] (.one (.dat (.bool (idle s)))) []:=by
 have hmx:maxLen=9223372036854775807:=rfl
 obtain ⟨p1,p2,p3,p4,p5⟩:=shParts_of hz
 have ht:=(shelf_len hz).2.2.2
 obtain ⟨tl,_⟩:=todo_len ht
 simp only [encShelf,List.map_cons,List.map_nil]
 refine Ctr.bd mixed func83 rfl ?_
 refine sv17 ?_
 refine scs ?_
 refine ck e165 (c165_k0 s.Jobs (by omega) e168 (fun x _=>c168 x)) rfl ?_
 refine sv17 ?_
 refine scs ?_
 refine ck e169 (c169_k0 s.Todo (by omega) e170 (fun x _=>c170 x)) rfl ?_
 refine sv17 ?_
 refine scs ?_
 refine Fin.nt results83 [] ?_ ?_ ?_ <;> try trivial
 (refine rsl ?_;try exact .intro)
 unfold idle
 have h1:(s.Jobs.any fun x=>x.Busy)=!(s.Jobs.all fun j=>!j.Busy):=by rw [List.not_all_eq_any_not];simp
 have h2:(s.Todo.any fun x=>decide ((0:Int) < (x.Ops.length:Int)))=!(s.Todo.all fun q=>decide ((q.Ops.length:Int)=0)):=by
  rw [List.not_all_eq_any_not]
  congr 1
  funext q
  rw [<- decide_not,decide_eq_decide]
  omega
 rw [h1,h2]
 simp only [Bool.not_not]
 first | rfl | (cases (s.Jobs.all fun j=>!j.Busy) <;> rfl)
theorem c75 (s:Shelf) (hz:sizShelf s <= 1048576):Ctr prog 75 [.agg ((encShelf s).map .dat)] [] (.one (.dat (.bool (idle s)))) []:=by
 have hmx:maxLen=9223372036854775807:=rfl
 obtain ⟨p1,p2,p3,p4,p5⟩:=shParts_of hz
 have ht:=(shelf_len hz).2.2.2
 obtain ⟨tl,hql⟩:=todo_len ht
 obtain ⟨A,hA⟩:∃ A,s.Todo.all (fun q=>decide ((q.Ops.length:Int)=0))=A:=⟨_,rfl⟩
 have hid:idle s=(s.Jobs.all (fun j=>!j.Busy) && A):=by rw [<- hA];rfl
 rw [hid]
 simp only [encShelf,List.map_cons,List.map_nil]
 refine Ctr.bd mixed func75 rfl ?_
 refine sv17 ?_
 refine LoopK_intro (fun zn zs=>∃ i:Nat,i <= s.Jobs.length /\ zn=s.Jobs.length - i /\ (s.Jobs.all (fun j=>!j.Busy)=(s.Jobs.drop i).all (fun j=>!j.Busy)) /\ zs=mkSt [(3,.one (.dat (.int .i64 i))),(1,.one (.ptr (.own 0 0 0)))] [.box [.dat (.sl 1 (s.Base.Mem.Heap.Bytes.map encI)),.dat (.sl 1 (s.Base.Mem.Heap.Class.map encI)),.dat (.sl 1 (s.Base.Mem.Lists.Global.map encSList)),.dat (.sl 1 (s.Base.Mem.Lists.Own.map encSList)),.dat (.int .i64 s.Base.Clock.Epoch),.dat (.sl 4 (s.Base.Clock.Pins.map encPin)),.dat (.sl 1 (s.Base.Limbo.map encLList)),.dat (.sl 1 (s.Base.Haz.map encI)),.dat (.sl 1 (s.Cells.map encI)),.dat (.sl 21 (s.Jobs.map encJob)),.dat (.sl 1 (s.Todo.map encQueue)),.dat (.sl 7 (s.Log.map encEv)),.dat (.int .i64 s.Serial)]]) (s.Jobs.length) _
  (Ent.wk [0]) ⟨0,by omega,by omega,rfl,rfl⟩ ?_
 rintro zn zs ⟨i,hi,rfl,hinv,rfl⟩ K hK
 rcases Nat.lt_or_ge i (s.Jobs.length) with hlt | hge
 ·have hdi:decide ((i:Int) < ((s.Jobs.length:Nat):Int))=true:=decide_eq_true (by omega)
  have hw:=wrap_succ hlt (show s.Jobs.length <= maxLen by omega)
  rw [List.drop_eq_getElem_cons hlt,List.all_cons] at hinv
  obtain ⟨q,hqi⟩:∃ q,s.Jobs[i]=q:=⟨_,rfl⟩
  rw [hqi] at hinv
  simp (maxSteps:=2000000) only [go_sem,seval,hdi,hw,getD_map hlt,hqi,encJob,List.append_eq]
  refine scs ?_
  constructor <;> intro hq
  ·rw [hq,Bool.not_true,Bool.false_and] at hinv
   apply hK
   simp (maxSteps:=2000000) only [go_sem,seval,hdi,hw,getD_map hlt,hqi,encJob,List.append_eq]
   refine Fin.nt results75 [] ?_ ?_ ?_ <;> try trivial
   (refine rsl ?_;try exact .intro)
   rw [hinv,Bool.false_and]
  ·have hq:q.Busy=false:=by simpa using hq
   rw [hq,Bool.not_false,Bool.true_and] at hinv
   (apply hK
    exact ⟨s.Jobs.length - (i + 1),_,by omega,Ent.wk [0],i + 1,by omega,rfl,hinv,rfl⟩)
 ·have hge':s.Jobs.length=i:=by omega
  subst hge'
  have hdi:decide (((s.Jobs.length:Nat):Int) < ((s.Jobs.length:Nat):Int))=false:=by simp
  rw [List.drop_length,List.all_nil] at hinv
  have hfin:=hinv
  refine sv4 ?_
  apply hK
  clear hinv
  refine sv17 ?_
  refine LoopK_intro (fun zn zs=>∃ k:Nat,k <= s.Todo.length /\ zn=s.Todo.length - k /\ (A=(s.Todo.drop k).all (fun q=>decide ((q.Ops.length:Int)=0))) /\ zs=mkSt [(4,.one (.dat (.int .i64 k))),(1,.one (.ptr (.own 0 0 0)))] [.box [.dat (.sl 1 (s.Base.Mem.Heap.Bytes.map encI)),.dat (.sl 1 (s.Base.Mem.Heap.Class.map encI)),.dat (.sl 1 (s.Base.Mem.Lists.Global.map encSList)),.dat (.sl 1 (s.Base.Mem.Lists.Own.map encSList)),.dat (.int .i64 s.Base.Clock.Epoch),.dat (.sl 4 (s.Base.Clock.Pins.map encPin)),.dat (.sl 1 (s.Base.Limbo.map encLList)),.dat (.sl 1 (s.Base.Haz.map encI)),.dat (.sl 1 (s.Cells.map encI)),.dat (.sl 21 (s.Jobs.map encJob)),.dat (.sl 1 (s.Todo.map encQueue)),.dat (.sl 7 (s.Log.map encEv)),.dat (.int .i64 s.Serial)]]) (s.Todo.length) _
   (Ent.wk [0]) ⟨0,by omega,by omega,hA.symm,rfl⟩ ?_
  rintro zn zs ⟨k,hi2,rfl,hinv2,rfl⟩ K2 hK2
  rcases Nat.lt_or_ge k (s.Todo.length) with hlt2 | hge2
  ·have hdi2:decide ((k:Int) < ((s.Todo.length:Nat):Int))=true:=decide_eq_true (by omega)
   have hw2:=wrap_succ hlt2 (show s.Todo.length <= maxLen by omega)
   rw [List.drop_eq_getElem_cons hlt2,List.all_cons] at hinv2
   obtain ⟨q,hqi⟩:∃ q,s.Todo[k]=q:=⟨_,rfl⟩
   rw [hqi] at hinv2
   simp (maxSteps:=2000000) only [go_sem,seval,hdi2,hw2,getD_map hlt2,hqi,encQueue,List.append_eq]
   refine scs ?_
   constructor <;> intro hq
   ·have h0:decide ((q.Ops.length:Int)=0)=false:=by
     have:=of_decide_eq_true hq
     exact decide_eq_false (by omega)
    rw [h0,Bool.false_and] at hinv2
    apply hK2
    simp (maxSteps:=2000000) only [go_sem,seval,hdi2,hw2,getD_map hlt2,hqi,encQueue,List.append_eq]
    refine Fin.nt results75 [] ?_ ?_ ?_ <;> try trivial
    (refine rsl ?_;try exact .intro)
    rw [hfin,hinv2,Bool.true_and]
   ·have h0:decide ((q.Ops.length:Int)=0)=true:=by
     have:=of_decide_eq_false hq
     exact decide_eq_true (by omega)
    rw [h0,Bool.true_and] at hinv2
    (apply hK2
     exact ⟨s.Todo.length - (k + 1),_,by omega,Ent.wk [0],k + 1,by omega,rfl,hinv2,rfl⟩)
  ·have hge2':s.Todo.length=k:=by omega
   subst hge2'
   have hdi2:decide (((s.Todo.length:Nat):Int) < ((s.Todo.length:Nat):Int))=false:=by simp
   rw [List.drop_length,List.all_nil] at hinv2
   refine sv27 ?_
   apply hK2
   refine sv17 ?_
   refine Fin.nt results75 [] ?_ ?_ ?_ <;> try trivial
   (refine rsl ?_;try exact .intro)
   rw [hfin,hinv2,Bool.true_and]
theorem le12 {n:Nat} (h:n <= 12):n=0 \/ n=1 \/ n=2 \/ n=3 \/ n=4 \/ n=5 \/ n=6 \/ n=7 \/ n=8 \/ n=9 \/ n=10 \/ n=11 \/ n=12:=by omega
theorem c251_n (n:Nat) (hn:n <= 12):Ctr prog 251 [.one (.dat (.int .u64 1)),.one (.dat (.int .u64 (n:Int)))] [] (.tup [.one (.dat (.int .u64 0)),.one (.dat (.int .u64 (n:Int)))]) []:=by
 refine Ctr.bd mixed func251 rfl ?_
 rcases le12 hn with rfl | rfl | rfl | rfl | rfl | rfl | rfl | rfl | rfl | rfl | rfl | rfl | rfl
 all_goals
  refine evl ?_
  refine Fin.nt results251 [] ?_ ?_ ?_ <;> try trivial
theorem c171_n (n:Nat) (hn:n <= 12):Ctr prog 171 [.one (.dat (.int .u64 1)),.one (.dat (.int .u64 (n:Int)))] [] (.tup [.one (.dat (.int .u64 0)),.one (.dat (.int .u64 (n:Int)))]) []:=by
 refine Ctr.bd mixed func171 rfl ?_
 have hw1:IntKind.u64.wrap (n:Int)=n:=by
  rcases le12 hn with rfl | rfl | rfl | rfl | rfl | rfl | rfl | rfl | rfl | rfl | rfl | rfl | rfl <;> decide
 simp (maxSteps:=2000000) only [go_sem,seval,hw1]
 refine scs ?_
 refine ck e251 (c251_n n hn) rfl ?_
 simp (maxSteps:=2000000) only [go_sem,seval,hw1]
 refine scs ?_
 refine Fin.nt results171 [] ?_ ?_ ?_ <;> try trivial
theorem lay_first (z o:List D) (n:Nat):lay (List.replicate n z) 0 (List.take n [o])=List.replicate (Nat.min 1 n) o ++ List.replicate (n - Nat.min 1 n) z:=by
 cases n with
 | zero=>rfl
 | succ n =>
  have h1:Nat.min 1 (n + 1)=1:=Nat.min_eq_left (by omega)
  rw [h1]
  simp [lay,splice,List.replicate_succ]
theorem take_dbl (z o:List D) (m k:Nat):List.take m (List.replicate m o ++ List.replicate k z)=List.replicate m o:=by
 rw [List.take_append_of_le_length (by rw [List.length_replicate];exact Nat.le_refl _),List.take_of_length_le (by rw [List.length_replicate];exact Nat.le_refl _)]
theorem lay_dbl (z o:List D) (m n:Nat) (h:m <= n):lay (List.replicate m o ++ List.replicate (n - m) z) m (List.take (n - m) (List.replicate m o))=List.replicate (m + Nat.min m (n - m)) o ++ List.replicate (n - (m + Nat.min m (n - m))) z:=by
 have hmin:Nat.min m (n - m)=min m (n - m):=rfl
 rw [List.take_replicate,hmin,Nat.min_comm]
 have hk:min m (n - m) <= n - m:=Nat.min_le_right _ _
 generalize min m (n - m)=k at hk ⊢
 unfold lay splice
 rw [take_dbl,List.length_replicate,List.drop_append,List.length_replicate,List.drop_of_length_le (by rw [List.length_replicate];omega),List.nil_append,List.drop_replicate,List.replicate_append_replicate]
 congr 2
 omega
theorem c84 (n:Nat) (hn:n <= 12):Ctr prog 84 [.one (.dat (.sl 4 [[.int .i64 4,.int .i64 0,.int .i64 0,.int .i64 0]])),.one (.dat (.int .i64 (n:Int)))] [] (.one (.own 0)) [.vec 4 true (List.replicate n [.int .i64 4,.int .i64 0,.int .i64 0,.int .i64 0])]:=by
 have hmx:maxLen=9223372036854775807:=rfl
 have hw1:IntKind.u64.wrap (n:Int)=n:=by
  rcases le12 hn with rfl | rfl | rfl | rfl | rfl | rfl | rfl | rfl | rfl | rfl | rfl | rfl | rfl <;> decide
 have hw2:IntKind.i64.wrap (n:Int)=n:=by
  rcases le12 hn with rfl | rfl | rfl | rfl | rfl | rfl | rfl | rfl | rfl | rfl | rfl | rfl | rfl <;> decide
 have h0:decide ((n:Int) < 0)=false:=decide_eq_false (by omega)
 have hb:decide ((9223372036854775807:Int) < (n:Int))=false:=decide_eq_false (by omega)
 refine Ctr.bd mixed func84 rfl ?_
 simp (maxSteps:=2000000) only [go_sem,seval,hw1,h0]
 refine scs ?_
 refine ck e171 (c171_n n hn) rfl ?_
 simp (maxSteps:=2000000) only [go_sem,seval,hw1,hw2,hb,List.length_replicate,Int.toNat_natCast]
 refine ⟨⟨by omega,by omega,by omega⟩,⟨by simp [D.flat],by simp [flatRows,D.flat]⟩,?_⟩
 rw [lay_first]
 refine LoopK_intro (fun zn zs=>∃ (m:Nat),zn=n - m /\ (m <= n /\ (1 <= m \/ n=0)) /\ zs=mkSt [(7,.one (.own 0)),(8,.one (.dat (.int .i64 (m:Int))))] [.vec 4 true (List.replicate m [.int .i64 4,.int .i64 0,.int .i64 0,.int .i64 0] ++ List.replicate (n - m) [.int .i64 0,.int .i64 0,.int .i64 0,.int .i64 0])]) _ _
  (Ent.wk [0]) ⟨Nat.min 1 n,rfl,⟨Nat.min_le_right _ _,by have:Nat.min 1 n=min 1 n:=rfl;omega⟩,rfl⟩ ?_
 rintro zn zs ⟨m,rfl,hinv,rfl⟩ K hK
 rcases Nat.lt_or_ge m n with hmn | hmn
 ·have hd:decide ((m:Int) < (n:Int))=true:=decide_eq_true (by omega)
  have hmm:m + (n - m)=n:=by omega
  simp (maxSteps:=2000000) only [go_sem,seval,hmm,hd,List.length_append,List.length_replicate]
  refine PlanP_intro (.step 0 (.step 1 (.step 2 (.step 4 (.step 5 (.two 3 (.step 6 (.step 7 (.step 8 (.step 9 .done)))) 6 (.step 3 (.step 7 (.step 8 (.step 9 .done)))))))))) (by kernel_rfl) ?_
  simp (maxSteps:=2000000) only [go_sem,seval,hmm,hd,List.length_append,List.length_replicate]
  have hfl:flatRows (List.replicate m [D.int .i64 4,.int .i64 0,.int .i64 0,.int .i64 0] ++ List.replicate (n - m) [.int .i64 0,.int .i64 0,.int .i64 0,.int .i64 0]):=by
   intro r hr d hd
   rcases List.mem_append.1 hr with hr | hr
   ·rw [(List.mem_replicate.1 hr).2] at hd
    simp only [List.mem_cons,List.not_mem_nil,or_false] at hd
    rcases hd with rfl | rfl | rfl | rfl <;> rfl
   ·rw [(List.mem_replicate.1 hr).2] at hd
    simp only [List.mem_cons,List.not_mem_nil,or_false] at hd
    rcases hd with rfl | rfl | rfl | rfl <;> rfl
  have hmk:Nat.min m (n - m)=min m (n - m):=rfl
  have hs:IntKind.i64.wrap ((m:Int) + ((m.min (n - m):Nat):Int))=((m + Nat.min m (n - m):Nat):Int):=by
   rw [wrap_id (by omega) (by omega)];omega
  rw [take_dbl,lay_dbl _ _ _ _ (by omega),List.length_replicate,hs]
  refine ⟨⟨⟨by omega,by omega,by omega⟩,⟨by omega,by omega⟩,⟨hfl,hfl⟩,?_⟩,⟨by omega,by omega⟩,⟨by omega,by omega,by omega⟩,⟨hfl,hfl⟩,?_⟩
  all_goals
   (apply hK
    exact ⟨_,_,by omega,Ent.wk [0],m + Nat.min m (n - m),rfl,⟨by omega,.inl (by omega)⟩,rfl⟩)
 ·obtain rfl:m=n:=by omega
  have hd:decide ((m:Int) < (m:Int))=false:=decide_eq_false (by omega)
  rw [Nat.sub_self,List.replicate_zero,List.append_nil]
  simp (maxSteps:=2000000) only [go_sem,seval,hd,List.length_replicate]
  apply hK
  refine evl ?_
  refine Fin.nt results84 [0] ?_ ?_ ?_ <;> try trivial
  all_goals exact entd
theorem c31 (s:Shelf) (hz:sizShelf s <= 1048576) (n:Int):Ctr prog 31 [.agg ((encShelf s).map .dat),.one (.dat (.int .i64 n))] [] (.agg [.own 0,.own 1,.own 2,.own 3,.dat (.int .i64 (collectM s n).Base.Clock.Epoch),.own 4,.own 5,.own 6,.own 7,.own 8,.own 9,.own 10,.dat (.int .i64 (collectM s n).Serial)]) [.vec 1 true ((collectM s n).Base.Mem.Heap.Bytes.map encI),.vec 1 true ((collectM s n).Base.Mem.Heap.Class.map encI),.vec 1 true ((collectM s n).Base.Mem.Lists.Global.map encSList),.vec 1 true ((collectM s n).Base.Mem.Lists.Own.map encSList),.vec 4 true ((collectM s n).Base.Clock.Pins.map encPin),.vec 1 true ((collectM s n).Base.Limbo.map encLList),.vec 1 true ((collectM s n).Base.Haz.map encI),.vec 1 true ((collectM s n).Cells.map encI),.vec 21 true ((collectM s n).Jobs.map encJob),.vec 1 true ((collectM s n).Todo.map encQueue),.vec 7 true ((collectM s n).Log.map encEv)]:=by
 have hmx:maxLen=9223372036854775807:=rfl
 have hcc:=c81 s hz (Shelf.sok_of hz)
 have hco:=c82 s hz
 have hci:=c83 s hz
 simp only [encShelf,List.map_cons,List.map_nil] at hcc hco hci ⊢
 cases hc:(shelfOk s && (idle s && within n 0 12)) with
 | false =>
  have hr:collectM s n=s:=by unfold collectM;rw [hc];rfl
  rw [hr]
  refine Ctr.bd mixed func31 rfl ?_
  refine sv17 ?_
  refine scs ?_
  refine ck e81 (hcc) rfl ?_
  refine sv17 ?_
  refine scs ?_
  refine ck e82 (hco) rfl ?_
  refine sv17 ?_
  refine scs ?_
  refine ck e83 (hci) rfl ?_
  refine sv17 ?_
  refine scs ?_
  refine ck e57 (c57 ..) rfl ?_
  refine sv17 ?_
  refine scs ?_
  refine ⟨fun _=>?_,fun hq=>?_⟩
  ·refine Fin.nt results31 [2,3,4,5,6,7,8,9,10,11,12] ?_ ?_ ?_ <;> try trivial
   all_goals exact entd
  ·exfalso
   revert hq hc
   cases shelfOk s <;> cases idle s <;> cases within n 0 12 <;> simp
 | true =>
  obtain ⟨t1,t2,t3,t4⟩:=collect_todo hc
  have hto:=colT_of (n:=n.toNat) t1 t2
  have hr:collectM s n={ s with Todo:=colT n.toNat 3 }:=by unfold collectM;rw [hc,cond_true,colT_map t1 t2]
  rw [hr]
  obtain ⟨n,rfl⟩:∃ k:Nat,n=k:=⟨n.toNat,by omega⟩
  rw [Int.toNat_natCast] at hr ⊢
  have hn12:n <= 12:=by omega
  have hcr:=c84 n hn12
  refine Ctr.bd mixed func31 rfl ?_
  refine sv17 ?_
  refine scs ?_
  refine ck e81 (hcc) rfl ?_
  refine sv17 ?_
  refine scs ?_
  refine ck e82 (hco) rfl ?_
  refine sv17 ?_
  refine scs ?_
  refine ck e83 (hci) rfl ?_
  refine sv17 ?_
  refine scs ?_
  refine ck e57 (c57 ..) rfl ?_
  refine sv17 ?_
  refine scs ?_
  intro _
  rw [Int.toNat_natCast] at hto
  rw [hto]
  refine LoopK_intro (fun zn zs=>∃ i:Nat,i <= 3 /\ zn=3 - i /\ zs=mkSt [(26,.one (.dat (.int .i64 i))),(25,.one (.dat (.int .i64 (3)))),(4,.one (.ptr (.own 1 0 0))),(5,.one (.ptr (.own 13 0 0))),(1,.one (.dat (.int .i64 (n:Int))))] [.dead,.box [.emp,.emp,.emp,.emp,.dat (.int .i64 0),.emp,.emp,.emp,.emp,.emp,.emp,.emp,.dat (.int .i64 0)],.vec 1 true (s.Base.Mem.Heap.Bytes.map encI),.vec 1 true (s.Base.Mem.Heap.Class.map encI),.vec 1 true (s.Base.Mem.Lists.Global.map encSList),.vec 1 true (s.Base.Mem.Lists.Own.map encSList),.vec 4 true (s.Base.Clock.Pins.map encPin),.vec 1 true (s.Base.Limbo.map encLList),.vec 1 true (s.Base.Haz.map encI),.vec 1 true (s.Cells.map encI),.vec 21 true (s.Jobs.map encJob),.vec 1 true ((colT n i).map encQueue),.vec 7 true (s.Log.map encEv),.box [.own 2,.own 3,.own 4,.own 5,.dat (.int .i64 s.Base.Clock.Epoch),.own 6,.own 7,.own 8,.own 9,.own 10,.own 11,.own 12,.dat (.int .i64 s.Serial)]]) (3) _
   (Ent.wk [0,1,2,3,4,5,6,7,8,9,10,11,12,13]) ⟨0,by omega,by omega,rfl⟩ ?_
  rintro zn zs ⟨i,hi,rfl,rfl⟩ K hK
  rcases Nat.lt_or_ge i (3) with hlt | hge
  ·have hdi:decide ((i:Int) < ((3:Nat):Int))=true:=decide_eq_true (by omega)
   have hw:=wrap_succ hlt (show 3 <= maxLen by decide)
   have hrf:∀ r ∈ (List.replicate n [D.int .i64 4,.int .i64 0,.int .i64 0,.int .i64 0]),∀ d ∈ r,d.flat=true:=by
    intro r hr d hd
    rw [(List.mem_replicate.1 hr).2] at hd
    simp only [List.mem_cons,List.not_mem_nil,or_false] at hd
    rcases hd with rfl | rfl | rfl | rfl <;> rfl
   have hrl:(List.replicate n [D.int .i64 4,.int .i64 0,.int .i64 0,.int .i64 0]).length * 32 <= 140737488355328 /\ (List.replicate n [D.int .i64 4,.int .i64 0,.int .i64 0,.int .i64 0]).length <= 9223372036854775807:=by
    rw [List.length_replicate];omega
   have hc0:(colT n 0).map encQueue=[[.sl 4 []],[.sl 4 []],[.sl 4 []]]:=rfl
   have hc1:(colT n 1).map encQueue=[[.sl 4 (List.replicate n [D.int .i64 4,.int .i64 0,.int .i64 0,.int .i64 0])],[.sl 4 []],[.sl 4 []]]:=by simp [colT,encQueue,encOp,collectOp]
   have hc2:(colT n 2).map encQueue=[[.sl 4 (List.replicate n [D.int .i64 4,.int .i64 0,.int .i64 0,.int .i64 0])],[.sl 4 (List.replicate n [D.int .i64 4,.int .i64 0,.int .i64 0,.int .i64 0])],[.sl 4 []]]:=by simp [colT,encQueue,encOp,collectOp]
   have hc3:(colT n 3).map encQueue=[[.sl 4 (List.replicate n [D.int .i64 4,.int .i64 0,.int .i64 0,.int .i64 0])],[.sl 4 (List.replicate n [D.int .i64 4,.int .i64 0,.int .i64 0,.int .i64 0])],[.sl 4 (List.replicate n [D.int .i64 4,.int .i64 0,.int .i64 0,.int .i64 0])]]:=by simp [colT,encQueue,encOp,collectOp]
   have hw0:IntKind.i64.wrap 1=1:=by decide
   have hw1:IntKind.i64.wrap 2=2:=by decide
   have hw2:IntKind.i64.wrap 3=3:=by decide
   rcases (show i=0 \/ i=1 \/ i=2 by omega) with rfl | rfl | rfl
   ·rw [hc0]
    refine sv50 ?_
    refine FloatO_intro 11 0 0 [(0,[]),(1,[]),(2,[]),(3,[]),(4,[]),(5,[]),(6,[]),(7,[]),(8,[]),(9,[]),(11,[]),(10,[0,1,2,3,4,5,6,7,8,11]),(12,[0,1,2,3,4,5,6,7,8]),(13,[0,1,2]),(14,[]),(15,[]),(16,[])] [] rfl rfl (by simp) (by decide) (by kernel_rfl) ?_
    intro v
    refine sv50 ?_
    refine ⟨by simp [D.flat],⟨⟨rfl,rfl,rfl,rfl⟩,by simp⟩,by simp [D.flat],?_⟩
    refine ck e84 (hcr) rfl ?_
    refine sv50 ?_
    refine ⟨by simp [D.flat],⟨hrf,by simp,hrl⟩,⟨by simp,by simp⟩,?_⟩
    rw [<- hc1]
    apply hK
    exact ⟨2,_,by omega,Ent.wk [0,1,2,3,4,5,6,7,8,9,10,11,12,13],1,by omega,rfl,rfl⟩
   ·rw [hc1]
    refine sv50 ?_
    refine FloatO_intro 11 1 0 [(0,[]),(1,[]),(2,[]),(3,[]),(4,[]),(5,[]),(6,[]),(7,[]),(8,[]),(9,[]),(11,[]),(10,[0,1,2,3,4,5,6,7,8,11]),(12,[0,1,2,3,4,5,6,7,8]),(13,[0,1,2]),(14,[]),(15,[]),(16,[])] [] rfl rfl (by simp) (by decide) (by kernel_rfl) ?_
    intro v
    refine sv50 ?_
    refine ⟨by simp [D.flat],⟨⟨rfl,rfl,rfl,rfl⟩,by simp⟩,by simp [D.flat],?_⟩
    refine ck e84 (hcr) rfl ?_
    refine sv50 ?_
    refine ⟨by simp [D.flat],⟨hrf,by simp,hrl⟩,⟨by simp,by simp⟩,?_⟩
    rw [<- hc2]
    apply hK
    exact ⟨1,_,by omega,Ent.wk [0,1,2,3,4,5,6,7,8,9,10,11,12,13],2,by omega,rfl,rfl⟩
   ·rw [hc2]
    refine sv50 ?_
    refine FloatO_intro 11 2 0 [(0,[]),(1,[]),(2,[]),(3,[]),(4,[]),(5,[]),(6,[]),(7,[]),(8,[]),(9,[]),(11,[]),(10,[0,1,2,3,4,5,6,7,8,11]),(12,[0,1,2,3,4,5,6,7,8]),(13,[0,1,2]),(14,[]),(15,[]),(16,[])] [] rfl rfl (by simp) (by decide) (by kernel_rfl) ?_
    intro v
    refine sv50 ?_
    refine ⟨by simp [D.flat],⟨⟨rfl,rfl,rfl,rfl⟩,by simp⟩,by simp [D.flat],?_⟩
    refine ck e84 (hcr) rfl ?_
    refine sv50 ?_
    refine ⟨by simp [D.flat],⟨hrf,by simp,hrl⟩,⟨by simp,by simp⟩,?_⟩
    rw [<- hc3]
    apply hK
    exact ⟨0,_,by omega,Ent.wk [0,1,2,3,4,5,6,7,8,9,10,11,12,13],3,by omega,rfl,rfl⟩
  ·have hge':3=i:=by omega
   subst hge'
   have hdi:decide (((3:Nat):Int) < ((3:Nat):Int))=false:=by simp
   refine sv4 ?_
   apply hK
   refine sv17 ?_
   refine Fin.nt results31 [2,3,4,5,6,7,8,9,10,11,12] ?_ ?_ ?_ <;> try trivial
   all_goals exact entd
theorem c29 (s:Shelf) (hz:sizShelf s <= 1048576) (n:Int):Ctr prog 29 [.agg ((encShelf s).map .dat),.one (.dat (.int .i64 n))] [] (.agg [.own 0,.own 1,.own 2,.own 3,.dat (.int .i64 (collectM s n).Base.Clock.Epoch),.own 4,.own 5,.own 6,.own 7,.own 8,.own 9,.own 10,.dat (.int .i64 (collectM s n).Serial)]) [.vec 1 true ((collectM s n).Base.Mem.Heap.Bytes.map encI),.vec 1 true ((collectM s n).Base.Mem.Heap.Class.map encI),.vec 1 true ((collectM s n).Base.Mem.Lists.Global.map encSList),.vec 1 true ((collectM s n).Base.Mem.Lists.Own.map encSList),.vec 4 true ((collectM s n).Base.Clock.Pins.map encPin),.vec 1 true ((collectM s n).Base.Limbo.map encLList),.vec 1 true ((collectM s n).Base.Haz.map encI),.vec 1 true ((collectM s n).Cells.map encI),.vec 21 true ((collectM s n).Jobs.map encJob),.vec 1 true ((collectM s n).Todo.map encQueue),.vec 7 true ((collectM s n).Log.map encEv)]:=by
 have hmx:maxLen=9223372036854775807:=rfl
 have hcc:=c73 s hz (Shelf.sok_of hz)
 have hco:=c74 s hz
 have hci:=c75 s hz
 simp only [encShelf,List.map_cons,List.map_nil] at hcc hco hci ⊢
 cases hc:(shelfOk s && (idle s && within n 0 12)) with
 | false =>
  have hr:collectM s n=s:=by unfold collectM;rw [hc];rfl
  rw [hr]
  refine Ctr.bd mixed func29 rfl ?_
  refine sv17 ?_
  refine scs ?_
  refine ck e73 (hcc) rfl ?_
  refine sv17 ?_
  refine scs ?_
  refine ck e74 (hco) rfl ?_
  refine sv17 ?_
  refine scs ?_
  refine ck e75 (hci) rfl ?_
  refine sv17 ?_
  refine scs ?_
  refine ck e67 (c67 ..) rfl ?_
  refine sv17 ?_
  refine scs ?_
  refine ⟨fun _=>?_,fun hq=>?_⟩
  ·refine Fin.nt results29 [2,3,4,5,6,7,8,9,10,11,12] ?_ ?_ ?_ <;> try trivial
   all_goals exact entd
  ·exfalso
   revert hq hc
   cases shelfOk s <;> cases idle s <;> cases within n 0 12 <;> simp
 | true =>
  obtain ⟨t1,t2,t3,t4⟩:=collect_todo hc
  have hto:=colT_of (n:=n.toNat) t1 t2
  have hr:collectM s n={ s with Todo:=colT n.toNat 3 }:=by unfold collectM;rw [hc,cond_true,colT_map t1 t2]
  rw [hr]
  obtain ⟨n,rfl⟩:∃ k:Nat,n=k:=⟨n.toNat,by omega⟩
  rw [Int.toNat_natCast] at hr ⊢
  have hn12:n <= 12:=by omega
  refine Ctr.bd mixed func29 rfl ?_
  refine sv17 ?_
  refine scs ?_
  refine ck e73 (hcc) rfl ?_
  refine sv17 ?_
  refine scs ?_
  refine ck e74 (hco) rfl ?_
  refine sv17 ?_
  refine scs ?_
  refine ck e75 (hci) rfl ?_
  refine sv17 ?_
  refine scs ?_
  refine ck e67 (c67 ..) rfl ?_
  refine sv17 ?_
  refine scs ?_
  intro _
  rw [Int.toNat_natCast] at hto
  rw [hto]
  refine LoopK_intro (fun zn zs=>∃ i:Nat,i <= 3 /\ zn=3 - i /\ zs=mkSt [(6,.one (.dat (.int .i64 i))),(4,.one (.ptr (.own 1 0 0))),(5,.one (.ptr (.own 13 0 0))),(1,.one (.dat (.int .i64 (n:Int))))] [.dead,.box [.emp,.emp,.emp,.emp,.dat (.int .i64 0),.emp,.emp,.emp,.emp,.emp,.emp,.emp,.dat (.int .i64 0)],.vec 1 true (s.Base.Mem.Heap.Bytes.map encI),.vec 1 true (s.Base.Mem.Heap.Class.map encI),.vec 1 true (s.Base.Mem.Lists.Global.map encSList),.vec 1 true (s.Base.Mem.Lists.Own.map encSList),.vec 4 true (s.Base.Clock.Pins.map encPin),.vec 1 true (s.Base.Limbo.map encLList),.vec 1 true (s.Base.Haz.map encI),.vec 1 true (s.Cells.map encI),.vec 21 true (s.Jobs.map encJob),.vec 1 true ((colT n i).map encQueue),.vec 7 true (s.Log.map encEv),.box [.own 2,.own 3,.own 4,.own 5,.dat (.int .i64 s.Base.Clock.Epoch),.own 6,.own 7,.own 8,.own 9,.own 10,.own 11,.own 12,.dat (.int .i64 s.Serial)]]) (3) _
   (Ent.wk [0,1,2,3,4,5,6,7,8,9,10,11,12,13]) ⟨0,by omega,by omega,rfl⟩ ?_
  rintro zn zs ⟨i,hi,rfl,rfl⟩ K hK
  rcases Nat.lt_or_ge i (3) with hlt | hge
  ·have hdi:decide ((i:Int) < ((3:Nat):Int))=true:=decide_eq_true (by omega)
   have hw:=wrap_succ hlt (show 3 <= maxLen by decide)
   have hrf:∀ r ∈ (List.replicate n [D.int .i64 4,.int .i64 0,.int .i64 0,.int .i64 0]),∀ d ∈ r,d.flat=true:=by
    intro r hr d hd
    rw [(List.mem_replicate.1 hr).2] at hd
    simp only [List.mem_cons,List.not_mem_nil,or_false] at hd
    rcases hd with rfl | rfl | rfl | rfl <;> rfl
   have hrl:(List.replicate n [D.int .i64 4,.int .i64 0,.int .i64 0,.int .i64 0]).length * 32 <= 140737488355328 /\ (List.replicate n [D.int .i64 4,.int .i64 0,.int .i64 0,.int .i64 0]).length <= 9223372036854775807:=by
    rw [List.length_replicate];omega
   have hc0:(colT n 0).map encQueue=[[.sl 4 []],[.sl 4 []],[.sl 4 []]]:=rfl
   have hc1:(colT n 1).map encQueue=[[.sl 4 (List.replicate n [D.int .i64 4,.int .i64 0,.int .i64 0,.int .i64 0])],[.sl 4 []],[.sl 4 []]]:=by simp [colT,encQueue,encOp,collectOp]
   have hc2:(colT n 2).map encQueue=[[.sl 4 (List.replicate n [D.int .i64 4,.int .i64 0,.int .i64 0,.int .i64 0])],[.sl 4 (List.replicate n [D.int .i64 4,.int .i64 0,.int .i64 0,.int .i64 0])],[.sl 4 []]]:=by simp [colT,encQueue,encOp,collectOp]
   have hc3:(colT n 3).map encQueue=[[.sl 4 (List.replicate n [D.int .i64 4,.int .i64 0,.int .i64 0,.int .i64 0])],[.sl 4 (List.replicate n [D.int .i64 4,.int .i64 0,.int .i64 0,.int .i64 0])],[.sl 4 (List.replicate n [D.int .i64 4,.int .i64 0,.int .i64 0,.int .i64 0])]]:=by simp [colT,encQueue,encOp,collectOp]
   have hw0:IntKind.i64.wrap 1=1:=by decide
   have hw1:IntKind.i64.wrap 2=2:=by decide
   have hw2:IntKind.i64.wrap 3=3:=by decide
   have hd3:decide ((i:Int) < 3)=true:=decide_eq_true (by omega)
   rcases (show i=0 \/ i=1 \/ i=2 by omega) with rfl | rfl | rfl
   ·rw [hc0]
    refine sv51 ?_
    refine LoopK_intro (fun zn zs=>∃ k:Nat,k <= n /\ zn=n - k /\ zs=mkSt [(7,.one (.dat (.int .i64 k))),(4,.one (.ptr (.own 1 0 0))),(5,.one (.ptr (.own 13 0 0))),(1,.one (.dat (.int .i64 (n:Int)))),(6,.one (.dat (.int .i64 0)))] [.dead,.box [.emp,.emp,.emp,.emp,.dat (.int .i64 0),.emp,.emp,.emp,.emp,.emp,.emp,.emp,.dat (.int .i64 0)],.vec 1 true (s.Base.Mem.Heap.Bytes.map encI),.vec 1 true (s.Base.Mem.Heap.Class.map encI),.vec 1 true (s.Base.Mem.Lists.Global.map encSList),.vec 1 true (s.Base.Mem.Lists.Own.map encSList),.vec 4 true (s.Base.Clock.Pins.map encPin),.vec 1 true (s.Base.Limbo.map encLList),.vec 1 true (s.Base.Haz.map encI),.vec 1 true (s.Cells.map encI),.vec 21 true (s.Jobs.map encJob),.vec 1 true [[.sl 4 (List.replicate k [.int .i64 4,.int .i64 0,.int .i64 0,.int .i64 0])],[.sl 4 []],[.sl 4 []]],.vec 7 true (s.Log.map encEv),.box [.own 2,.own 3,.own 4,.own 5,.dat (.int .i64 s.Base.Clock.Epoch),.own 6,.own 7,.own 8,.own 9,.own 10,.own 11,.own 12,.dat (.int .i64 s.Serial)]]) (n) _
     (Ent.wk [0,1,2,3,4,5,6,7,8,9,10,11,12,13]) ⟨0,by omega,by omega,rfl⟩ ?_
    rintro zn zs ⟨k,hi2,rfl,rfl⟩ K2 hK2
    rcases Nat.lt_or_ge k (n) with hlt2 | hge2
    ·have hdi2:decide ((k:Int) < ((n:Nat):Int))=true:=decide_eq_true (by omega)
     have hw2:=wrap_succ hlt2 (show n <= maxLen by omega)
     refine sv27 ?_
     refine FloatO_intro 11 0 0 [(0,[]),(1,[]),(2,[]),(3,[]),(4,[]),(5,[]),(6,[]),(7,[]),(8,[]),(9,[]),(10,[0,1,2,3,4,5,6,7,8]),(11,[0,1,2]),(12,[]),(13,[]),(14,[])] [] rfl rfl (by simp) (by decide) (by kernel_rfl) ?_
     intro v
     refine sv52 ?_
     refine ⟨by simp [D.flat],⟨⟨rfl,rfl,rfl,rfl⟩,by simp⟩,by simp [D.flat],⟨by simp [D.flat],by simp,by rw [List.length_replicate];omega⟩,⟨by simp,by simp⟩,?_⟩
     rw [<- List.replicate_succ']
     (apply hK2
      exact ⟨n - (k + 1),_,by omega,Ent.wk [0,1,2,3,4,5,6,7,8,9,10,11,12,13],k + 1,by omega,rfl,rfl⟩)
    ·have hge2':n=k:=by omega
     subst hge2'
     have hdi2:decide (((n:Nat):Int) < ((n:Nat):Int))=false:=by simp
     refine sv27 ?_
     apply hK2
     refine sv53 ?_
     rw [<- hc1]
     apply hK
     exact ⟨2,_,by omega,Ent.wk [0,1,2,3,4,5,6,7,8,9,10,11,12,13],1,by omega,rfl,rfl⟩
   ·rw [hc1]
    refine sv51 ?_
    refine LoopK_intro (fun zn zs=>∃ k:Nat,k <= n /\ zn=n - k /\ zs=mkSt [(7,.one (.dat (.int .i64 k))),(4,.one (.ptr (.own 1 0 0))),(5,.one (.ptr (.own 13 0 0))),(1,.one (.dat (.int .i64 (n:Int)))),(6,.one (.dat (.int .i64 1)))] [.dead,.box [.emp,.emp,.emp,.emp,.dat (.int .i64 0),.emp,.emp,.emp,.emp,.emp,.emp,.emp,.dat (.int .i64 0)],.vec 1 true (s.Base.Mem.Heap.Bytes.map encI),.vec 1 true (s.Base.Mem.Heap.Class.map encI),.vec 1 true (s.Base.Mem.Lists.Global.map encSList),.vec 1 true (s.Base.Mem.Lists.Own.map encSList),.vec 4 true (s.Base.Clock.Pins.map encPin),.vec 1 true (s.Base.Limbo.map encLList),.vec 1 true (s.Base.Haz.map encI),.vec 1 true (s.Cells.map encI),.vec 21 true (s.Jobs.map encJob),.vec 1 true [[.sl 4 (List.replicate n [.int .i64 4,.int .i64 0,.int .i64 0,.int .i64 0])],[.sl 4 (List.replicate k [.int .i64 4,.int .i64 0,.int .i64 0,.int .i64 0])],[.sl 4 []]],.vec 7 true (s.Log.map encEv),.box [.own 2,.own 3,.own 4,.own 5,.dat (.int .i64 s.Base.Clock.Epoch),.own 6,.own 7,.own 8,.own 9,.own 10,.own 11,.own 12,.dat (.int .i64 s.Serial)]]) (n) _
     (Ent.wk [0,1,2,3,4,5,6,7,8,9,10,11,12,13]) ⟨0,by omega,by omega,rfl⟩ ?_
    rintro zn zs ⟨k,hi2,rfl,rfl⟩ K2 hK2
    rcases Nat.lt_or_ge k (n) with hlt2 | hge2
    ·have hdi2:decide ((k:Int) < ((n:Nat):Int))=true:=decide_eq_true (by omega)
     have hw2:=wrap_succ hlt2 (show n <= maxLen by omega)
     refine sv27 ?_
     refine FloatO_intro 11 1 0 [(0,[]),(1,[]),(2,[]),(3,[]),(4,[]),(5,[]),(6,[]),(7,[]),(8,[]),(9,[]),(10,[0,1,2,3,4,5,6,7,8]),(11,[0,1,2]),(12,[]),(13,[]),(14,[])] [] rfl rfl (by simp) (by decide) (by kernel_rfl) ?_
     intro v
     refine sv52 ?_
     refine ⟨by simp [D.flat],⟨⟨rfl,rfl,rfl,rfl⟩,by simp⟩,by simp [D.flat],⟨by simp [D.flat],by simp,by rw [List.length_replicate];omega⟩,⟨by simp,by simp⟩,?_⟩
     rw [<- List.replicate_succ']
     (apply hK2
      exact ⟨n - (k + 1),_,by omega,Ent.wk [0,1,2,3,4,5,6,7,8,9,10,11,12,13],k + 1,by omega,rfl,rfl⟩)
    ·have hge2':n=k:=by omega
     subst hge2'
     have hdi2:decide (((n:Nat):Int) < ((n:Nat):Int))=false:=by simp
     refine sv27 ?_
     apply hK2
     refine sv53 ?_
     rw [<- hc2]
     apply hK
     exact ⟨1,_,by omega,Ent.wk [0,1,2,3,4,5,6,7,8,9,10,11,12,13],2,by omega,rfl,rfl⟩
   ·rw [hc2]
    refine sv51 ?_
    refine LoopK_intro (fun zn zs=>∃ k:Nat,k <= n /\ zn=n - k /\ zs=mkSt [(7,.one (.dat (.int .i64 k))),(4,.one (.ptr (.own 1 0 0))),(5,.one (.ptr (.own 13 0 0))),(1,.one (.dat (.int .i64 (n:Int)))),(6,.one (.dat (.int .i64 2)))] [.dead,.box [.emp,.emp,.emp,.emp,.dat (.int .i64 0),.emp,.emp,.emp,.emp,.emp,.emp,.emp,.dat (.int .i64 0)],.vec 1 true (s.Base.Mem.Heap.Bytes.map encI),.vec 1 true (s.Base.Mem.Heap.Class.map encI),.vec 1 true (s.Base.Mem.Lists.Global.map encSList),.vec 1 true (s.Base.Mem.Lists.Own.map encSList),.vec 4 true (s.Base.Clock.Pins.map encPin),.vec 1 true (s.Base.Limbo.map encLList),.vec 1 true (s.Base.Haz.map encI),.vec 1 true (s.Cells.map encI),.vec 21 true (s.Jobs.map encJob),.vec 1 true [[.sl 4 (List.replicate n [.int .i64 4,.int .i64 0,.int .i64 0,.int .i64 0])],[.sl 4 (List.replicate n [.int .i64 4,.int .i64 0,.int .i64 0,.int .i64 0])],[.sl 4 (List.replicate k [.int .i64 4,.int .i64 0,.int .i64 0,.int .i64 0])]],.vec 7 true (s.Log.map encEv),.box [.own 2,.own 3,.own 4,.own 5,.dat (.int .i64 s.Base.Clock.Epoch),.own 6,.own 7,.own 8,.own 9,.own 10,.own 11,.own 12,.dat (.int .i64 s.Serial)]]) (n) _
     (Ent.wk [0,1,2,3,4,5,6,7,8,9,10,11,12,13]) ⟨0,by omega,by omega,rfl⟩ ?_
    rintro zn zs ⟨k,hi2,rfl,rfl⟩ K2 hK2
    rcases Nat.lt_or_ge k (n) with hlt2 | hge2
    ·have hdi2:decide ((k:Int) < ((n:Nat):Int))=true:=decide_eq_true (by omega)
     have hw2:=wrap_succ hlt2 (show n <= maxLen by omega)
     refine sv27 ?_
     refine FloatO_intro 11 2 0 [(0,[]),(1,[]),(2,[]),(3,[]),(4,[]),(5,[]),(6,[]),(7,[]),(8,[]),(9,[]),(10,[0,1,2,3,4,5,6,7,8]),(11,[0,1,2]),(12,[]),(13,[]),(14,[])] [] rfl rfl (by simp) (by decide) (by kernel_rfl) ?_
     intro v
     refine sv52 ?_
     refine ⟨by simp [D.flat],⟨⟨rfl,rfl,rfl,rfl⟩,by simp⟩,by simp [D.flat],⟨by simp [D.flat],by simp,by rw [List.length_replicate];omega⟩,⟨by simp,by simp⟩,?_⟩
     rw [<- List.replicate_succ']
     (apply hK2
      exact ⟨n - (k + 1),_,by omega,Ent.wk [0,1,2,3,4,5,6,7,8,9,10,11,12,13],k + 1,by omega,rfl,rfl⟩)
    ·have hge2':n=k:=by omega
     subst hge2'
     have hdi2:decide (((n:Nat):Int) < ((n:Nat):Int))=false:=by simp
     refine sv27 ?_
     apply hK2
     refine sv53 ?_
     rw [<- hc3]
     apply hK
     exact ⟨0,_,by omega,Ent.wk [0,1,2,3,4,5,6,7,8,9,10,11,12,13],3,by omega,rfl,rfl⟩
  ·have hge':3=i:=by omega
   subst hge'
   have hdi:decide (((3:Nat):Int) < ((3:Nat):Int))=false:=by simp
   have hd3:decide (((3:Nat):Int) < 3)=false:=rfl
   refine sv30 ?_
   apply hK
   refine sv17 ?_
   refine Fin.nt results29 [2,3,4,5,6,7,8,9,10,11,12] ?_ ?_ ?_ <;> try trivial
   all_goals exact entd
end Go.Proofs.YtcnddedeeplbcaaGreat.Mod
namespace Go.Proofs.YtcnddedeeplbcaaGreat.fnExactCollectors
open Go.Proofs.Tryz Go.Abs Go.Proofs.YtcnddedeeplbcaaGreat.Ty Go.ChangeShapes Go.WideShapes Go.ChangeAt Go.RowKit Go.Proofs.YtcnddedeeplbcaaGreat.Mod
set_option linter.unusedSimpArgs false
set_option linter.unusedVariables false
set_option maxHeartbeats 8000000
set_option maxRecDepth 100000
theorem c6 (s:Shelf) (hks:s.lok) (n:Int):Ctr prog 6 [.agg ((encShelf s).map .dat),.one (.dat (.int .i64 n))] [] (.one (.dat (.bool true))) []:=by
 simp only [encShelf,List.map_cons,List.map_nil]
 refine Ctr.bd mixed func6 rfl ?_
 refine sv17 ?_
 repeat ((with_reducible show _=true /\ _);refine ⟨by kernel_rfl,?_⟩)
 refine CallK_pure e28 (c28 s hks 1048576 (by decide) (by decide)) rfl ?_
 refine sv17 ?_
 repeat ((with_reducible show _=true /\ _);refine ⟨by kernel_rfl,?_⟩)
 constructor <;> intro h
 ·refine Fin.nt results6 [] ?_ ?_ ?_ <;> try trivial
 obtain ⟨hss,hzs,hgs,hhs⟩:=szL_le (by decide) h
 clear h
 repeat ((with_reducible show _=true /\ _);refine ⟨by kernel_rfl,?_⟩)
 have hoks:=Shelf.sok_of hss
 have hcns:=mcShelf_le s
 have hmx:maxLen=9223372036854775807:=rfl
 obtain ⟨hr,hrk,hrz⟩:=collect_bnd (n:=n) hss
 have hrc:=mcShelf_le (collectM s n)
 refine ck e30 (c30 s hss) rfl ?_
 refine sv17 ?_
 repeat ((with_reducible show _=true /\ _);refine ⟨by kernel_rfl,?_⟩)
 refine ck e29 (c29 s hss n) rfl ?_
 refine sv17 ?_
 repeat ((with_reducible show _=true /\ _);refine ⟨by kernel_rfl,?_⟩)
 refine ck e30 (c30 s hss) rfl ?_
 refine sv17 ?_
 repeat ((with_reducible show _=true /\ _);refine ⟨by kernel_rfl,?_⟩)
 refine ck e31 (c31 s hss n) rfl ?_
 refine sv17 ?_
 repeat ((with_reducible show _=true /\ _);refine ⟨by kernel_rfl,?_⟩)
 refine ck e32 (c32_p (collectM s n) (collectM s n) hr hr) rfl ?_
 refine sv17 ?_
 repeat ((with_reducible show _=true /\ _);refine ⟨by kernel_rfl,?_⟩)
 refine ck e30 (c30 s hss) rfl ?_
 refine sv17 ?_
 repeat ((with_reducible show _=true /\ _);refine ⟨by kernel_rfl,?_⟩)
 refine ck e32 (c32 s s hss hss) rfl ?_
 refine sv17 ?_
 repeat ((with_reducible show _=true /\ _);refine ⟨by kernel_rfl,?_⟩)
 refine CallK_os [24,25,26,27,28,29,30,31,32,33,34] e33 (by simp [osOk,St.obj,find]) (c33 s hoks 1 (by omega) (by omega)) rfl ?_
 refine sv17 ?_
 repeat ((with_reducible show _=true /\ _);refine ⟨by kernel_rfl,?_⟩)
 have hkk:decide ((1 + (mcShelf s:Int)) < 0)=false:=by simp only [decide_eq_false_iff_not];omega
 refine sv54 ?_
 repeat ((with_reducible show _=true /\ _);refine ⟨by kernel_rfl,?_⟩)
 refine ck e32 (c32_p (collectM s n) (collectM s n) hr hr) rfl ?_
 refine sv54 ?_
 repeat ((with_reducible show _=true /\ _);refine ⟨by kernel_rfl,?_⟩)
 refine CallK_os [36,37,38,39,40,41,42,43,44,45,46] e33 (by simp [osOk,St.obj,find]) (c33_e (collectM s n) hrk 1 (by omega) (by omega)) rfl ?_
 refine sv54 ?_
 repeat ((with_reducible show _=true /\ _);refine ⟨by kernel_rfl,?_⟩)
 refine ck e34 (c34 (collectM s n) hrk 1 (by omega) (by omega)) rfl ?_
 refine sv54 ?_
 repeat ((with_reducible show _=true /\ _);refine ⟨by kernel_rfl,?_⟩)
 have hq11:decide ((1 + (mcShelf (collectM s n):Int)) < 0)=false:=by simp only [decide_eq_false_iff_not];omega
 refine sv55 ?_
 repeat ((with_reducible show _=true /\ _);refine ⟨by kernel_rfl,?_⟩)
 refine ck e30 (c30 s hss) rfl ?_
 refine sv55 ?_
 repeat ((with_reducible show _=true /\ _);refine ⟨by kernel_rfl,?_⟩)
 refine ck e31 (c31 s hss n) rfl ?_
 refine sv55 ?_
 repeat ((with_reducible show _=true /\ _);refine ⟨by kernel_rfl,?_⟩)
 refine ck e32 (c32_p (collectM s n) (collectM s n) hr hr) rfl ?_
 refine sv55 ?_
 repeat ((with_reducible show _=true /\ _);refine ⟨by kernel_rfl,?_⟩)
 refine ck e34 (c34 (collectM s n) hrk 1 (by omega) (by omega)) rfl ?_
 refine sv55 ?_
 repeat ((with_reducible show _=true /\ _);refine ⟨by kernel_rfl,?_⟩)
 refine Fin.nt results6 [] ?_ ?_ ?_ <;> try trivial
theorem law (dss:List (List D)) (h:WTAll prog 8 f6.params.toList dss):Ctr prog 6 (argAVs prog f6.params.toList dss) [] (.one (.dat (.bool true))) []:=by
 rw [params6] at *
 simp only [WTAll,List.toList_toArray] at h
 obtain ⟨_,_,rfl,h0,⟨_,_,rfl,h1,rfl⟩⟩:=h
 obtain ⟨x0,rfl,w0,k0⟩:=decShelf _ _ h0
 obtain ⟨x1,rfl,w1⟩:=decInt underlying3 h1
 simp only [argAVs,argAV,List.toList_toArray,underlying3,underlying79,List.headD_cons]
 exact c6 x0 k0 x1
theorem own:ownKnob prog.godebug=none:=by kernel_rfl
set_option maxRecDepth 100000 in
theorem lifted (os:Os) (started:os.Started) (H:Type) (enc:TypeId × Value -> H) :
  ReturnsInHanded {} Tryz.checked os 6 .any (Rows.fnExactCollectorsSpec.pre6 enc prog f6 Rows.fnExactCollectorsRow.domain false) (Rows.fnExactCollectorsSpec.post enc prog f6 false true false false):=by
 refine returnsInHanded_of_change (C:=Tryz.checked) own started (by kernel_rfl) func6
  (ChangeSpec.witness6 (enc:=enc) (C:=Tryz.checked) false ⟨#[],#[.agg #[.slice none 0 0,.slice none 0 0,.slice none 0 0,.slice none 0 0,.int .i64 0,.slice none 0 0,.slice none 0 0,.slice none 0 0,.slice none 0 0,.slice none 0 0,.slice none 0 0,.slice none 0 0,.int .i64 0],.int .i64 0],[]⟩ 8 (by kernel_rfl) (by kernel_rfl) (by kernel_rfl) (by kernel_rfl)) ?_
 intro W base args ds gs before hval0 hW hcnd _
 have hW':=hW
 obtain ⟨p,q,hA0,hV,rfl,hfz,hnd⟩:=hW'
 have hA:DataW.TrodAll enc prog W 0 (fun _=>true) true f6.params.toList args.toList ds p:=hA0
 obtain ⟨dss,h1,h2⟩:=args_rep (n:=8) (by kernel_rfl) (fun j t v hj hv=>hval0 j t v (by simpa using hj) (by simpa using hv)) hA
 have hs:Rows.fnExactCollectorsSpec.fn H (ds ++ gs)={ results:=[.lit (.bool true)],args:=ds,vars:=[] }:=by
  obtain ⟨rfl,rfl⟩:=trodVars_none hV
  rw [params6] at hA
  obtain ⟨v0,vs0,d0,ds0,p0,q0,_,rfl,_,_,r0⟩:=trodAll_cons hA
  obtain ⟨v1,vs1,d1,ds1,p1,q1,_,rfl,_,_,r1⟩:=trodAll_cons r0
  obtain ⟨_,rfl,_⟩:=trodAll_nil r1
  rfl
 have hc:=law_calls (law dss h1) h2
 rw [Array.toArray_toList] at hc
 refine hc.mono fun e W' ⟨he,hb⟩=>?_
 subst he
 exact ⟨_,rfl,law_post (by kernel_rfl) (by kernel_rfl) rfl hW hs rfl underlying4 hb⟩
theorem closed:joinedFacts prog 6 f6 Rows.fnExactCollectorsSpec Rows.fnExactCollectorsRow=true:=by
 unfold joinedFacts
 simp only [Bool.and_eq_true,Whole.laidOut,Whole.rowed,Whole.stops,Whole.knobs,Whole.keys,Whole.heard,Whole.enter,Whole.lifts,Whole.make,true_and,and_true]
 repeat' (refine And.intro ?_ ?_)
 all_goals (as_aux_lemma=>kernel_rfl)
theorem over:Rows.fnExactCollectorsRow.holds Tryz.pinned (OpenSpec.ofChange Rows.fnExactCollectorsSpec) :=
 OpenClaim.holds_of_wide 6 f6 rfl rfl rfl rfl rfl rfl rfl ⟨rfl,rfl,rfl,rfl,rfl⟩ rfl rfl rfl rfl rfl (by kernel_rfl) func6 closed
  (of_decide_eq_true (by kernel_rfl)) (by unfold Func.isWrapper;first | (rw [if_pos (by decide +kernel)];kernel_rfl) | (rw [if_neg (by decide +kernel)];exact ⟨rfl,rfl⟩))
  (fun os started H enc _=>lifted os started H enc)
theorem proved:Rows.FnExactCollectorsSaid :=
 over
end Go.Proofs.YtcnddedeeplbcaaGreat.fnExactCollectors
