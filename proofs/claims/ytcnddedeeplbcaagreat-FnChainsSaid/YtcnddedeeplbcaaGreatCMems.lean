/- Contracts: Mems. -/
import Derived.Test.YtcnddedeeplbcaaGreatRows
import Derived.Test.YtcnddedeeplbcaaGreatCTy
import Derived.Test.YtcnddedeeplbcaaGreatAbsTac
import Derived.Test.YtcnddedeeplbcaaGreatAbsData
import Derived.Test.YtcnddedeeplbcaaGreatAbsCellT
import Derived.Test.YtcnddedeeplbcaaGreatCBytes
import Derived.Test.YtcnddedeeplbcaaGreatCFam2
import Derived.Test.YtcnddedeeplbcaaGreatCFam3
import Derived.Test.YtcnddedeeplbcaaGreatCHist
import Derived.Test.YtcnddedeeplbcaaGreatCNum
import Derived.Test.YtcnddedeeplbcaaGreatCSl2
import Derived.Test.YtcnddedeeplbcaaGreatCStore
import Derived.WalkKit
import Derived.ProofKit
import Derived.OpenShut
namespace Go.Proofs.YtcnddedeeplbcaaGreat.Mod
open Go.Proofs.Tryz Go.Abs Go.Proofs.YtcnddedeeplbcaaGreat.Ty Go.ChangeShapes Go.WideShapes Go.ChangeAt Go.RowKit
set_option linter.unusedSimpArgs false
set_option linter.unusedVariables false
set_option maxHeartbeats 8000000
set_option maxRecDepth 100000
theorem c157 (l:List Int) (hl:l.length <= 16777216):Ctr prog 157 [.one (.dat (.sl 1 (l.map encI)))] [] (.one (.own 0)) [.vec 1 true (l.map encI)]:=by
 refine Ctr.bd mixed func157 rfl ?_
 refine evl ?_
 intro b hb
 constructor <;> intro h
 ·have:l=[]:=by simpa using hb h
  subst this
  refine Fin.ent (Ent.emp (t:=2) (sz:=1) rfl) ?_
  refine evl ?_
  refine Fin.nt results157 [0] ?_ ?_ ?_ <;> try trivial
  all_goals exact entd
 ·refine ⟨by simp,⟨by simp [encI,D.flat],by simp,by omega,by omega⟩,?_⟩
  refine Fin.nt results157 [1] ?_ ?_ ?_ <;> try trivial
  all_goals exact entd
theorem c49 (x y:Heap) (hx:x.sok) (hy:y.sok):Ctr prog 49 [.agg ((encHeap x).map .dat),.agg ((encHeap y).map .dat)] [] (.one (.dat (.bool (decide (x=y))))) []:=by
 have hmx:maxLen=9223372036854775807:=rfl
 obtain ⟨a1,a2,_⟩:=hx
 obtain ⟨b1,b2,_⟩:=hy
 simp only [encHeap,List.map_cons,List.map_nil]
 refine Ctr.bd mixed func49 rfl ?_
 refine evl ?_
 refine scs ?_
 refine ck e127 (c127 x.Bytes y.Bytes (by omega) (by omega)) rfl ?_
 refine evl ?_
 refine scs ?_
 refine ck e127 (c127 x.Class y.Class (by omega) (by omega)) rfl ?_
 refine evl ?_
 refine scs ?_
 refine Fin.nt results49 [] ?_ ?_ ?_ <;> try trivial
 (refine rsl ?_;try exact .intro)
 rw [Bool.eq_iff_iff]
 simp only [Heap.eq_iff,decide_eq_true_eq]
 all_goals simp [and_assoc]
theorem c128 (l l':List SList) (hl:l.length <= 1048576) (hl':l'.length <= 1048576) (q:∀ x ∈ l,x.sok) (r:∀ x ∈ l',x.sok):Ctr prog 128 [.one (.dat (.sl 1 (l.map encSList))),.one (.dat (.sl 1 (l'.map encSList)))] [] (.one (.dat (.bool (decide (l=l'))))) []:=by
 have hmx:maxLen=9223372036854775807:=rfl
 refine Ctr.bd mixed func128 rfl ?_
 refine sv3 ?_
 refine scs ?_
 constructor <;> intro h
 ·have hne:l.length ≠ l'.length:=by simp at h;omega
  refine Fin.nt results128 [] ?_ ?_ ?_ <;> try trivial
  (refine rsl ?_;try exact .intro)
  symm;rw [decide_eq_false_iff_not]
  intro e;exact hne (by rw [e])
 have hlen:l.length=l'.length:=by simp at h;omega
 refine LoopK_intro (fun zn zs=>∃ i:Nat,i <= l.length /\ zn=l.length - i /\ (l.take i=l'.take i) /\ zs=mkSt [(5,.one (.dat (.int .i64 i))),(0,.one (.dat (.sl 1 (l.map encSList)))),(1,.one (.dat (.sl 1 (l'.map encSList))))] []) (l.length) _
  (Ent.wk []) ⟨0,by omega,by omega,rfl,rfl⟩ ?_
 rintro zn zs ⟨i,hi,rfl,hinv,rfl⟩ K hK
 rcases Nat.lt_or_ge i (l.length) with hlt | hge
 ·have hdi:decide ((i:Int) < ((l.length:Nat):Int))=true:=decide_eq_true (by omega)
  have hw:=wrap_succ hlt (show l.length <= maxLen by omega)
  have hlt':i < l'.length:=by omega
  obtain ⟨a1,_⟩:=q l[i] (List.getElem_mem hlt)
  obtain ⟨b1,_⟩:=r l'[i] (List.getElem_mem hlt')
  refine sv23 ?_
  refine scs ?_
  refine ck e127 (c127 l[i].Slots l'[i].Slots (by omega) (by omega)) rfl ?_
  refine sv23 ?_
  constructor <;> intro hq
  ·have hne:l[i] ≠ l'[i]:=fun e=>by rw [e] at hq;simp at hq
   apply hK
   refine sv23 ?_
   refine Fin.nt results128 [] ?_ ?_ ?_ <;> try trivial
   (refine rsl ?_;try exact .intro)
   symm;rw [decide_eq_false_iff_not]
   rintro rfl;exact hne rfl
  ·have he:l[i]=l'[i]:=by rw [SList.eq_iff];simpa [and_assoc] using hq
   (apply hK
    exact ⟨l.length - (i + 1),_,by omega,Ent.wk [],i + 1,by omega,rfl,by rw [List.take_succ_eq_append_getElem hlt,List.take_succ_eq_append_getElem hlt',hinv,he],rfl⟩)
 ·have hge':l.length=i:=by omega
  subst hge'
  have hdi:decide (((l.length:Nat):Int) < ((l.length:Nat):Int))=false:=by simp
  have ht:l=l':=by
   rw [List.take_of_length_le (Nat.le_refl _),List.take_of_length_le (by omega)] at hinv
   exact hinv
  clear hinv
  refine sv1 ?_
  apply hK
  refine evl ?_
  refine Fin.nt results128 [] ?_ ?_ ?_ <;> try trivial
  (refine rsl ?_;try exact .intro)
  symm;rw [decide_eq_true_iff]
  exact ht
theorem c50 (x y:Lists) (hx:x.sok) (hy:y.sok):Ctr prog 50 [.agg ((encLists x).map .dat),.agg ((encLists y).map .dat)] [] (.one (.dat (.bool (decide (x=y))))) []:=by
 have hmx:maxLen=9223372036854775807:=rfl
 obtain ⟨a1,qGlobal,a2,qOwn,_⟩:=hx
 obtain ⟨b1,rGlobal,b2,rOwn,_⟩:=hy
 simp only [encLists,List.map_cons,List.map_nil]
 refine Ctr.bd mixed func50 rfl ?_
 refine evl ?_
 refine scs ?_
 refine ck e128 (c128 x.Global y.Global (by omega) (by omega) qGlobal rGlobal) rfl ?_
 refine evl ?_
 refine scs ?_
 refine ck e128 (c128 x.Own y.Own (by omega) (by omega) qOwn rOwn) rfl ?_
 refine evl ?_
 refine scs ?_
 refine Fin.nt results50 [] ?_ ?_ ?_ <;> try trivial
 (refine rsl ?_;try exact .intro)
 rw [Bool.eq_iff_iff]
 simp only [Lists.eq_iff,decide_eq_true_eq]
 all_goals simp [and_assoc]
theorem c11 (x y:Mem) (hx:x.sok) (hy:y.sok):Ctr prog 11 [.agg ((encMem x).map .dat),.agg ((encMem y).map .dat)] [] (.one (.dat (.bool (decide (x=y))))) []:=by
 have hmx:maxLen=9223372036854775807:=rfl
 obtain ⟨hHeap,hLists,_⟩:=hx
 obtain ⟨gHeap,gLists,_⟩:=hy
 have sHeap:=c49 x.Heap y.Heap hHeap gHeap
 simp only [encHeap,List.map_cons,List.map_nil] at sHeap
 have sLists:=c50 x.Lists y.Lists hLists gLists
 simp only [encLists,List.map_cons,List.map_nil] at sLists
 simp only [encMem,List.map_cons,List.map_nil]
 refine Ctr.bd mixed func11 rfl ?_
 refine evl ?_
 refine scs ?_
 refine ck e49 (sHeap) rfl ?_
 refine evl ?_
 refine scs ?_
 refine ck e50 (sLists) rfl ?_
 refine evl ?_
 refine scs ?_
 refine Fin.nt results11 [] ?_ ?_ ?_ <;> try trivial
 (refine rsl ?_;try exact .intro)
 rw [Bool.eq_iff_iff]
 simp only [Mem.eq_iff,decide_eq_true_eq]
 all_goals simp [and_assoc]
def writableM (m:Mem) (h:Int):Int:=if isLiveM m h=false then 4 else if hasNodeM m.Heap (h % 32)=false then 2 else 0
def nodeOkM (x:Node):Bool:=nodeOk x.Key x.Val x.Next
def nodeOf (m:Mem) (h:Int):Node:=nodeInM m.Heap (h % 32)
def stepOk (m:Mem) (h:Int) (o:List Int):Bool:=isLiveM m h && hasNodeM m.Heap (h % 32) && !(o.any fun y=>y == h) && nodeOkM (nodeOf m h)
def chainGo (m:Mem):Nat -> Int -> List Int -> Option (List Int)
 | f,h,o=>if h=0 then some o else match f with
  | 0=>none
  | f + 1=>if stepOk m h o=true then chainGo m f (nodeOf m h).Next (o ++ [h]) else none
def chainR (m:Mem) (head:Int):List Int × Bool:=if memOk m=true then (match chainGo m 25 head [] with
 | some l=>(l,true)
 | none=>([],false)) else ([],false)
theorem chainGo_zero (m:Mem) (f:Nat) (o:List Int):chainGo m f 0 o=some o:=by
 unfold chainGo;simp
theorem chainGo_bad {m:Mem} {f:Nat} {h:Int} {o:List Int} (h0:h ≠ 0) (hb:stepOk m h o=false):chainGo m (f + 1) h o=none:=by
 rw [chainGo];simp [h0,hb]
theorem chainGo_step {m:Mem} {f:Nat} {h:Int} {o:List Int} (h0:h ≠ 0) (hb:stepOk m h o=true):chainGo m (f + 1) h o=chainGo m f (nodeOf m h).Next (o ++ [h]):=by
 rw [chainGo];simp [h0,hb]
theorem nodup_lt:∀ (n:Nat) (l:List Nat),l.Nodup -> (∀ x ∈ l,x < n) -> l.length <= n
 | 0,l,_,h=>by
  cases l with
  | nil=>exact Nat.le_refl _
  | cons x l=>exact absurd (h x (by simp)) (Nat.not_lt_zero x)
 | n + 1,l,hn,h=>by
  by_cases hm:n ∈ l
  ·have h1:=nodup_lt n (l.erase n) (hn.erase n) (fun x hx=>by
    have h2:=(hn.mem_erase_iff).1 hx
    have:=h x h2.2
    omega)
   rw [List.length_erase_of_mem hm] at h1
   omega
  ·have:=nodup_lt n l hn (fun x hx=>by
    have h1:=h x hx
    have:x ≠ n:=fun e=>hm (e ▸ hx)
    omega)
   omega
theorem step_a {m:Mem} {h:Int} {o:List Int} (hq:(bif (writableM m h != 0) then true else o.any fun y=>y == h)=true):stepOk m h o=false:=by
 simp only [stepOk]
 cases h1:isLiveM m h with
 | false=>rfl
 | true =>
  cases h2:hasNodeM m.Heap (h % 32) with
  | false=>rfl
  | true =>
   have:writableM m h=0:=by simp [writableM,h1,h2]
   rw [this] at hq
   have hq:(o.any fun y=>y == h)=true:=hq
   rw [hq];rfl
theorem step_b {m:Mem} {h:Int} {o:List Int} (hq:(bif (writableM m h != 0) then true else o.any fun y=>y == h)=false):isLiveM m h=true /\ hasNodeM m.Heap (h % 32)=true /\ stepOk m h o=nodeOkM (nodeOf m h):=by
 cases h1:isLiveM m h with
 | false =>
  have:writableM m h=4:=by simp [writableM,h1]
  rw [this] at hq;cases hq
 | true =>
  cases h2:hasNodeM m.Heap (h % 32) with
  | false =>
   have:writableM m h=2:=by simp [writableM,h1,h2]
   rw [this] at hq;cases hq
  | true =>
   have:writableM m h=0:=by simp [writableM,h1,h2]
   rw [this] at hq
   have hq:(o.any fun y=>y == h)=false:=hq
   exact ⟨rfl,rfl,by simp only [stepOk,h1,h2,hq];rfl⟩
def Good (m:Mem) (o:List Int):Prop:=o.Nodup /\ ∀ x ∈ o,isLiveM m x=true /\ hasNodeM m.Heap (x % 32)=true /\ nodeOkM (nodeOf m x)=true
theorem live_iff {m:Mem} {h:Int} (hl:isLiveM m h=true):handleOk h=true /\ stateM m (h % 32)=3 /\ genInM m.Heap (h % 32)=h / 32:=by
 simp only [isLiveM,Bool.and_eq_true,beq_iff_eq] at hl
 exact ⟨hl.1.1,hl.1.2,hl.2⟩
theorem good_len {m:Mem} {o:List Int} (h:Good m o):o.length <= 24:=by
 have:=nodup_lt 24 (o.map fun x=>(x % 32).toNat) (by
  rw [List.Nodup,List.pairwise_map]
  refine List.Pairwise.imp_of_mem (fun {a b} ha hb hne e=>hne ?_) h.1
  obtain ⟨a1,_,a3⟩:=live_iff (h.2 a ha).1
  obtain ⟨b1,_,b3⟩:=live_iff (h.2 b hb).1
  have e':a % 32=b % 32:=by omega
  rw [e',b3] at a3
  omega) (fun x hx=>by
  obtain ⟨y,hy,rfl⟩:=List.mem_map.1 hx
  have:=(handleOk_iff y).1 (live_iff (h.2 y hy).1).1
  omega)
 simpa using this
theorem stepOk_iff {m:Mem} {h:Int} {o:List Int} (hs:stepOk m h o=true):isLiveM m h=true /\ hasNodeM m.Heap (h % 32)=true /\ h ∉ o /\ nodeOkM (nodeOf m h)=true:=by
 simp only [stepOk,Bool.and_eq_true,Bool.not_eq_true',List.any_eq_false,beq_iff_eq] at hs
 exact ⟨hs.1.1.1,hs.1.1.2,fun hm=>hs.1.2 h hm rfl,hs.2⟩
theorem good_snoc {m:Mem} {h:Int} {o:List Int} (hg:Good m o) (hs:stepOk m h o=true):Good m (o ++ [h]):=by
 obtain ⟨h1,h2,h3,h4⟩:=stepOk_iff hs
 refine ⟨List.nodup_append.2 ⟨hg.1,by simp,fun a ha b hb e=>h3 (by rw [List.mem_singleton.1 hb] at e;exact e ▸ ha)⟩,fun x hx=>?_⟩
 rcases List.mem_append.1 hx with hx | hx
 ·exact hg.2 x hx
 ·rw [List.mem_singleton.1 hx];exact ⟨h1,h2,h4⟩
theorem chainGo_good {m:Mem}:∀ {f:Nat} {h:Int} {o l:List Int},Good m o -> chainGo m f h o=some l -> Good m l
 | 0,h,o,l,hg,hc=>by
  rw [chainGo] at hc
  split at hc
  ·cases hc;exact hg
  ·cases hc
 | f + 1,h,o,l,hg,hc=>by
  by_cases h0:h=0
  ·subst h0;rw [chainGo_zero] at hc;cases hc;exact hg
  ·cases hs:stepOk m h o with
   | true=>rw [chainGo_step h0 hs] at hc;exact chainGo_good (good_snoc hg hs) hc
   | false=>rw [chainGo_bad h0 hs] at hc;cases hc
theorem chain_good (m:Mem) (head:Int):(chainR m head).1=[] \/ (memOk m=true /\ Good m (chainR m head).1):=by
 unfold chainR
 split
 ·rename_i hm
  split
  ·rename_i l hl
   exact .inr ⟨hm,chainGo_good ⟨List.nodup_nil,by simp⟩ hl⟩
  ·exact .inl rfl
 ·exact .inl rfl
theorem c40 (m:Mem) (hz:sizMem m <= 1048576) (hs:shapedM m.Heap=true) (h:Int):Ctr prog 40 [.agg ((encMem m).map .dat),.one (.dat (.int .i64 h))] [] (.one (.dat (.int .i64 (writableM m h)))) []:=by
 have hcl:=c111 m hz hs h
 have hch:=fun s=>c112 m.Heap hs s
 simp only [encHeap,List.map_cons,List.map_nil] at hch
 simp only [encMem,List.map_cons,List.map_nil] at hcl ⊢
 cases hl:isLiveM m h with
 | false =>
  have hr:writableM m h=4:=by simp [writableM,hl]
  rw [hr]
  refine Ctr.bd mixed func40 rfl ?_
  refine evl ?_
  refine scs ?_
  refine ck e111 (hcl) rfl ?_
  simp (maxSteps:=2000000) only [go_sem,seval,hl]
  refine scs ?_
  refine Fin.nt results40 [] ?_ ?_ ?_ <;> try trivial
 | true =>
  obtain ⟨ht,hd,hw⟩:=handle_pos (live_iff hl).1
  cases hn:hasNodeM m.Heap (h % 32) with
  | false =>
   have hr:writableM m h=2:=by simp [writableM,hl,hn]
   rw [hr]
   refine Ctr.bd mixed func40 rfl ?_
   refine evl ?_
   refine scs ?_
   refine ck e111 (hcl) rfl ?_
   simp (maxSteps:=2000000) only [go_sem,seval,hl,ht]
   refine scs ?_
   refine ck e112 (hch (h % 32)) rfl ?_
   refine sv22 ?_
   refine scs ?_
   refine Fin.nt results40 [] ?_ ?_ ?_ <;> try trivial
  | true =>
   have hr:writableM m h=0:=by simp [writableM,hl,hn]
   rw [hr]
   refine Ctr.bd mixed func40 rfl ?_
   refine evl ?_
   refine scs ?_
   refine ck e111 (hcl) rfl ?_
   simp (maxSteps:=2000000) only [go_sem,seval,hl,ht]
   refine scs ?_
   refine ck e112 (hch (h % 32)) rfl ?_
   refine sv22 ?_
   refine scs ?_
   refine Fin.nt results40 [] ?_ ?_ ?_ <;> try trivial
theorem c21 (m:Mem) (hz:sizMem m <= 1048576) (head:Int):Ctr prog 21 [.agg ((encMem m).map .dat),.one (.dat (.int .i64 head))] [] (.tup [.one (.own 0),.one (.dat (.bool (chainR m head).2))]) [.vec 1 true ((chainR m head).1.map encI)]:=by
 have hmx:maxLen=9223372036854775807:=rfl
 have hcm:=c39 m hz
 have hcw:=fun hs h=>c40 m hz hs h
 have hcn:=fun hs s hn=>c60 m.Heap hs s hn
 simp only [encHeap,encNode,List.map_cons,List.map_nil] at hcn
 simp only [encMem,List.map_cons,List.map_nil] at hcm hcw ⊢
 cases hm:memOk m with
 | false =>
  have hr:chainR m head=([],false):=by simp [chainR,hm]
  rw [hr]
  refine Ctr.bd mixed func21 rfl ?_
  refine evl ?_
  refine scs ?_
  refine ck e39 (hcm) rfl ?_
  refine sv24 ?_
  refine scs ?_
  refine Fin.nt results21 [1] ?_ ?_ ?_ <;> try trivial
  all_goals exact entd
 | true =>
  have hs:=(memOk_heap hm).2.2
  have hr:chainR m head=(match chainGo m 25 head [] with
   | some l=>(l,true)
   | none=>([],false)):=by simp [chainR,hm]
  refine Ctr.bd mixed func21 rfl ?_
  refine evl ?_
  refine scs ?_
  refine ck e39 (hcm) rfl ?_
  refine sv24 ?_
  refine scs ?_
  refine LoopK_intro (fun zn zs=>∃ (o:List Int) (h:Int),zn=25 - o.length /\ (Good m o /\ chainGo m 25 head []=chainGo m (25 - o.length) h o) /\ zs=mkSt [(2,.one (.ptr (.own 0 0 0))),(6,.one (.own 1)),(7,.one (.dat (.int .i64 h)))] [.box [.dat (.sl 1 (m.Heap.Bytes.map encI)),.dat (.sl 1 (m.Heap.Class.map encI)),.dat (.sl 1 (m.Lists.Global.map encSList)),.dat (.sl 1 (m.Lists.Own.map encSList))],.vec 1 true (o.map encI)]) _ _
   (Ent.wk [0,1]) ⟨[],head,rfl,⟨⟨List.nodup_nil,by simp⟩,rfl⟩,rfl⟩ ?_
  rintro zn zs ⟨o,h,rfl,hinv,rfl⟩ K hK
  obtain ⟨hg,hch⟩:=hinv
  have hle:=good_len hg
  obtain ⟨f,hf⟩:∃ f,25 - o.length=f + 1:=⟨24 - o.length,by omega⟩
  rw [hf] at hch
  cases h0:decide (h=0) with
  | true =>
   have h0':=of_decide_eq_true h0
   subst h0'
   rw [chainGo_zero] at hch
   rw [hch] at hr
   have hb:((0:Int) != 0)=false:=rfl
   refine sv25 ?_
   apply hK
   refine evl ?_
   rw [hr]
   refine Fin.nt results21 [1] ?_ ?_ ?_ <;> try trivial
   all_goals exact entd
  | false =>
   have h0':=of_decide_eq_false h0
   have hb:(h != 0)=true:=by simpa using h0'
   have hcc:=c62 o (by omega) h
   refine sv25 ?_
   refine scs ?_
   refine ck e40 (hcw hs h) rfl ?_
   refine evl ?_
   refine scs ?_
   refine ck e62 (hcc) rfl ?_
   refine evl ?_
   refine scs ?_
   constructor <;> intro hq
   ·rw [chainGo_bad h0' (step_a hq)] at hch
    rw [hch] at hr
    apply hK
    refine evl ?_
    rw [hr]
    refine Fin.ent (Ent.emp (t:=4) (sz:=1) rfl) ?_
    refine evl ?_
    refine Fin.nt results21 [2] ?_ ?_ ?_ <;> try trivial
    all_goals exact entd
   obtain ⟨hlv,hnd,hso⟩:=step_b hq
   obtain ⟨ht,_,_⟩:=handle_pos (live_iff hlv).1
   refine scs ?_
   refine sv26 ?_
   refine scs ?_
   refine ck e60 (hcn hs (h % 32) hnd) rfl ?_
   refine evl ?_
   refine scs ?_
   refine ck e15 (c15 _ _ _) rfl ?_
   refine evl ?_
   refine scs ?_
   constructor <;> intro hq2
   ·have hb2:stepOk m h o=false:=by rw [hso];exact not_t hq2
    rw [chainGo_bad h0' hb2] at hch
    rw [hch] at hr
    apply hK
    refine evl ?_
    rw [hr]
    refine Fin.ent (Ent.emp (t:=4) (sz:=1) rfl) ?_
    refine evl ?_
    refine Fin.nt results21 [3] ?_ ?_ ?_ <;> try trivial
    all_goals exact entd
   ·have hb2:stepOk m h o=true:=by rw [hso];exact not_f hq2
    rw [chainGo_step h0' hb2] at hch
    have hg2:=good_snoc hg hb2
    have hch2:chainGo m 25 head []=chainGo m (25 - (o ++ [h]).length) (nodeInM m.Heap (h % 32)).Next (o ++ [h]):=by
     rw [hch,List.length_append];congr 1;simp;omega
    refine scs ?_
    have hdec:25 - (o ++ [h]).length < 25 - o.length:=by rw [List.length_append,List.length_singleton];omega
    (apply hK
     exact ⟨_,_,by exact hdec,Ent.wk [0,4],(o ++ [h]),(nodeInM m.Heap (h % 32)).Next,rfl,⟨hg2,hch2⟩,rfl⟩)
theorem spot_live {m:Mem} {h:Int} (hl:isLiveM m h=true):spotM m h=if hasNodeM m.Heap (h % 32)=true then (startM m.Heap (h % 32),0) else (0,2):=by
 obtain ⟨h1,h2,_⟩:=live_iff hl
 have:=state3_class h2
 rw [spotM,if_pos ⟨h1,this⟩]
theorem c63 (m:Mem) (hz:sizMem m <= 1048576) (hm:memOk m=true) (head:Int):Ctr prog 63 [.agg ((encMem m).map .dat),.one (.dat (.int .i64 head))] [] (.tup [.one (.own 0),.one (.dat (.bool (chainR m head).2))]) [.vec 1 true ((chainR m head).1.map encI)]:=by
 have hmx:maxLen=9223372036854775807:=rfl
 have hs:=(memOk_heap hm).2.2
 have hcv:=fun h=>c46 m hz hs h
 have hcp:=fun h=>c47 m hs h
 have hcl:=fun A h0 h1=>c139 m hs A h0 h1
 simp only [encNode,List.map_cons,List.map_nil] at hcl
 simp only [encMem,List.map_cons,List.map_nil] at hcv hcp hcl ⊢
 have hr:chainR m head=(match chainGo m 25 head [] with
  | some l=>(l,true)
  | none=>([],false)):=by simp [chainR,hm]
 refine Ctr.bd mixed func63 rfl ?_
 refine evl ?_
 refine scs ?_
 refine LoopK_intro (fun zn zs=>∃ (o:List Int) (h:Int),zn=25 - o.length /\ (Good m o /\ chainGo m 25 head []=chainGo m (25 - o.length) h o) /\ zs=mkSt [(2,.one (.ptr (.own 0 0 0))),(6,.one (.own 1)),(7,.one (.dat (.int .i64 h)))] [.box [.dat (.sl 1 (m.Heap.Bytes.map encI)),.dat (.sl 1 (m.Heap.Class.map encI)),.dat (.sl 1 (m.Lists.Global.map encSList)),.dat (.sl 1 (m.Lists.Own.map encSList))],.vec 1 true (o.map encI)]) _ _
  (Ent.wk [0,1]) ⟨[],head,rfl,⟨⟨List.nodup_nil,by simp⟩,rfl⟩,rfl⟩ ?_
 rintro zn zs ⟨o,h,rfl,hinv,rfl⟩ K hK
 obtain ⟨hg,hch⟩:=hinv
 have hle:=good_len hg
 obtain ⟨f,hf⟩:∃ f,25 - o.length=f + 1:=⟨24 - o.length,by omega⟩
 rw [hf] at hch
 cases h0:decide (h=0) with
 | true =>
  have h0':=of_decide_eq_true h0
  subst h0'
  rw [chainGo_zero] at hch
  rw [hch] at hr
  have hb:((0:Int) != 0)=false:=rfl
  refine sv25 ?_
  apply hK
  refine evl ?_
  rw [hr]
  refine Fin.nt results63 [1] ?_ ?_ ?_ <;> try trivial
  all_goals exact entd
 | false =>
  have h0':=of_decide_eq_false h0
  have hb:(h != 0)=true:=by simpa using h0'
  have hcc:=c133 o (by omega) h
  refine sv25 ?_
  refine scs ?_
  refine ck e46 (hcv h) rfl ?_
  refine evl ?_
  refine scs ?_
  refine ck e133 (hcc) rfl ?_
  refine evl ?_
  refine scs ?_
  constructor <;> intro hq
  ·have hb2:stepOk m h o=false:=by
    simp only [stepOk]
    cases h1:isLiveM m h with
    | false=>rfl
    | true =>
     have hq:(o.any fun y=>y == h)=true:=by simpa [h1] using hq
     rw [hq];simp
   rw [chainGo_bad h0' hb2] at hch
   rw [hch] at hr
   refine scs ?_
   apply hK
   refine evl ?_
   rw [hr]
   refine Fin.nt results63 [2] ?_ ?_ ?_ <;> try trivial
   all_goals exact entd
  have hlv:isLiveM m h=true:=by
   cases h1:isLiveM m h with
   | true=>rfl
   | false=>rw [h1] at hq;cases hq
  have hni:(o.any fun y=>y == h)=false:=by rw [hlv] at hq;exact hq
  have hsp:=spot_live hlv
  cases hnd:hasNodeM m.Heap (h % 32) with
  | false =>
   have hsp2:spotM m h=(0,2):=by rw [hsp,hnd];rfl
   have hb2:stepOk m h o=false:=by simp only [stepOk,hnd,Bool.and_false,Bool.false_and]
   have hcp':=hcp h
   rw [hsp2] at hcp'
   rw [chainGo_bad h0' hb2] at hch
   rw [hch] at hr
   refine scs ?_
   refine ck e47 (hcp') rfl ?_
   refine evl ?_
   refine scs ?_
   have hb0:((2:Int) != 0)=true:=rfl
   refine sv27 ?_
   refine scs ?_
   first | refine CCallK_of (.agg [.dat (.int .i64 0),.dat (.int .i64 0),.dat (.int .i64 0)]) ?_ | refine CCallK_og (.agg [.dat (.int .i64 0),.dat (.int .i64 0),.dat (.int .i64 0)]) ?_
   refine sv27 ?_
   refine scs ?_
   first | refine CCallK_of (.one (.dat (.bool false))) ?_ | refine CCallK_og (.one (.dat (.bool false))) ?_
   refine sv27 ?_
   refine scs ?_
   apply hK
   refine evl ?_
   rw [hr]
   refine Fin.nt results63 [2] ?_ ?_ ?_ <;> try trivial
   all_goals exact entd
  | true =>
   have hsp2:spotM m h=(startM m.Heap (h % 32),0):=by rw [hsp,hnd];rfl
   have hb2:stepOk m h o=nodeOkM (nodeOf m h):=by simp only [stepOk,hnd,hlv,hni];rfl
   have hcp':=hcp h
   rw [hsp2] at hcp'
   obtain ⟨_,hA0,hA1,_⟩:=start_bound hs hnd
   have hb0:((0:Int) != 0)=false:=rfl
   have hcl':=hcl (startM m.Heap (h % 32)) hA0 hA1
   rw [show loadNode m.Heap.Bytes (startM m.Heap (h % 32)).toNat=nodeOf m h from rfl] at hcl'
   refine scs ?_
   refine ck e47 (hcp') rfl ?_
   refine sv27 ?_
   refine scs ?_
   refine ck e139 (hcl') rfl ?_
   refine sv27 ?_
   refine scs ?_
   refine ck e45 (c45 _ _ _) rfl ?_
   refine sv27 ?_
   constructor <;> intro hq2
   ·have hb3:stepOk m h o=false:=by rw [hb2];exact not_t hq2
    rw [chainGo_bad h0' hb3] at hch
    rw [hch] at hr
    refine scs ?_
    apply hK
    refine evl ?_
    rw [hr]
    refine Fin.nt results63 [2] ?_ ?_ ?_ <;> try trivial
    all_goals exact entd
   ·have hb3:stepOk m h o=true:=by rw [hb2];exact not_f hq2
    refine scs ?_
    refine ck e139 (hcl') rfl ?_
    refine evl ?_
    refine scs ?_
    rw [chainGo_step h0' hb3] at hch
    have hg2:=good_snoc hg hb3
    have hch2:chainGo m 25 head []=chainGo m (25 - (o ++ [h]).length) (nodeOf m h).Next (o ++ [h]):=by
     rw [hch,List.length_append];congr 1;simp;omega
    have hdec:25 - (o ++ [h]).length < 25 - o.length:=by rw [List.length_append,List.length_singleton];omega
    (apply hK
     exact ⟨_,_,by exact hdec,Ent.wk [0,3],(o ++ [h]),(nodeOf m h).Next,rfl,⟨hg2,hch2⟩,rfl⟩)
theorem c22 (m:Mem) (hz:sizMem m <= 1048576) (head:Int):Ctr prog 22 [.agg ((encMem m).map .dat),.one (.dat (.int .i64 head))] [] (.tup [.one (.own 0),.one (.dat (.bool (chainR m head).2))]) [.vec 1 true ((chainR m head).1.map encI)]:=by
 have hcm:=c14 m hz
 have hcc:=fun hm=>c63 m hz hm head
 simp only [encMem,List.map_cons,List.map_nil] at hcm hcc ⊢
 cases hm:memOk m with
 | false =>
  have hr:chainR m head=([],false):=by simp [chainR,hm]
  rw [hr]
  refine Ctr.bd mixed func22 rfl ?_
  refine evl ?_
  refine scs ?_
  refine ck e14 (hcm) rfl ?_
  refine sv24 ?_
  refine scs ?_
  refine Fin.nt results22 [1] ?_ ?_ ?_ <;> try trivial
  all_goals exact entd
 | true =>
  refine Ctr.bd mixed func22 rfl ?_
  refine evl ?_
  refine scs ?_
  refine ck e14 (hcm) rfl ?_
  refine sv24 ?_
  refine scs ?_
  refine ck e63 (hcc hm) rfl ?_
  refine evl ?_
  refine scs ?_
  refine Fin.nt results22 [1] ?_ ?_ ?_ <;> try trivial
  all_goals exact entd
def seekGo (m:Mem) (key:Int):Int -> List Int -> Int × Int
 | _,[]=>(0,0)
 | b,h :: l=>if (nodeOf m h).Key=key then (h,b) else seekGo m key h l
def seekM (m:Mem) (head key:Int):Int × Int:=seekGo m key 0 (chainR m head).1
theorem chain_mem {m:Mem} {head h:Int} (hm:h ∈ (chainR m head).1):memOk m=true /\ isLiveM m h=true /\ hasNodeM m.Heap (h % 32)=true:=by
 rcases chain_good m head with e | ⟨h1,h2⟩
 ·rw [e] at hm;cases hm
 ·exact ⟨h1,(h2.2 h hm).1,(h2.2 h hm).2.1⟩
theorem chain_len (m:Mem) (head:Int):(chainR m head).1.length <= 24:=by
 rcases chain_good m head with e | ⟨_,h2⟩
 ·rw [e];decide
 ·exact good_len h2
def pairOf (m:Mem) (h:Int):KV:=⟨(nodeOf m h).Key,(nodeOf m h).Val⟩
def pairsM (m:Mem) (head:Int):List KV:=(chainR m head).1.map (pairOf m)
theorem pairs_len (m:Mem) (head:Int):(pairsM m head).length <= 24:=by
 rw [pairsM,List.length_map];exact chain_len m head
theorem c19 (m:Mem) (hz:sizMem m <= 1048576) (head:Int):Ctr prog 19 [.agg ((encMem m).map .dat),.one (.dat (.int .i64 head))] [] (.one (.own 0)) [.vec 2 true ((pairsM m head).map encKV)]:=by
 have hmx:maxLen=9223372036854775807:=rfl
 have hcc:=c21 m hz head
 have hcn:=fun hs s hn=>c60 m.Heap hs s hn
 have hall:=fun h hm=>chain_mem (m:=m) (head:=head) (h:=h) hm
 have hlen:=chain_len m head
 simp only [encHeap,encNode,List.map_cons,List.map_nil] at hcn
 simp only [encMem,List.map_cons,List.map_nil] at hcc ⊢
 unfold pairsM
 generalize (chainR m head).1=l at hcc hall hlen ⊢
 refine Ctr.bd mixed func19 rfl ?_
 refine evl ?_
 refine scs ?_
 refine ck e21 (hcc) rfl ?_
 refine evl ?_
 refine scs ?_
 refine LoopK_intro (fun zn zs=>∃ (i:Nat) (o:List KV),i <= l.length /\ zn=l.length - i /\ (l.map (pairOf m)=o ++ (l.drop i).map (pairOf m) /\ o.length=i) /\ zs=mkSt [(20,.one (.dat (.int .i64 i))),(19,.one (.dat (.int .i64 (l.length)))),(18,.one (.own 2)),(2,.one (.ptr (.own 0 0 0))),(5,.one (.own 1)),(1,.one (.dat (.int .i64 head)))] [.box [.dat (.sl 1 (m.Heap.Bytes.map encI)),.dat (.sl 1 (m.Heap.Class.map encI)),.dat (.sl 1 (m.Lists.Global.map encSList)),.dat (.sl 1 (m.Lists.Own.map encSList))],.vec 2 true (o.map encKV),.vec 1 true (l.map encI)]) (l.length) _
  (Ent.wk [0,1,2]) ⟨0,[],by omega,by omega,⟨rfl,rfl⟩,rfl⟩ ?_
 rintro zn zs ⟨i,o,hi,rfl,hinv,rfl⟩ K hK
 rcases Nat.lt_or_ge i (l.length) with hlt | hge
 ·have hdi:decide ((i:Int) < ((l.length:Nat):Int))=true:=decide_eq_true (by omega)
  have hw:=wrap_succ hlt (show l.length <= maxLen by omega)
  obtain ⟨hm,hlv,hnd⟩:=hall l[i] (List.getElem_mem hlt)
  obtain ⟨ht,_,_⟩:=handle_pos (live_iff hlv).1
  obtain ⟨hin,hol⟩:=hinv
  rw [List.drop_eq_getElem_cons hlt,List.map_cons] at hin
  simp (maxSteps:=2000000) only [go_sem,seval,hdi,hw,getD_map hlt,encI,ht]
  refine scs ?_
  refine ck e60 (hcn (memOk_heap hm).2.2 (l[i] % 32) hnd) rfl ?_
  simp (maxSteps:=2000000) only [go_sem,seval,hdi,hw,getD_map hlt,encI,ht]
  refine scs ?_
  (apply hK
   exact ⟨l.length - (i + 1),_,by omega,Ent.wk [0,5,2],i + 1,(o ++ [pairOf m l[i]]),by omega,rfl,⟨by rw [List.append_assoc];exact hin,by simp [hol]⟩,rfl⟩)
 ·have hge':l.length=i:=by omega
  subst hge'
  have hdi:decide (((l.length:Nat):Int) < ((l.length:Nat):Int))=false:=by simp
  obtain ⟨hin,_⟩:=hinv
  rw [List.drop_length,List.map_nil,List.append_nil] at hin
  refine sv1 ?_
  apply hK
  refine evl ?_
  rw [hin]
  refine Fin.nt results19 [1] ?_ ?_ ?_ <;> try trivial
  all_goals exact entd
theorem c106 (h:Heap) (hz:sizHeap h <= 1048576):Ctr prog 106 [.agg ((encHeap h).map .dat)] [] (.agg [.own 0,.own 1]) [.vec 1 true (h.Bytes.map encI),.vec 1 true (h.Class.map encI)]:=by
 unfold sizHeap at hz
 simp only [encHeap,List.map_cons,List.map_nil]
 refine Ctr.bd mixed func106 rfl ?_
 refine evl ?_
 refine scs ?_
 refine ck e157 (c157 h.Bytes (by omega)) rfl ?_
 refine evl ?_
 refine scs ?_
 refine ck e157 (c157 h.Class (by omega)) rfl ?_
 refine evl ?_
 repeat ((with_reducible show _=true /\ _);refine ⟨by kernel_rfl,?_⟩)
 refine scs ?_
 refine Fin.nt results106 [2,3] ?_ ?_ ?_ <;> try trivial
 all_goals exact entd
theorem c145 (l:List Int) (hl:l.length <= 1048576):Ctr prog 145 [.one (.dat (.sl 1 (l.map encI)))] [] (.one (.own 0)) [.vec 1 true (l.map encI)]:=by
 have hfl:∀ r ∈ l.map encI,∀ d ∈ r,d.flat=true:=by
  intro r hr d hd
  obtain ⟨y,_,rfl⟩:=List.mem_map.1 hr
  simp only [encI,List.mem_cons,List.not_mem_nil,or_false] at hd
  subst hd;rfl
 refine Ctr.bd mixed func145 rfl ?_
 refine sv3 ?_
 refine scs ?_
 refine Fin.nt results145 [1] ?_ ?_ ?_ <;> try trivial
 all_goals exact entd
theorem c203 (l:List SList) (hl:l.length <= 1048576) (hq:∀ x ∈ l,x.sok):Ctr prog 203 [.one (.dat (.sl 1 (l.map encSList)))] [] (.one (.own 0)) [.vec 1 true (l.map encSList)]:=by
 refine Ctr.bd mixed func203 rfl ?_
 refine evl ?_
 refine scs ?_
 refine LoopK_intro (fun zn zs=>∃ (i:Nat) (o:List SList),i <= l.length /\ zn=l.length - i /\ (l=o ++ l.drop i /\ o.length=i) /\ zs=mkSt [(4,.one (.dat (.int .i64 i))),(3,.one (.own 0)),(0,.one (.dat (.sl 1 (l.map encSList))))] [.vec 1 true (o.map encSList)]) (l.length) _
  (Ent.wk [0]) ⟨0,[],by omega,by omega,⟨rfl,rfl⟩,rfl⟩ ?_
 rintro zn zs ⟨i,o,hi,rfl,hinv,rfl⟩ K hK
 rcases Nat.lt_or_ge i (l.length) with hlt | hge
 ·have hdi:decide ((i:Int) < ((l.length:Nat):Int))=true:=decide_eq_true (by omega)
  have hw:=wrap_succ hlt (show l.length <= maxLen by unfold maxLen;omega)
  obtain ⟨hin,hol⟩:=hinv
  obtain ⟨q0,_⟩:=hq l[i] (List.getElem_mem hlt)
  rw [List.drop_eq_getElem_cons hlt] at hin
  refine sv6 ?_
  refine scs ?_
  refine ck e145 (c145 l[i].Slots q0) rfl ?_
  refine sv6 ?_
  refine scs ?_
  (apply hK
   exact ⟨l.length - (i + 1),_,by omega,Ent.wk [3],i + 1,(o ++ [l[i]]),by omega,rfl,⟨by rw [List.append_assoc];exact hin,by simp [hol]⟩,rfl⟩)
 ·have hge':l.length=i:=by omega
  subst hge'
  have hdi:decide (((l.length:Nat):Int) < ((l.length:Nat):Int))=false:=by simp
  have hoe:l=o:=by have:=hinv.1;rw [List.drop_length,List.append_nil] at this;exact this
  clear hinv
  refine sv1 ?_
  apply hK
  refine evl ?_
  rw [hoe]
  refine Fin.nt results203 [0] ?_ ?_ ?_ <;> try trivial
  all_goals exact entd
theorem Ent_empBox {nf:Nat} {st:St} {o j sz:Nat} {cells:List Leaf} (eo:st.obj o=.box cells) (hj:cells[j]?=some .emp):Ent nf st ((st.addObj (.vec sz true [])).setObj o (.box (cells.set j (.own st.next)))):=fun B N β φ a w hB h=>by
 have hon:o < st.next:=lt_next h (by rw [eo];simp)
 have ho:=h.objs o
 unfold ObjRel at ho
 rw [show (st.ctx w β φ).ob o=_ from eo] at ho
 obtain ⟨b,T,vs,e1,e2,e3,e4⟩:=ho
 obtain ⟨v,hv,ad,rfl⟩:=e4.2 j _ hj
 obtain ⟨β1,φ1,le1,sr1,hp⟩:=h.newVec0 (ks:=[]) (by simp) sz true ad
 have sr1:SR B N (st.addObj (.vec sz true [])) β1 φ1 a w:=sr1
 have le1:(st.ctx w β φ).Le ((st.addObj (.vec sz true [])).ctx w β1 φ1):=le1
 have hp:AVRel ((st.addObj (.vec sz true [])).ctx w β1 φ1) (.one (.own st.next)) (.slice ad 0 0):=hp
 have eo1:(st.addObj (.vec sz true [])).obj o=.box cells:=by rw [St.obj_addObj_ne _ _ (by omega)];exact eo
 have ho1:=sr1.objs o
 unfold ObjRel at ho1
 rw [show ((st.addObj (.vec sz true [])).ctx w β1 φ1).ob o=_ from eo1] at ho1
 obtain ⟨b',T',vs',f1,f2,f3,f4⟩:=ho1
 have hβ:β1 o=β o:=(le1.obj o hon (by rw [show (st.ctx w β φ).ob o=_ from eo];simp)).2 (by rw [show ((st.addObj (.vec sz true [])).ctx w β1 φ1).ob o=_ from eo1];simp)
 have hbb:b'=b:=by
  have f1':(β1 o).base=some ⟨b',0,none⟩:=f1
  have e1':(β o).base=some ⟨b,0,none⟩:=e1
  rw [hβ,e1'] at f1'
  cases f1';rfl
 subst hbb
 have hvv:vs'=vs:=by
  have e3':w.heap[b']?=some (.cells vs T (0,0)):=e3
  have f3':w.heap[b']?=some (.cells vs' T' (0,0)):=f3
  rw [e3'] at f3'
  cases f3';rfl
 subst hvv
 let st2:=(st.addObj (.vec sz true [])).setObj o (.box (cells.set j (.own st.next)))
 have on2:∀ k,k ≠ o -> st2.obj k=(st.addObj (.vec sz true [])).obj k:=fun k hk=>St.obj_setObj_ne _ _ hk
 have ok2:st2.obj o=.box (cells.set j (.own st.next)):=St.obj_setObj_same _ _ _
 obtain ⟨le2,sr2⟩:=sr1.change (st':=st2) (β':=β1) (φ':=φ1) (w':=w) (fun k=>k=o) rfl (Nat.le_refl _) (fun k hk=>on2 k hk) (fun _ _=>rfl) (fun _ _=>rfl)
  (fun k hk=>by
    have hk':st.next + 1 <= k:=hk
    rw [on2 k (by omega)]
    exact sr1.dead k hk)
  (fun k hk hl=>by
    subst hk
    rw [ok2,show (st.addObj (.vec sz true [])).obj k=_ from eo1]
    exact ⟨trivial,fun _=>rfl⟩)
  (Frm.refl w _)
  (fun le k hk=>by
    subst hk
    unfold ObjRel
    rw [show (st2.ctx w β1 φ1).ob k=_ from ok2]
    refine ⟨b',T',vs',f1,f2,f3,by rw [List.length_set];exact f4.1,fun i l hi=>?_⟩
    by_cases hij:j=i
    ·subst hij
     have hlt:j < cells.length:=(List.getElem?_eq_some_iff.1 hj).1
     rw [List.getElem?_set_self hlt] at hi
     cases hi
     refine ⟨_,hv,?_⟩
     exact AVRel.mono le (a:=.one (.own st.next)) hp
    ·rw [List.getElem?_set_ne hij] at hi
     obtain ⟨u,hu,hr⟩:=f4.2 i l hi
     exact ⟨u,hu,AVRel.mono le (a:=.one l) hr⟩)
  (fun k hk=>sr1.nodup k)
  (fun k hk x hx=>⟨(sr1.fp k x hx).1,.inr ⟨k,hk,hx⟩⟩)
  (fun k k' hk hk' hne=>absurd (hk.trans hk'.symm) hne)
 exact ⟨β1,φ1,sr2⟩
theorem c107 (x:Lists) (hx:x.sok):Ctr prog 107 [.agg ((encLists x).map .dat)] [] (.agg [.own 0,.own 1]) [.vec 1 true (x.Global.map encSList),.vec 1 true (x.Own.map encSList)]:=by
 obtain ⟨hl1,hq1,hl2,hq2,_⟩:=hx
 simp only [encLists,List.map_cons,List.map_nil]
 refine Ctr.bd mixed func107 rfl ?_
 refine evl ?_
 refine scs ?_
 refine LoopK_ent (Ent_empBox (o:=2) (j:=0) (sz:=1) rfl rfl) ?_
 refine LoopK_ent (Ent_empBox (o:=2) (j:=1) (sz:=1) rfl rfl) ?_
 refine evl ?_
 refine LoopK_intro (fun zn zs=>∃ (i:Nat) (o:List SList),i <= x.Global.length /\ zn=x.Global.length - i /\ (x.Global=o ++ x.Global.drop i /\ o.length=i) /\ zs=mkSt [(12,.one (.dat (.int .i64 i))),(11,.one (.dat (.int .i64 (x.Global.length)))),(10,.one (.dat (.sl 1 (x.Global.map encSList)))),(1,.one (.ptr (.own 0 0 0))),(2,.one (.ptr (.own 1 0 0))),(3,.one (.ptr (.own 2 0 0)))] [.box [.dat (.sl 1 (x.Global.map encSList)),.dat (.sl 1 (x.Own.map encSList))],.box [.emp,.emp],.box [.own 3,.own 4],.vec 1 true (o.map encSList),.vec 1 true []]) (x.Global.length) _
  (Ent.wk [0,1,2,3,4]) ⟨0,[],by omega,by omega,⟨rfl,rfl⟩,rfl⟩ ?_
 rintro zn zs ⟨i,o,hi,rfl,hinv,rfl⟩ K hK
 rcases Nat.lt_or_ge i (x.Global.length) with hlt | hge
 ·have hdi:decide ((i:Int) < ((x.Global.length:Nat):Int))=true:=decide_eq_true (by omega)
  have hw:=wrap_succ hlt (show x.Global.length <= maxLen by unfold maxLen;omega)
  obtain ⟨hin,hol⟩:=hinv
  obtain ⟨q0,_⟩:=hq1 x.Global[i] (List.getElem_mem hlt)
  rw [List.drop_eq_getElem_cons hlt] at hin
  refine sv6 ?_
  refine scs ?_
  refine FloatR_intro [(0,[]),(1,[]),(2,[]),(3,[]),(4,[0,1]),(5,[]),(6,[0,1]),(7,[]),(8,[]),(9,[])] (by kernel_rfl) ?_
  refine sv6 ?_
  refine scs ?_
  refine ck e157 (c157 x.Global[i].Slots (by omega)) rfl ?_
  refine sv6 ?_
  refine scs ?_
  (apply hK
   exact ⟨x.Global.length - (i + 1),_,by omega,Ent.wk [0,1,2,8,4],i + 1,(o ++ [x.Global[i]]),by omega,rfl,⟨by rw [List.append_assoc];exact hin,by simp [hol]⟩,rfl⟩)
 ·have hge':x.Global.length=i:=by omega
  subst hge'
  have hdi:decide (((x.Global.length:Nat):Int) < ((x.Global.length:Nat):Int))=false:=by simp
  have hoe:x.Global=o:=by have:=hinv.1;rw [List.drop_length,List.append_nil] at this;exact this
  clear hinv
  refine sv1 ?_
  apply hK
  refine evl ?_
  rw [<- hoe]
  refine LoopK_intro (fun zn zs=>∃ (k:Nat) (p:List SList),k <= x.Own.length /\ zn=x.Own.length - k /\ (x.Own=p ++ x.Own.drop k /\ p.length=k) /\ zs=mkSt [(29,.one (.dat (.int .i64 k))),(28,.one (.dat (.int .i64 (x.Own.length)))),(27,.one (.dat (.sl 1 (x.Own.map encSList)))),(1,.one (.ptr (.own 0 0 0))),(2,.one (.ptr (.own 1 0 0))),(3,.one (.ptr (.own 2 0 0)))] [.box [.dat (.sl 1 (x.Global.map encSList)),.dat (.sl 1 (x.Own.map encSList))],.box [.emp,.emp],.box [.own 3,.own 4],.vec 1 true (x.Global.map encSList),.vec 1 true (p.map encSList)]) (x.Own.length) _
   (Ent.wk [0,1,2,3,4]) ⟨0,[],by omega,by omega,⟨rfl,rfl⟩,rfl⟩ ?_
  rintro zn zs ⟨k,p,hi2,rfl,hinv2,rfl⟩ K2 hK2
  rcases Nat.lt_or_ge k (x.Own.length) with hlt2 | hge2
  ·have hdi2:decide ((k:Int) < ((x.Own.length:Nat):Int))=true:=decide_eq_true (by omega)
   have hw2:=wrap_succ hlt2 (show x.Own.length <= maxLen by unfold maxLen;omega)
   obtain ⟨hin,hol⟩:=hinv2
   obtain ⟨q0,_⟩:=hq2 x.Own[k] (List.getElem_mem hlt2)
   rw [List.drop_eq_getElem_cons hlt2] at hin
   refine sv28 ?_
   refine scs ?_
   refine FloatR_intro [(0,[]),(1,[]),(2,[]),(3,[]),(4,[0,1]),(5,[]),(6,[0,1]),(7,[]),(8,[]),(9,[])] (by kernel_rfl) ?_
   refine sv28 ?_
   refine scs ?_
   refine ck e157 (c157 x.Own[k].Slots (by omega)) rfl ?_
   refine sv28 ?_
   refine scs ?_
   (apply hK2
    exact ⟨x.Own.length - (k + 1),_,by omega,Ent.wk [0,1,2,3,8],k + 1,(p ++ [x.Own[k]]),by omega,rfl,⟨by rw [List.append_assoc];exact hin,by simp [hol]⟩,rfl⟩)
  ·have hge2':x.Own.length=k:=by omega
   subst hge2'
   have hdi2:decide (((x.Own.length:Nat):Int) < ((x.Own.length:Nat):Int))=false:=by simp
   have hoe2:x.Own=p:=by have:=hinv2.1;rw [List.drop_length,List.append_nil] at this;exact this
   clear hinv2
   refine sv13 ?_
   apply hK2
   refine evl ?_
   rw [<- hoe2]
   refine scs ?_
   refine Fin.nt results107 [3,4] ?_ ?_ ?_ <;> try trivial
   all_goals exact entd
theorem c38 (x:Mem) (hz:sizHeap x.Heap <= 1048576) (hx:x.Lists.sok):Ctr prog 38 [.agg ((encMem x).map .dat)] [] (.agg [.own 0,.own 1,.own 2,.own 3]) [.vec 1 true (x.Heap.Bytes.map encI),.vec 1 true (x.Heap.Class.map encI),.vec 1 true (x.Lists.Global.map encSList),.vec 1 true (x.Lists.Own.map encSList)]:=by
 have hc1:=c106 x.Heap hz
 have hc2:=c107 x.Lists hx
 simp only [encMem,encHeap,encLists,List.map_cons,List.map_nil] at hc1 hc2 ⊢
 refine Ctr.bd mixed func38 rfl ?_
 refine evl ?_
 refine scs ?_
 refine ck e106 (hc1) rfl ?_
 refine evl ?_
 refine scs ?_
 refine ck e107 (hc2) rfl ?_
 refine evl ?_
 repeat ((with_reducible show _=true /\ _);refine ⟨by kernel_rfl,?_⟩)
 refine scs ?_
 refine Fin.nt results38 [2,3,4,5] ?_ ?_ ?_ <;> try trivial
 all_goals exact entd
theorem c116 (h:Heap) (hz:sizHeap h <= 1048576):Ctr prog 116 [.agg ((encHeap h).map .dat)] [] (.agg [.own 0,.own 1]) [.vec 1 true (h.Bytes.map encI),.vec 1 true (h.Class.map encI)]:=by
 unfold sizHeap at hz
 simp only [encHeap,List.map_cons,List.map_nil]
 refine Ctr.bd mixed func116 rfl ?_
 refine evl ?_
 refine scs ?_
 refine ck e145 (c145 h.Bytes (by omega)) rfl ?_
 refine evl ?_
 refine scs ?_
 refine ck e145 (c145 h.Class (by omega)) rfl ?_
 refine evl ?_
 repeat ((with_reducible show _=true /\ _);refine ⟨by kernel_rfl,?_⟩)
 refine scs ?_
 refine Fin.nt results116 [2,3] ?_ ?_ ?_ <;> try trivial
 all_goals exact entd
theorem c117 (x:Lists) (hx:x.sok):Ctr prog 117 [.agg ((encLists x).map .dat)] [] (.agg [.own 0,.own 1]) [.vec 1 true (x.Global.map encSList),.vec 1 true (x.Own.map encSList)]:=by
 obtain ⟨hl1,hq1,hl2,hq2,_⟩:=hx
 simp only [encLists,List.map_cons,List.map_nil]
 refine Ctr.bd mixed func117 rfl ?_
 refine evl ?_
 refine scs ?_
 refine ck e203 (c203 x.Global hl1 hq1) rfl ?_
 refine evl ?_
 refine scs ?_
 refine ck e203 (c203 x.Own hl2 hq2) rfl ?_
 refine evl ?_
 repeat ((with_reducible show _=true /\ _);refine ⟨by kernel_rfl,?_⟩)
 refine scs ?_
 refine Fin.nt results117 [2,3] ?_ ?_ ?_ <;> try trivial
 all_goals exact entd
theorem c44 (x:Mem) (hz:sizHeap x.Heap <= 1048576) (hx:x.Lists.sok):Ctr prog 44 [.agg ((encMem x).map .dat)] [] (.agg [.own 0,.own 1,.own 2,.own 3]) [.vec 1 true (x.Heap.Bytes.map encI),.vec 1 true (x.Heap.Class.map encI),.vec 1 true (x.Lists.Global.map encSList),.vec 1 true (x.Lists.Own.map encSList)]:=by
 have hc1:=c116 x.Heap hz
 have hc2:=c117 x.Lists hx
 simp only [encMem,encHeap,encLists,List.map_cons,List.map_nil] at hc1 hc2 ⊢
 refine Ctr.bd mixed func44 rfl ?_
 refine evl ?_
 refine scs ?_
 refine ck e116 (hc1) rfl ?_
 refine evl ?_
 refine scs ?_
 refine ck e117 (hc2) rfl ?_
 refine evl ?_
 repeat ((with_reducible show _=true /\ _);refine ⟨by kernel_rfl,?_⟩)
 refine scs ?_
 refine Fin.nt results44 [2,3,4,5] ?_ ?_ ?_ <;> try trivial
 all_goals exact entd
theorem c283:Ctr prog 283 [] [] (.agg [.own 0,.own 1]) [.vec 1 true (List.replicate 3 [.sl 1 []]),.vec 1 true (List.replicate 9 [.sl 1 []])]:=by
 refine Ctr.bd mixed func283 rfl ?_
 refine evl ?_
 repeat ((with_reducible show _=true /\ _);refine ⟨by kernel_rfl,?_⟩)
 refine scs ?_
 repeat ((with_reducible show _=true /\ _);refine ⟨by kernel_rfl,?_⟩)
 refine Fin.nt results283 [1,2] ?_ ?_ ?_ <;> try trivial
 all_goals exact entd
theorem c282:Ctr prog 282 [] [] (.agg [.own 0,.own 1]) [.vec 1 true (List.replicate 384 [.int .i64 0]),.vec 1 true (List.replicate 6 [.int .i64 (-1)])]:=by
 have hmx:maxLen=9223372036854775807:=rfl
 refine Ctr.bd mixed func282 rfl ?_
 refine evl ?_
 refine scs ?_
 refine LoopK_ent (Ent_empBox (o:=2) (j:=1) (sz:=1) rfl rfl) ?_
 refine evl ?_
 refine LoopK_intro (fun zn zs=>∃ i:Nat,i <= 6 /\ zn=6 - i /\ zs=mkSt [(2,.one (.dat (.int .i64 i))),(0,.one (.ptr (.own 0 0 0))),(1,.one (.ptr (.own 2 0 0)))] [.box [.emp,.emp],.vec 1 true (List.replicate 384 [.int .i64 0]),.box [.own 1,.own 3],.vec 1 true (List.replicate i [.int .i64 (-1)])]) (6) _
  (Ent.wk [0,1,2,3]) ⟨0,by omega,by omega,rfl⟩ ?_
 rintro zn zs ⟨i,hi,rfl,rfl⟩ K hK
 rcases Nat.lt_or_ge i (6) with hlt | hge
 ·have hdi:decide ((i:Int) < ((6:Nat):Int))=true:=decide_eq_true (by omega)
  have hw:=wrap_succ hlt (show 6 <= maxLen by decide)
  have hd3:decide ((i:Int) < 6)=true:=decide_eq_true (by omega)
  have hrs:List.replicate i [D.int .i64 (-1)] ++ [[D.int .i64 (-1)]]=List.replicate (i + 1) [D.int .i64 (-1)]:=by rw [List.replicate_succ']
  simp (maxSteps:=2000000) only [go_sem,seval,hd3,hw,List.length_replicate,hrs]
  repeat ((with_reducible show _=true /\ _);refine ⟨by kernel_rfl,?_⟩)
  refine scs ?_
  (apply hK
   exact ⟨6 - (i + 1),_,by omega,Ent.wk [0,1,2,5],i + 1,by omega,rfl,rfl⟩)
 ·have hge':6=i:=by omega
  subst hge'
  have hdi:decide (((6:Nat):Int) < ((6:Nat):Int))=false:=by simp
  have hd3:decide (((6:Nat):Int) < 6)=false:=rfl
  refine sv16 ?_
  apply hK
  refine evl ?_
  refine scs ?_
  refine Fin.nt results282 [1,3] ?_ ?_ ?_ <;> try trivial
  all_goals exact entd
theorem c212:Ctr prog 212 [] [] (.agg [.own 0,.own 1,.own 2,.own 3]) [.vec 1 true (List.replicate 384 [.int .i64 0]),.vec 1 true (List.replicate 6 [.int .i64 (-1)]),.vec 1 true (List.replicate 3 [.sl 1 []]),.vec 1 true (List.replicate 9 [.sl 1 []])]:=by
 refine Ctr.bd mixed func212 rfl ?_
 refine evl ?_
 refine scs ?_
 refine ck e282 (c282) rfl ?_
 refine evl ?_
 refine scs ?_
 refine ck e283 (c283) rfl ?_
 refine evl ?_
 refine scs ?_
 refine Fin.nt results212 [1,2,3,4] ?_ ?_ ?_ <;> try trivial
 all_goals exact entd
def encB (x:Int):List D:=[.int .u8 x]
def curO (b:List Int) (i:Nat) (h:Int):AObj:=.box [.dat (.sl 1 (b.map encB)),.dat (.int .i64 (i:Int)),.dat (.int .i64 h)]
def IsCur (b:List Int) (x:AObj):Prop:=∃ (i:Nat) (h:Int),i <= b.length /\ x=curO b i h
def BytesL (b:List Int):Prop:=b.length <= 1048576 /\ ∀ x ∈ b,0 <= x /\ x <= 255
theorem decBytes {P:Program} {t e:TypeId} (ht:P.underlying t=some (.slice e)) (he:P.underlying e=some (.int .u8)) (hsz:P.cellsOf e=1) {n:Nat} {ds:List D} (h:WT P n t ds):∃ b:List Int,ds=[.sl 1 (b.map encB)] /\ b.length <= maxLen /\ ∀ x ∈ b,0 <= x /\ x <= 255:=by
 obtain ⟨l,h1,h2,h3⟩:=decSl (enc:=encB) (q:=fun x=>(Lit.int .u8 x).wf=true) ht hsz (fun m ds h=>by
  cases m with
  | zero=>exact h.elim
  | succ m =>
   unfold WT at h
   rw [he] at h
   exact h) h
 refine ⟨l,h1,h2,fun x hx=>?_⟩
 have:=h3 x hx
 simpa [Lit.wf,IntKind.min,IntKind.max,IntKind.signed,IntKind.bits] using this
def Rnew (b:List Int) (r:AV) (xs:List AObj):Prop:=∃ h,r=.one (.ptr (.own 1 0 0)) /\ xs=[.box [.dat (.sl 1 (b.map encB)),.dat (.int .i64 (0:Int)),.dat (.int .i64 h)]]
def Rint (b:List Int) (p:Int -> Prop) (r:AV) (xs:List AObj):Prop:=∃ x,p x /\ r=.one (.dat (.int .i64 x)) /\ ∃ (i':Nat) (h':Int),i' <= b.length /\ xs=[.box [.dat (.sl 1 (b.map encB)),.dat (.int .i64 (i':Int)),.dat (.int .i64 h')]]
def Rbool (b:List Int) (r:AV) (xs:List AObj):Prop:=∃ x,r=.one (.dat (.bool x)) /\ ∃ (i':Nat) (h':Int),i' <= b.length /\ xs=[.box [.dat (.sl 1 (b.map encB)),.dat (.int .i64 (i':Int)),.dat (.int .i64 h')]]
def Rpick (b:List Int) (l:List Int) (r:AV) (xs:List AObj):Prop:=∃ x ∈ l,r=.one (.dat (.int .i64 x)) /\ ∃ (i':Nat) (h':Int),i' <= b.length /\ xs=[.box [.dat (.sl 1 (b.map encB)),.dat (.int .i64 (i':Int)),.dat (.int .i64 h')],.vec 1 true (l.map encI)]
theorem and255 (a:Int):0 <= bitsD .and .i64 a 255 /\ bitsD .and .i64 a 255 <= 255:=by
 have h:(BitVec.ofInt 64 a &&& BitVec.ofInt 64 255).toNat <= 255:=by
  rw [BitVec.toNat_and]
  exact Nat.le_trans Nat.and_le_right (by decide)
 have e:bitsD .and .i64 a 255=IntKind.i64.wrap ((BitVec.ofInt 64 a &&& BitVec.ofInt 64 255).toNat:Int):=rfl
 rw [e,wrap_id (by omega) (by omega)]
 omega
theorem c35 (b:List Int) (hb:BytesL b):CtrC prog 35 [.one (.dat (.sl 1 (b.map encB)))] [] (Rnew b):=by
 have hmx:maxLen=9223372036854775807:=rfl
 obtain ⟨hl,hbv⟩:=hb
 refine CtrC.body mixed func35 rfl (fun bl=>?_) ?_
 ·refine sv3 ?_
  refine scs ?_
  refine LoopK_intro (fun zn zs=>∃ (i:Nat) (h:Int),i <= min b.length 4000 /\ zn=min b.length 4000 - i /\ zs=mkSt [(4,.one (.dat (.int .i64 i))),(3,.one (.dat (.int .i64 h))),(0,.one (.dat (.sl 1 (b.map encB))))] [.ballast bl]) (min b.length 4000) _
   (Ent.wk [0]) ⟨0,_,by omega,by omega,rfl⟩ ?_
  rintro zn zs ⟨i,h,hi,rfl,rfl⟩ K hK
  rcases Nat.lt_or_ge i (min b.length 4000) with hlt | hge
  ·have hdi:decide ((i:Int) < ((min b.length 4000:Nat):Int))=true:=decide_eq_true (by omega)
   have hw:=wrap_succ hlt (show min b.length 4000 <= maxLen by omega)
   have h1:decide ((i:Int) < (b.length:Int))=true:=decide_eq_true (by omega)
   have h2:decide ((i:Int) < 4000)=true:=decide_eq_true (by omega)
   have hgi:i < b.length:=by omega
   simp (maxSteps:=2000000) only [go_sem,seval,h1,h2,hw,getD_map hgi,encB]
   refine scs ?_
   (apply hK
    exact ⟨min b.length 4000 - (i + 1),_,by omega,Ent.wk [0],i + 1,_,by omega,rfl,rfl⟩)
  ·have h3:(decide ((i:Int) < (b.length:Int)) && decide ((i:Int) < 4000))=false:=by
    simp only [Bool.and_eq_false_iff,decide_eq_false_iff_not];omega
   cases h1:decide ((i:Int) < (b.length:Int)) with
   | false =>
    refine sv29 ?_
    apply hK
    refine sv3 ?_
    refine FinCN.nt results35 [1] (.one (.ptr (.own 1 0 0))) [.box [.dat (.sl 1 (b.map encB)),.dat (.int .i64 (0:Int)),.dat (.int .i64 h)]] (⟨h,rfl,rfl⟩) ?_ ?_ ?_ <;> try trivial
    all_goals exact entd
   | true =>
    rw [h1,Bool.true_and] at h3
    simp (maxSteps:=2000000) only [go_sem,seval,h1,h3]
    apply hK
    refine sv3 ?_
    refine FinCN.nt results35 [1] (.one (.ptr (.own 1 0 0))) [.box [.dat (.sl 1 (b.map encB)),.dat (.int .i64 (0:Int)),.dat (.int .i64 h)]] (⟨h,rfl,rfl⟩) ?_ ?_ ?_ <;> try trivial
    all_goals exact entd
 ·exact ⟨_,_,⟨0,rfl,rfl⟩,by simp⟩
theorem c137 (b:List Int) (hb:BytesL b) (i:Nat) (h:Int) (hi:i <= b.length):CtrC prog 137 [.one (.ptr (.own 1 0 0))] [.box [.dat (.sl 1 (b.map encB)),.dat (.int .i64 (i:Int)),.dat (.int .i64 h)]] (Rint b fun x=>0 <= x /\ x <= 255):=by
 have hmx:maxLen=9223372036854775807:=rfl
 obtain ⟨hl,hbv⟩:=hb
 refine CtrC.body mixed func137 rfl (fun bl=>?_) ?_
 ·rcases Nat.lt_or_ge i b.length with hgi | hge
  ·have hdi:decide ((i:Int) < (b.length:Int))=true:=decide_eq_true (by omega)
   have hw:=wrap_succ hgi (show b.length <= maxLen by omega)
   simp (maxSteps:=2000000) only [go_sem,seval,hdi,hw,getD_map hgi,encB]
   refine scs ?_
   (refine FinCN.nd results137 [1] ?_ ?_ <;> try trivial);(refine sv30 ?_);exact ⟨_,and255 _,rfl,i + 1,_,by omega,rfl⟩
  ·have hdi:decide ((i:Int) < (b.length:Int))=false:=decide_eq_false (by omega)
   refine sv1 ?_
   refine scs ?_
   (refine FinCN.nd results137 [1] ?_ ?_ <;> try trivial);(refine sv30 ?_);exact ⟨_,and255 _,rfl,i,_,hi,rfl⟩
 ·exact ⟨_,_,⟨0,by omega,rfl,0,0,Nat.zero_le _,rfl⟩,by simp⟩
theorem c59 (b:List Int) (hb:BytesL b) (i:Nat) (h:Int) (hi:i <= b.length) (n:Int) (hn:n <= 1099511627776):CtrC prog 59 [.one (.ptr (.own 1 0 0)),.one (.dat (.int .i64 n))] [.box [.dat (.sl 1 (b.map encB)),.dat (.int .i64 (i:Int)),.dat (.int .i64 h)]] (Rint b fun x=>0 <= x /\ (0 < n -> x < n) /\ (n <= 0 -> x=0)):=by
 refine CtrC.body mixed func59 rfl (fun bl=>?_) ?_
 ·refine evl ?_
  refine scs ?_
  constructor <;> intro hq
  ·have h0:n <= 0:=of_decide_eq_true hq
   (refine FinCN.nd results59 [1] ?_ ?_ <;> try trivial);(refine sv30 ?_);exact ⟨0,⟨by omega,by omega,fun _=>rfl⟩,rfl,i,h,hi,rfl⟩
  have h0:¬ n <= 0:=of_decide_eq_false hq
  constructor <;> intro hq
  ·refine CallK_cell [1] e137 (c137 b hb i h hi) rfl rfl ?_
   rintro r0 xs' ⟨x,hx,rfl,i',h',hi',rfl⟩ -
   refine evl ?_
   refine scs ?_
   (refine FinCN.nd results59 [1] ?_ ?_ <;> try trivial);(refine sv30 ?_);exact ⟨_,⟨Int.tmod_nonneg _ hx.1,fun _=>Int.tmod_lt_of_pos _ (by omega),fun h'=>absurd h' h0⟩,rfl,i',h',hi',rfl⟩
  refine CallK_cell [1] e137 (c137 b hb i h hi) rfl rfl ?_
  rintro r0 xs' ⟨x,hx,rfl,i1,h1,hi1,rfl⟩ -
  refine evl ?_
  refine scs ?_
  refine CallK_cell [1] e137 (c137 b hb i1 h1 hi1) rfl rfl ?_
  rintro r0 xs' ⟨y,hy,rfl,i2,h2,hi2,rfl⟩ -
  refine evl ?_
  refine scs ?_
  refine CallK_cell [1] e137 (c137 b hb i2 h2 hi2) rfl rfl ?_
  rintro r0 xs' ⟨z,hz,rfl,i3,h3,hi3,rfl⟩ -
  refine evl ?_
  refine scs ?_
  refine CallK_cell [1] e137 (c137 b hb i3 h3 hi3) rfl rfl ?_
  rintro r0 xs' ⟨w,hw,rfl,i4,h4,hi4,rfl⟩ -
  refine evw ?_
  refine scs ?_
  (refine FinCN.nd results59 [1] ?_ ?_ <;> try trivial);(refine sv30 ?_);exact ⟨_,⟨Int.emod_nonneg _ (by omega),fun _=>Int.emod_lt_of_pos _ (by omega),fun h'=>absurd h' h0⟩,rfl,i4,h4,hi4,rfl⟩
 ·refine ⟨_,_,⟨0,⟨by omega,by omega,fun _=>rfl⟩,rfl,0,0,Nat.zero_le _,rfl⟩,by simp⟩
theorem c101 (b:List Int) (hb:BytesL b) (i:Nat) (h:Int) (hi:i <= b.length) (n:Int) (hn:n <= 1099511627776):CtrC prog 101 [.one (.ptr (.own 1 0 0)),.one (.dat (.int .i64 n))] [.box [.dat (.sl 1 (b.map encB)),.dat (.int .i64 (i:Int)),.dat (.int .i64 h)]] (Rbool b):=by
 refine CtrC.body mixed func101 rfl (fun bl=>?_) ?_
 ·refine evl ?_
  refine scs ?_
  refine CallK_cell [1] e59 (c59 b hb i h hi n hn) rfl rfl ?_
  rintro r0 xs' ⟨x,_,rfl,i',h',hi',rfl⟩ -
  refine evl ?_
  (refine FinCN.nd results101 [1] ?_ ?_ <;> try trivial);(refine sv30 ?_);exact ⟨_,rfl,i',h',hi',rfl⟩
 ·exact ⟨_,_,⟨false,rfl,0,0,Nat.zero_le _,rfl⟩,by simp⟩
theorem c105 (b:List Int) (hb:BytesL b) (i:Nat) (h:Int) (hi:i <= b.length) (l:List Int) (h0:l ≠ []) (hl:l.length <= 1000):CtrC prog 105 [.one (.ptr (.own 1 0 0)),.one (.own 2)] [.box [.dat (.sl 1 (b.map encB)),.dat (.int .i64 (i:Int)),.dat (.int .i64 h)],.vec 1 true (l.map encI)] (Rpick b l):=by
 have hp:0 < l.length:=List.length_pos_iff.2 h0
 refine CtrC.body mixed func105 rfl (fun bl=>?_) ?_
 ·refine sv3 ?_
  refine scs ?_
  refine CallK_cell [1] e59 (c59 b hb i h hi (l.length:Int) (by omega)) rfl rfl ?_
  rintro r0 xs' ⟨x,⟨hx0,hx1,_⟩,rfl,i',h',hi',rfl⟩ -
  obtain ⟨k,rfl⟩:∃ k:Nat,x=(k:Int):=⟨x.toNat,by omega⟩
  have hk:k < l.length:=by have:=hx1 (by omega);omega
  simp (maxSteps:=2000000) only [go_sem,seval,getD_map hk,encI]
  refine scs ?_
  (refine FinCN.nd results105 [1,2] ?_ ?_ <;> try trivial);(refine sv30 ?_);exact ⟨_,List.getElem_mem hk,rfl,i',h',hi',rfl⟩
 ·obtain ⟨x,l',rfl⟩:=List.exists_cons_of_ne_nil h0
  exact ⟨_,_,⟨x,by simp,rfl,0,0,Nat.zero_le _,rfl⟩,by simp⟩
theorem c7 (b:List Int) (hl:b.length <= maxLen):Ctr prog 7 [.one (.dat (.sl 1 (b.map encB)))] [] (.one (.dat (.bool (decide ((1048576:Int) < (b.length:Int)))))) []:=by
 refine Ctr.bd mixed func7 rfl ?_
 refine sv3 ?_
 refine scs ?_
 refine Fin.nt results7 [] ?_ ?_ ?_ <;> try trivial
theorem c26 (l:List Int) (hl:l.length <= maxLen) (k:Int):Ctr prog 26 [.one (.dat (.sl 1 (l.map encI))),.one (.dat (.int .i64 k))] [] (.one (.dat (.bool (decide (k ∈ l))))) []:=by
 refine Ctr.bd mixed func26 rfl ?_
 refine evl ?_
 refine LoopK_intro (fun zn zs=>∃ i:Nat,i <= l.length /\ zn=l.length - i /\ (∀ x ∈ l.take i,x ≠ k) /\ zs=mkSt [(5,.one (.dat (.int .i64 i))),(0,.one (.dat (.sl 1 (l.map encI)))),(1,.one (.dat (.int .i64 k)))] []) (l.length) _
  (Ent.wk []) ⟨0,by omega,by omega,by simp,rfl⟩ ?_
 rintro zn zs ⟨i,hi,rfl,hinv,rfl⟩ K hK
 rcases Nat.lt_or_ge i (l.length) with hlt | hge
 ·have hdi:decide ((i:Int) < ((l.length:Nat):Int))=true:=decide_eq_true (by omega)
  have hw:=wrap_succ hlt hl
  simp (maxSteps:=2000000) only [go_sem,seval,hdi,getD_map hlt,encI,hw]
  refine ⟨⟨by omega,by omega⟩,hlt,fun hq=>?_,fun hq=>?_⟩
  ·apply hK
   refine evl ?_
   refine Fin.nt results26 [] ?_ ?_ ?_ <;> try trivial
   (refine rsl ?_;try exact .intro)
   have:=List.getElem_mem hlt
   have hq:l[i]=k:=by simpa using hq
   rw [hq] at this
   exact (decide_eq_true this).symm
  ·have hq:l[i] ≠ k:=by simpa using hq
   have hn:∀ x ∈ l.take (i + 1),x ≠ k:=fun x hx=>by
    rw [List.take_succ_eq_append_getElem hlt] at hx
    rcases List.mem_append.1 hx with hx | hx
    ·exact hinv x hx
    ·rw [List.mem_singleton.1 hx];exact hq
   (apply hK
    exact ⟨l.length - (i + 1),_,by omega,Ent.wk [],i + 1,by omega,rfl,hn,rfl⟩)
 ·have hge':l.length=i:=by omega
  subst hge'
  have hdi:decide (((l.length:Nat):Int) < ((l.length:Nat):Int))=false:=by simp
  refine sv1 ?_
  apply hK
  refine evl ?_
  refine Fin.nt results26 [] ?_ ?_ ?_ <;> try trivial
  (refine rsl ?_;try exact .intro)
  rw [List.take_length] at hinv
  exact (decide_eq_false fun h=>hinv k h rfl).symm
def setBytes (m:Mem) (b:List Int):Mem:=⟨⟨b,m.Heap.Class⟩,m.Lists⟩
def nextToM (m:Mem) (h x:Int):Mem × Int :=
 if (memOk m && isLink x)=true then
  if isLiveM m h=true then
   if hasNodeM m.Heap (h % 32)=true then (setBytes m (putL m.Heap.Bytes ((startM m.Heap (h % 32)).toNat + 6) (fixNs 4 x)),0) else (m,2)
  else (m,4)
 else (m,1)
def nodeNs (n:Node):List Int:=fixNs 2 n.Key ++ (fixNs 4 n.Val ++ fixNs 4 n.Next)
theorem nodeNs_len (n:Node):(nodeNs n).length=10:=by simp [nodeNs,fixNs_len]
def nodePutM (m:Mem) (h:Int) (n:Node):Mem × Int :=
 if (memOk m && nodeOkM n)=true then
  if isLiveM m h=true then
   if hasNodeM m.Heap (h % 32)=true then (setBytes m (putL m.Heap.Bytes (startM m.Heap (h % 32)).toNat (nodeNs n)),0) else (m,2)
  else (m,4)
 else (m,1)
theorem setBytes_self (m:Mem):setBytes m m.Heap.Bytes=m:=rfl
theorem setBytes_siz {m:Mem} {b:List Int} (h:b.length=m.Heap.Bytes.length):sizMem (setBytes m b)=sizMem m:=by
 unfold sizMem sizHeap
 show b.length + m.Heap.Class.length + sizLists m.Lists=_
 rw [h]
theorem nextTo_bnd {m:Mem} {h x:Int} (hz:sizMem m <= 1048576):sizMem (nextToM m h x).1 <= 1048576 /\ (nextToM m h x).1.sok:=by
 have key:sizMem (nextToM m h x).1=sizMem m:=by
  unfold nextToM
  split
  ·split
   ·split
    ·exact setBytes_siz (putL_len ..)
    ·rfl
   ·rfl
  ·rfl
 exact ⟨by omega,Mem.sok_of (by omega)⟩
theorem nodePut_bnd {m:Mem} {h:Int} {x:Node} (hz:sizMem m <= 1048576):sizMem (nodePutM m h x).1 <= 1048576 /\ (nodePutM m h x).1.sok:=by
 have key:sizMem (nodePutM m h x).1=sizMem m:=by
  unfold nodePutM
  split
  ·split
   ·split
    ·exact setBytes_siz (putL_len ..)
    ·rfl
   ·rfl
  ·rfl
 exact ⟨by omega,Mem.sok_of (by omega)⟩
theorem mem_sok {m:Mem} (hz:sizMem m <= 1048576):sizHeap m.Heap <= 1048576 /\ m.Lists.sok:=by
 have:=Mem.sok_of hz
 refine ⟨by unfold sizMem at hz;omega,this.2.1⟩
theorem link_num {x:Int} (h:isLink x=true):0 <= x /\ x <= 223:=by
 unfold isLink at h
 rcases Bool.or_eq_true _ _ ▸ h with h | h
 ·have:x=0:=by simpa using h
  omega
 ·have:=(handleOk_iff x).1 h
  omega
theorem node_num {x:Node} (h:nodeOkM x=true):(0 <= x.Key /\ x.Key <= 99) /\ (0 <= x.Val /\ x.Val <= 65535) /\ (0 <= x.Next /\ x.Next <= 223):=by
 simp only [nodeOkM,nodeOk,Bool.and_eq_true,within,decide_eq_true_eq] at h
 exact ⟨h.1.1,h.1.2,link_num h.2⟩
def bktB (b:Bkt):Bool:=bktOk b.Head b.Ver b.Lock
def linkInM (m:Mem) (b:Bkt) (h:Int):Mem × Bkt × Bool :=
 if ((chainR m b.Head).2 && (bktB b && !((chainR m b.Head).1.any fun y=>y == h)))=true then
  if ((nextToM m h b.Head).2 == 0 && nodeOkM (nodeOf (nextToM m h b.Head).1 h))=true then ((nextToM m h b.Head).1,⟨h,b.Ver,b.Lock⟩,true) else (m,b,false)
 else (m,b,false)
def unlinkM (m:Mem) (b:Bkt) (h:Int):Mem × Bkt × Bool :=
 if ((chainR m b.Head).2 && (bktB b && ((chainR m b.Head).1.any fun y=>y == h)))=true then
  if b.Head=h then (m,⟨(nodeOf m h).Next,b.Ver,b.Lock⟩,true)
  else ((nextToM m ((chainR m b.Head).1.getD ((chainR m b.Head).1.findIdx (fun y=>y == h) - 1) 0) (nodeOf m h).Next).1,b,true)
 else (m,b,false)
theorem linkIn_bnd {m:Mem} {b:Bkt} {h:Int} (hz:sizMem m <= 1048576):sizMem (linkInM m b h).1 <= 1048576 /\ (linkInM m b h).1.sok:=by
 unfold linkInM
 split
 ·split
  ·exact nextTo_bnd hz
  ·exact ⟨hz,Mem.sok_of hz⟩
 ·exact ⟨hz,Mem.sok_of hz⟩
theorem unlink_bnd {m:Mem} {b:Bkt} {h:Int} (hz:sizMem m <= 1048576):sizMem (unlinkM m b h).1 <= 1048576 /\ (unlinkM m b h).1.sok:=by
 unfold unlinkM
 split
 ·split
  ·exact ⟨hz,Mem.sok_of hz⟩
  ·exact nextTo_bnd hz
 ·exact ⟨hz,Mem.sok_of hz⟩
theorem putL_byte:∀ (l b:List Int) (k:Nat),isByteL b -> (∀ x ∈ l,0 <= x /\ x < 256) -> isByteL (putL b k l)
 | [],b,k,hb,_=>hb
 | x :: l,b,k,hb,hl=>by
  rw [putL]
  refine putL_byte l _ _ (fun y hy=>?_) fun y hy=>hl y (List.mem_cons_of_mem _ hy)
  rcases List.mem_or_eq_of_mem_set hy with h | h
  ·exact hb y h
  ·have:=hl x (List.mem_cons_self ..)
   omega
theorem setBytes_shaped {m:Mem} {b:List Int} (hs:shapedM m.Heap=true) (hl:b.length=m.Heap.Bytes.length) (hb:isByteL b):shapedM (setBytes m b).Heap=true:=by
 obtain ⟨h1,_⟩:=shaped_iff hs
 have hby:bytesOk b=true:=by
  rw [bytesOk,Bool.and_eq_true,List.all_eq_true]
  exact ⟨decide_eq_true (by omega),fun x hx=>by have:=hb x hx;rw [within,decide_eq_true_eq];omega⟩
 unfold shapedM at hs ⊢
 simp only [Bool.and_eq_true] at hs ⊢
 refine ⟨⟨⟨?_,hby⟩,hs.1.2⟩,hs.2⟩
 show ((b.length:Int) == 384)=true
 rw [hl];exact hs.1.1.1
theorem nextTo_zero {m:Mem} {h x:Int} (h0:(nextToM m h x).2=0):memOk m=true /\ isLiveM m h=true /\ hasNodeM m.Heap (h % 32)=true /\ shapedM (nextToM m h x).1.Heap=true /\ hasNodeM (nextToM m h x).1.Heap (h % 32)=true:=by
 unfold nextToM at h0 ⊢
 split at h0
 ·rename_i hok
  rw [if_pos hok]
  simp only [Bool.and_eq_true] at hok
  split at h0
  ·rename_i hl
   rw [if_pos hl]
   split at h0
   ·rename_i hn
    rw [if_pos hn]
    obtain ⟨_,_,hsh⟩:=memOk_heap hok.1
    exact ⟨hok.1,hl,hn,setBytes_shaped hsh (putL_len ..) (putL_byte _ _ _ (shaped_iff hsh).2.1 (fixNs_in 4 x)),hn⟩
   ·cases h0
  ·cases h0
 ·cases h0
theorem any_has {l:List Int} {h:Int}:decide (h ∈ l)=l.any fun y=>y == h:=by
 rw [Bool.eq_iff_iff,decide_eq_true_eq,List.any_eq_true]
 exact ⟨fun hm=>⟨h,hm,by simp⟩,fun ⟨y,hy,he⟩=>by rw [<- eq_of_beq he];exact hy⟩
theorem c61_e (m:Mem) (hs:shapedM m.Heap=true) (h:Int) (hh:handleOk h=true) (hn:hasNodeM m.Heap (h % 32)=true):Ctr prog 61 [.agg ((encMem m).map .dat),.one (.dat (.int .i64 h))] [] (.agg ((encNode (nodeOf m h)).map .dat)) []:=by
 have hcp:=c47 m hs h
 have hcl:=fun A h0 h1=>c139 m hs A h0 h1
 obtain ⟨hc0,hA0,hA1,_⟩:=start_bound hs hn
 have hsp2:spotM m h=(startM m.Heap (h % 32),0):=by rw [spotM,if_pos ⟨hh,hc0⟩,if_pos hn]
 have hb0:((0:Int) != 0)=false:=rfl
 rw [hsp2] at hcp
 have hcl':=hcl (startM m.Heap (h % 32)) hA0 hA1
 rw [show loadNode m.Heap.Bytes (startM m.Heap (h % 32)).toNat=nodeOf m h from rfl] at hcl'
 simp only [encMem,encNode,List.map_cons,List.map_nil] at hcp hcl' ⊢
 refine Ctr.bd mixed func61 rfl ?_
 refine evl ?_
 refine scs ?_
 refine ck e47 (hcp) rfl ?_
 refine sv27 ?_
 refine scs ?_
 refine ck e139 (hcl') rfl ?_
 refine evl ?_
 refine scs ?_
 refine Fin.nt results61 [] ?_ ?_ ?_ <;> try trivial
theorem c115 (x:Int):Ctr prog 115 [.one (.dat (.int .i64 x))] [] (.one (.dat (.bool (within x 1 7)))) []:=by
 refine Ctr.bd mixed func115 rfl ?_
 refine evl ?_
 refine scs ?_
 refine ck e57 (c57 ..) rfl ?_
 refine evl ?_
 refine scs ?_
 refine Fin.nt results115 [] ?_ ?_ ?_ <;> try trivial
theorem c43 (w:Nat) (hw:w=2 \/ w=4) (n:Int) (h0:0 <= n) (h1:n < 256 ^ w):Ctr prog 43 [.one (.dat (.int .i64 n)),.one (.dat (.int .i64 w))] [] (.one (.dat (.str (bytesOf (fixNs w n))))) []:=by
 have hmx:maxLen=9223372036854775807:=rfl
 have hn0:decide (n < 0)=false:=decide_eq_false (by omega)
 have hlt:n < 4294967296:=by rcases hw with rfl | rfl <;> omega
 have hge:decide (((256:Int) ^ w) <= n)=false:=decide_eq_false (by omega)
 have hwd:within (w:Int) 1 7=true:=by rcases hw with rfl | rfl <;> rfl
 have hcw:=c115 (w:Int)
 have hsh:shlD IntKind.i64 1 (IntKind.u64.wrap (IntKind.i64.wrap (8 * (w:Int))))=256 ^ w:=by rcases hw with rfl | rfl <;> rfl
 have hwi:IntKind.i64.wrap ((w:Int) - 1)=(w:Int) - 1:=wrap_id (by omega) (by omega)
 refine Ctr.bd mixed func43 rfl ?_
 refine evl ?_
 refine scs ?_
 refine ck e115 (hcw) rfl ?_
 simp (maxSteps:=2000000) only [go_sem,seval,hwd,hn0,hsh,hge,hwi]
 refine scs ?_
 rw [byteRows_rep]
 refine LoopK_intro (fun zn zs=>∃ (j:Nat) (x:Int) (B:List Int),zn=0 + j /\ (B.length=w /\ 0 <= x /\ x < 9223372036854775808 /\ j <= w /\ putL B 0 (fixNs j x)=fixNs w n) /\ zs=mkSt [(0,.one (.dat (.int .i64 x))),(1,.one (.dat (.int .i64 w))),(5,.one (.own 0)),(6,.one (.dat (.int .i64 ((j:Int) - 1))))] [.vec 1 true (byteRows B)]) _ _
  (Ent.wk [0]) ⟨w,n,List.replicate w 0,rfl,⟨List.length_replicate ..,h0,by omega,Nat.le_refl _,putL_all0 (by rw [fixNs_len,List.length_replicate])⟩,rfl⟩ ?_
 rintro zn zs ⟨j,x,B,rfl,hinv,rfl⟩ K hK
 obtain ⟨i1,i2,i3,i4,i5⟩:=hinv
 have hbl:=byteRows_len B
 cases j with
 | zero =>
  have hd:decide ((0:Int) <= ((0:Nat):Int) - 1)=false:=rfl
  have hbn:=byteNs_rows B
  refine sv31 ?_
  apply hK
  simp (maxSteps:=2000000) only [go_sem,seval,hbn]
  rw [<- i5,fixNs,putL]
  refine Fin.nt results43 [] ?_ ?_ ?_ <;> try trivial
 | succ j =>
  have hd:decide ((0:Int) <= ((j + 1:Nat):Int) - 1)=true:=decide_eq_true (by omega)
  have hj0:(((j + 1:Nat):Int) - 1).toNat=j:=by omega
  have hj1:IntKind.i64.wrap (((j + 1:Nat):Int) - 1 - 1)=(j:Int) - 1:=by rw [wrap_id (by omega) (by omega)];omega
  have hu:IntKind.u8.wrap x=x % 256:=rfl
  have hs:shrD IntKind.i64 x 8=x / 256:=by
   show x.fdiv 256=x / 256
   rw [Int.fdiv_eq_ediv_of_nonneg _ (by decide)]
  have hst:=byteRows_set B j (x % 256)
  simp (maxSteps:=2000000) only [go_sem,seval,hd,hj0,hj1,hu,hs,hbl,hst]
  refine scs ?_
  have hput:putL (B.set j (x % 256)) 0 (fixNs j (x / 256))=fixNs w n:=by
   rw [<- i5,fixNs,putL_snoc,fixNs_len,putL_set _ _ _ _ _ (by rw [fixNs_len];omega),Nat.zero_add]
  (apply hK
   exact ⟨_,_,by omega,Ent.wk [0],j,(x / 256),(B.set j (x % 256)),rfl,⟨by rw [List.length_set];exact i1,by omega,by omega,by omega,hput⟩,rfl⟩)
theorem c41 (b:List Int) (hb:b.length <= 1048576) (A:Int) (ns:List Int) (hn:∀ x ∈ ns,0 <= x /\ x < 256) (h0:0 <= A) (h1:A + ns.length <= (b.length:Int)):Ctr prog 41 [.one (.own 0),.one (.dat (.int .i64 A)),.one (.dat (.str (bytesOf ns)))] [.vec 1 true (b.map encI)] (.tup []) [.vec 1 true ((putL b A.toNat ns).map encI)]:=by
 have hmx:maxLen=9223372036854775807:=rfl
 have hsz:=bytesOf_size ns
 refine Ctr.of_body mixed func41 rfl (by kernel_rfl) (Nat.le_of_ble_eq_true rfl) (by simp [AV.Clean,AV.Clean1,Leaf.Clean,D.flat]) (by simp [AObj.Sep]) (by simp) ?_ (by simp [AV.Low,AV.Low1,Leaf.Low]) ?_
 ·intro o ho
  have:o=0:=by have:o < 1:=ho;omega
  subst this
  simp [Objs,Compat,putL_len]
 show wpA _ _ _ (FinQ _ _ _ _ _) _
 simp (maxSteps:=2000000) only [go_sem,seval,hsz]
 refine LoopK_intro (fun zn zs=>∃ (i:Nat) (B:List Int),i <= ns.length /\ zn=ns.length - i /\ (B=putL b A.toNat (ns.take i)) /\ zs=mkSt [(9,.one (.dat (.int .i64 i))),(8,.one (.dat (.int .i64 (ns.length)))),(0,.one (.own 0)),(1,.one (.dat (.int .i64 A))),(2,.one (.dat (.str (bytesOf ns))))] [.vec 1 true (B.map encI)]) (ns.length) _
  (Ent.wk [0]) ⟨0,b,by omega,by omega,by simp [putL],rfl⟩ ?_
 rintro zn zs ⟨i,B,hi,rfl,hinv,rfl⟩ K hK
 rcases Nat.lt_or_ge i (ns.length) with hlt | hge
 ·have hdi:decide ((i:Int) < ((ns.length:Nat):Int))=true:=decide_eq_true (by omega)
  have hw:=wrap_succ hlt (show ns.length <= maxLen by omega)
  have hBl:B.length=b.length:=by rw [hinv,putL_len]
  have hA:IntKind.i64.wrap (A + (i:Int))=((A.toNat + i:Nat):Int):=by rw [wrap_id (by omega) (by omega)];omega
  have hg:=bytesOf_get hlt hn
  have hx:=hn _ (List.getElem_mem hlt)
  have hwx:IntKind.i64.wrap ns[i]=ns[i]:=wrap_id (by omega) (by omega)
  have hms:(B.map encI).set (A.toNat + i) [.int .i64 ns[i]]=(B.set (A.toNat + i) ns[i]).map encI:=by rw [List.map_set];rfl
  simp (maxSteps:=2000000) only [go_sem,seval,hdi,hw,hsz,hA,hg,hwx,hms]
  refine scs ?_
  (apply hK
   exact ⟨ns.length - (i + 1),_,by omega,Ent.wk [0],i + 1,(B.set (A.toNat + i) ns[i]),by omega,rfl,by rw [hinv,List.take_succ_eq_append_getElem hlt,putL_snoc,List.length_take,Nat.min_eq_left (by omega)],rfl⟩)
 ·have hge':ns.length=i:=by omega
  subst hge'
  have hdi:decide (((ns.length:Nat):Int) < ((ns.length:Nat):Int))=false:=by simp
  rw [List.take_length] at hinv
  refine sv1 ?_
  apply hK
  refine evl ?_
  rw [hinv]
  refine Fin.nt results41 [0] ?_ ?_ ?_ <;> try trivial
  all_goals exact entd
theorem c126 (b:List Int) (hb:b.length <= 1048576) (A:Int) (w:Nat) (hw:w <= 7) (n:Int) (hn:0 <= n) (hn2:n < 9223372036854775808) (h0:0 <= A) (h1:A + w <= (b.length:Int)):Ctr prog 126 [.one (.own 0),.one (.dat (.int .i64 A)),.one (.dat (.int .i64 w)),.one (.dat (.int .i64 n))] [.vec 1 true (b.map encI)] (.one (.own 0)) [.vec 1 true ((putL b A.toNat (fixNs w n)).map encI)]:=by
 have hmx:maxLen=9223372036854775807:=rfl
 have hwi:IntKind.i64.wrap ((w:Int) - 1)=(w:Int) - 1:=wrap_id (by omega) (by omega)
 refine Ctr.of_body mixed func126 rfl (by kernel_rfl) (Nat.le_of_ble_eq_true rfl) (by simp [AV.Clean,AV.Clean1,Leaf.Clean,D.flat]) (by simp [AObj.Sep]) (by simp) ?_ (by simp [AV.Low,AV.Low1,Leaf.Low]) ?_
 ·intro o ho
  have:o=0:=by have:o < 1:=ho;omega
  subst this
  simp [Objs,Compat,putL_len]
 show wpA _ _ _ (FinQ _ _ _ _ _) _
 simp (maxSteps:=2000000) only [go_sem,seval,hwi]
 refine scs ?_
 refine LoopK_intro (fun zn zs=>∃ (j:Nat) (x:Int) (B:List Int),zn=0 + j /\ (B.length=b.length /\ 0 <= x /\ x < 9223372036854775808 /\ j <= w /\ putL B A.toNat (fixNs j x)=putL b A.toNat (fixNs w n)) /\ zs=mkSt [(0,.one (.own 0)),(1,.one (.dat (.int .i64 A))),(3,.one (.dat (.int .i64 x))),(9,.one (.dat (.int .i64 ((j:Int) - 1)))),(2,.one (.dat (.int .i64 w)))] [.vec 1 true (B.map encI)]) _ _
  (Ent.wk [0]) ⟨w,n,b,rfl,⟨rfl,hn,hn2,Nat.le_refl _,rfl⟩,rfl⟩ ?_
 rintro zn zs ⟨j,x,B,rfl,hinv,rfl⟩ K hK
 obtain ⟨i1,i2,i3,i4,i5⟩:=hinv
 cases j with
 | zero =>
  have hd:decide ((0:Int) <= ((0:Nat):Int) - 1)=false:=rfl
  refine sv31 ?_
  apply hK
  refine evl ?_
  rw [<- i5,fixNs,putL]
  refine Fin.nt results126 [0] ?_ ?_ ?_ <;> try trivial
  all_goals exact entd
 | succ j =>
  have hd:decide ((0:Int) <= ((j + 1:Nat):Int) - 1)=true:=decide_eq_true (by omega)
  have hj1:IntKind.i64.wrap (((j + 1:Nat):Int) - 1 - 1)=(j:Int) - 1:=by rw [wrap_id (by omega) (by omega)];omega
  have hA:IntKind.i64.wrap (A + (((j + 1:Nat):Int) - 1))=((A.toNat + j:Nat):Int):=by rw [wrap_id (by omega) (by omega)];omega
  have hm:Int.tmod x 256=x % 256:=Int.tmod_eq_emod_of_nonneg i2
  have hq:Int.tdiv x 256=x / 256:=Int.tdiv_eq_ediv_of_nonneg i2
  have hwm:IntKind.i64.wrap (x % 256)=x % 256:=wrap_id (by omega) (by omega)
  have hwq:IntKind.i64.wrap (x / 256)=x / 256:=wrap_id (by omega) (by omega)
  have hms:(B.map encI).set (A.toNat + j) [.int .i64 (x % 256)]=(B.set (A.toNat + j) (x % 256)).map encI:=by rw [List.map_set];rfl
  simp (maxSteps:=2000000) only [go_sem,seval,hd,hj1,hA,hm,hq,hwm,hwq,hms]
  refine scs ?_
  have hput:putL (B.set (A.toNat + j) (x % 256)) A.toNat (fixNs j (x / 256))=putL b A.toNat (fixNs w n):=by
   rw [<- i5,fixNs,putL_snoc,fixNs_len,putL_set _ _ _ _ _ (by rw [fixNs_len];omega)]
  (apply hK
   exact ⟨_,_,by omega,Ent.wk [0],j,(x / 256),(B.set (A.toNat + j) (x % 256)),rfl,⟨by rw [List.length_set];exact i1,by omega,by omega,by omega,hput⟩,rfl⟩)
theorem c13 (m:Mem) (hz:sizMem m <= 1048576) (h x:Int):Ctr prog 13 [.agg ((encMem m).map .dat),.one (.dat (.int .i64 h)),.one (.dat (.int .i64 x))] [] (.tup [.agg [.own 0,.own 1,.own 2,.own 3],.one (.dat (.int .i64 (nextToM m h x).2))])
  [.vec 1 true ((nextToM m h x).1.Heap.Bytes.map encI),.vec 1 true ((nextToM m h x).1.Heap.Class.map encI),.vec 1 true ((nextToM m h x).1.Lists.Global.map encSList),.vec 1 true ((nextToM m h x).1.Lists.Own.map encSList)]:=by
 have hmx:maxLen=9223372036854775807:=rfl
 obtain ⟨q1,q2⟩:=mem_sok hz
 have hcc:=c38 m q1 q2
 have hcm:=c39 m hz
 have hcw:=fun hs=>c40 m hz hs h
 have hcs:=fun hs=>c42 m.Heap hs (h % 32)
 simp only [encMem,encHeap,List.map_cons,List.map_nil] at hcc hcm hcw hcs ⊢
 refine Ctr.bd mixed func13 rfl ?_
 refine evl ?_
 refine scs ?_
 refine ck e38 (hcc) rfl ?_
 refine evl ?_
 refine scs ?_
 refine ck e39 (hcm) rfl ?_
 refine evl ?_
 refine scs ?_
 first | refine CCallK_intro e52 (fun hg=>⟨by first | exact trivial | exact hg | exact ⟨hg,hg⟩ | (simp;done) | (simp_all only [Bool.not_false,Bool.not_true,and_self];done),c52 x⟩) rfl rfl ?_ | refine Or.inl (CCallK_intro e52 (fun hg=>⟨by first | exact trivial | exact hg | exact ⟨hg,hg⟩ | (simp;done) | (simp_all only [Bool.not_false,Bool.not_true,and_self];done),c52 x⟩) rfl rfl ?_)
 refine evl ?_
 refine scs ?_
 constructor <;> intro hq
 ·have hok:(memOk m && isLink x)=false:=by
   revert hq;cases memOk m <;> cases isLink x <;> simp
  have hr:nextToM m h x=(m,1):=by rw [nextToM,hok];rfl
  rw [hr]
  refine scs ?_
  refine Fin.nt results13 [2,3,4,5] ?_ ?_ ?_ <;> try trivial
  all_goals exact entd
 have hok:memOk m=true /\ isLink x=true:=by
  revert hq;cases memOk m <;> cases isLink x <;> simp
 obtain ⟨hme,hlx⟩:=hok
 obtain ⟨_,_,hsh⟩:=memOk_heap hme
 have hxn:=link_num hlx
 have hn0:nextToM m h x=if isLiveM m h=true then (if hasNodeM m.Heap (h % 32)=true then (setBytes m (putL m.Heap.Bytes ((startM m.Heap (h % 32)).toNat + 6) (fixNs 4 x)),0) else (m,2)) else (m,4):=by rw [nextToM,hme,hlx];rfl
 clear hq
 refine scs ?_
 refine ck e40 (hcw hsh) rfl ?_
 rcases hlv:isLiveM m h with _ | _
 ·have hr:nextToM m h x=(m,4):=by rw [hn0,hlv];rfl
  have hwr:writableM m h=4:=by rw [writableM,if_pos hlv]
  have hb0:((4:Int) == 0)=false:=rfl
  rw [hr,hwr]
  refine sv27 ?_
  refine scs ?_
  refine Fin.nt results13 [2,3,4,5] ?_ ?_ ?_ <;> try trivial
  all_goals exact entd
 obtain ⟨ht,_,_⟩:=handle_pos (live_iff hlv).1
 rcases hnd:hasNodeM m.Heap (h % 32) with _ | _
 ·have hr:nextToM m h x=(m,2):=by rw [hn0,hlv,hnd];rfl
  have hwr:writableM m h=2:=by rw [writableM,if_neg (by rw [hlv];simp),if_pos hnd]
  have hb0:((2:Int) == 0)=false:=rfl
  rw [hr,hwr]
  refine sv27 ?_
  refine scs ?_
  refine Fin.nt results13 [2,3,4,5] ?_ ?_ ?_ <;> try trivial
  all_goals exact entd
 have hr:nextToM m h x=(setBytes m (putL m.Heap.Bytes ((startM m.Heap (h % 32)).toNat + 6) (fixNs 4 x)),0):=by rw [hn0,hlv,hnd];rfl
 have hwr:writableM m h=0:=by rw [writableM,if_neg (by rw [hlv];simp),if_neg (by rw [hnd];simp)]
 obtain ⟨hb1,hb2,hb3,hb4⟩:=start_bound hsh hnd
 obtain ⟨hbl,_⟩:=shaped_iff hsh
 have hw6:IntKind.i64.wrap (startM m.Heap (h % 32) + 6)=startM m.Heap (h % 32) + 6:=wrap_id (by omega) (by omega)
 have hb0:((0:Int) == 0)=true:=rfl
 rw [hr,hwr]
 simp only [setBytes]
 simp (maxSteps:=2000000) only [go_sem,seval,ht,hb0]
 refine FloatR_intro [(0,[]),(1,[]),(2,[]),(3,[]),(4,[]),(5,[]),(6,[]),(9,[]),(7,[0,1,2,9]),(8,[]),(10,[0,1,2,8]),(11,[])] (by kernel_rfl) ?_
 refine sv26 ?_
 refine scs ?_
 refine ck e42 (hcs hsh) rfl ?_
 simp (maxSteps:=2000000) only [go_sem,seval,ht,hw6]
 refine scs ?_
 refine ck e43 (c43 4 (.inr rfl) x (by omega) (by omega)) rfl ?_
 simp (maxSteps:=2000000) only [go_sem,seval,ht,hw6]
 refine scs ?_
 have hcp:=c41 m.Heap.Bytes (by omega) (startM m.Heap (h % 32) + 6) (fixNs 4 x) (fixNs_in 4 x) (by omega) (by rw [fixNs_len];omega)
 rw [show (startM m.Heap (h % 32) + 6).toNat=(startM m.Heap (h % 32)).toNat + 6 by omega] at hcp
 refine CallK_os [2] e41 (by simp [osOk,St.obj,find]) hcp rfl ?_
 refine evl ?_
 refine scs ?_
 refine Fin.nt results13 [2,3,4,5] ?_ ?_ ?_ <;> try trivial
 all_goals exact entd
theorem c136 (m:Mem) (hz:sizMem m <= 1048576) (h x:Int):Ctr prog 136 [.agg ((encMem m).map .dat),.one (.dat (.int .i64 h)),.one (.dat (.int .i64 x))] [] (.tup [.agg [.own 0,.own 1,.own 2,.own 3],.one (.dat (.int .i64 (nextToM m h x).2))])
  [.vec 1 true ((nextToM m h x).1.Heap.Bytes.map encI),.vec 1 true ((nextToM m h x).1.Heap.Class.map encI),.vec 1 true ((nextToM m h x).1.Lists.Global.map encSList),.vec 1 true ((nextToM m h x).1.Lists.Own.map encSList)]:=by
 have hmx:maxLen=9223372036854775807:=rfl
 obtain ⟨q1,q2⟩:=mem_sok hz
 have hcc:=c44 m q1 q2
 have hcm:=c14 m hz
 have hcv:=fun hs=>c46 m hz hs h
 have hcp:=fun hs=>c47 m hs h
 simp only [encMem,List.map_cons,List.map_nil] at hcc hcm hcv hcp ⊢
 refine Ctr.bd mixed func136 rfl ?_
 refine evl ?_
 refine scs ?_
 refine ck e44 (hcc) rfl ?_
 refine evl ?_
 refine scs ?_
 refine ck e14 (hcm) rfl ?_
 refine evl ?_
 refine scs ?_
 first | refine CCallK_intro e66 (fun hg=>⟨by first | exact trivial | exact hg | exact ⟨hg,hg⟩ | (simp;done) | (simp_all only [Bool.not_false,Bool.not_true,and_self];done),c66 x⟩) rfl rfl ?_ | refine Or.inl (CCallK_intro e66 (fun hg=>⟨by first | exact trivial | exact hg | exact ⟨hg,hg⟩ | (simp;done) | (simp_all only [Bool.not_false,Bool.not_true,and_self];done),c66 x⟩) rfl rfl ?_)
 refine evl ?_
 refine scs ?_
 constructor <;> intro hq
 ·have hok:(memOk m && isLink x)=false:=by
   revert hq;cases memOk m <;> cases isLink x <;> simp
  have hr:nextToM m h x=(m,1):=by rw [nextToM,hok];rfl
  rw [hr]
  refine scs ?_
  refine Fin.nt results136 [2,3,4,5] ?_ ?_ ?_ <;> try trivial
  all_goals exact entd
 have hok:memOk m=true /\ isLink x=true:=by
  revert hq;cases memOk m <;> cases isLink x <;> simp
 obtain ⟨hme,hlx⟩:=hok
 obtain ⟨_,_,hsh⟩:=memOk_heap hme
 have hxn:=link_num hlx
 have hn0:nextToM m h x=if isLiveM m h=true then (if hasNodeM m.Heap (h % 32)=true then (setBytes m (putL m.Heap.Bytes ((startM m.Heap (h % 32)).toNat + 6) (fixNs 4 x)),0) else (m,2)) else (m,4):=by rw [nextToM,hme,hlx];rfl
 clear hq
 refine scs ?_
 refine ck e46 (hcv hsh) rfl ?_
 rcases hlv:isLiveM m h with _ | _
 ·have hr:nextToM m h x=(m,4):=by rw [hn0,hlv];rfl
  rw [hr]
  refine sv32 ?_
  refine scs ?_
  refine Fin.nt results136 [2,3,4,5] ?_ ?_ ?_ <;> try trivial
  all_goals exact entd
 have hsp:=spot_live hlv
 refine sv32 ?_
 refine scs ?_
 rcases hnd:hasNodeM m.Heap (h % 32) with _ | _
 ·have hr:nextToM m h x=(m,2):=by rw [hn0,hlv,hnd];rfl
  rw [hnd,if_neg (by simp)] at hsp
  rw [hsp] at hcp
  have hb0:((2:Int) != 0)=true:=rfl
  rw [hr]
  refine ck e47 (hcp hsh) rfl ?_
  refine sv27 ?_
  refine scs ?_
  refine Fin.nt results136 [2,3,4,5] ?_ ?_ ?_ <;> try trivial
  all_goals exact entd
 have hr:nextToM m h x=(setBytes m (putL m.Heap.Bytes ((startM m.Heap (h % 32)).toNat + 6) (fixNs 4 x)),0):=by rw [hn0,hlv,hnd];rfl
 rw [hnd,if_pos rfl] at hsp
 rw [hsp] at hcp
 have hb0:((0:Int) != 0)=false:=rfl
 obtain ⟨hb1,hb2,hb3,hb4⟩:=start_bound hsh hnd
 obtain ⟨hbl,_⟩:=shaped_iff hsh
 have hw6:IntKind.i64.wrap (startM m.Heap (h % 32) + 6)=startM m.Heap (h % 32) + 6:=wrap_id (by omega) (by omega)
 have hcs:=c126 m.Heap.Bytes (by omega) (startM m.Heap (h % 32) + 6) 4 (by omega) x (by omega) (by omega) (by omega) (by omega)
 rw [show (startM m.Heap (h % 32) + 6).toNat=(startM m.Heap (h % 32)).toNat + 6 by omega] at hcs
 rw [hr]
 simp only [setBytes]
 refine ck e47 (hcp hsh) rfl ?_
 simp (maxSteps:=2000000) only [go_sem,seval,hb0,hw6]
 refine scs ?_
 refine CallK_os [2] e126 (by simp [osOk,St.obj,find]) hcs rfl ?_
 refine evl ?_
 refine scs ?_
 refine Fin.nt results136 [2,3,4,5] ?_ ?_ ?_ <;> try trivial
 all_goals exact entd
theorem c48 (m:Mem) (hb:m.Heap.Bytes.length=384) (A:Int) (h0:0 <= A) (h1:A + 10 <= 384) (x:Node) (hx:nodeOkM x=true):Ctr prog 48 [.agg [.own 0,.own 1,.own 2,.own 3],.one (.dat (.int .i64 A)),.agg ((encNode x).map .dat)] [.vec 1 true (m.Heap.Bytes.map encI),.vec 1 true (m.Heap.Class.map encI),.vec 1 true (m.Lists.Global.map encSList),.vec 1 true (m.Lists.Own.map encSList)] (.agg [.own 0,.own 1,.own 2,.own 3])
  [.vec 1 true ((putL m.Heap.Bytes A.toNat (nodeNs x)).map encI),.vec 1 true (m.Heap.Class.map encI),.vec 1 true (m.Lists.Global.map encSList),.vec 1 true (m.Lists.Own.map encSList)]:=by
 have hmx:maxLen=9223372036854775807:=rfl
 obtain ⟨hx1,hx2,hx3⟩:=node_num hx
 have hw2:IntKind.i64.wrap (A + 2)=A + 2:=wrap_id (by omega) (by omega)
 have hw6:IntKind.i64.wrap (A + 6)=A + 6:=wrap_id (by omega) (by omega)
 have hc1:=c126 m.Heap.Bytes (by omega) A 2 (by omega) x.Key (by omega) (by omega) h0 (by omega)
 have hc2:=c126 (putL m.Heap.Bytes A.toNat (fixNs 2 x.Key)) (by rw [putL_len];omega) (A + 2) 4 (by omega) x.Val (by omega) (by omega) (by omega) (by rw [putL_len];omega)
 have hc3:=c126 (putL (putL m.Heap.Bytes A.toNat (fixNs 2 x.Key)) (A + 2).toNat (fixNs 4 x.Val)) (by rw [putL_len,putL_len];omega) (A + 6) 4 (by omega) x.Next (by omega) (by omega) (by omega) (by rw [putL_len,putL_len];omega)
 have hend:putL (putL (putL m.Heap.Bytes A.toNat (fixNs 2 x.Key)) (A + 2).toNat (fixNs 4 x.Val)) (A + 6).toNat (fixNs 4 x.Next)=putL m.Heap.Bytes A.toNat (nodeNs x):=by
  rw [nodeNs,putL_app,putL_app,fixNs_len,fixNs_len,show (A + 2).toNat=A.toNat + 2 by omega,show (A + 6).toNat=A.toNat + 2 + 4 by omega]
 rw [hend] at hc3
 simp only [encNode,List.map_cons,List.map_nil]
 refine Ctr.of_body mixed func48 rfl (by kernel_rfl) (Nat.le_of_ble_eq_true rfl) (by simp [AV.Clean,AV.Clean1,Leaf.Clean,D.flat]) (by simp [AObj.Sep]) (by simp) ?_ (by simp [AV.Low,AV.Low1,Leaf.Low]) ?_
 ·intro o ho
  have:o=0 \/ o=1 \/ o=2 \/ o=3:=by have:o < 4:=ho;omega
  rcases this with rfl | rfl | rfl | rfl <;> simp [Objs,Compat,putL_len]
 show wpA _ _ _ (FinQ _ _ _ _ _) _
 refine evl ?_
 refine scs ?_
 refine CallK_os [0] e126 (by simp [osOk,St.obj,find]) hc1 rfl ?_
 refine sv33 ?_
 refine scs ?_
 refine CallK_os [0] e126 (by simp [osOk,St.obj,find]) hc2 rfl ?_
 simp (maxSteps:=2000000) only [go_sem,seval,hw6]
 refine scs ?_
 refine CallK_os [0] e126 (by simp [osOk,St.obj,find]) hc3 rfl ?_
 refine evl ?_
 refine scs ?_
 refine Fin.nt results48 [0,1,2,3] ?_ ?_ ?_ <;> try trivial
 all_goals exact entd
theorem c10 (m:Mem) (hz:sizMem m <= 1048576) (h:Int) (x:Node):Ctr prog 10 [.agg ((encMem m).map .dat),.one (.dat (.int .i64 h)),.agg ((encNode x).map .dat)] [] (.tup [.agg [.own 0,.own 1,.own 2,.own 3],.one (.dat (.int .i64 (nodePutM m h x).2))])
  [.vec 1 true ((nodePutM m h x).1.Heap.Bytes.map encI),.vec 1 true ((nodePutM m h x).1.Heap.Class.map encI),.vec 1 true ((nodePutM m h x).1.Lists.Global.map encSList),.vec 1 true ((nodePutM m h x).1.Lists.Own.map encSList)]:=by
 have hmx:maxLen=9223372036854775807:=rfl
 have hnk:nodeOkM x=nodeOk x.Key x.Val x.Next:=rfl
 obtain ⟨q1,q2⟩:=mem_sok hz
 have hcc:=c44 m q1 q2
 have hcm:=c14 m hz
 have hcv:=fun hs=>c46 m hz hs h
 have hcp:=fun hs=>c47 m hs h
 simp only [encMem,encNode,List.map_cons,List.map_nil] at hcc hcm hcv hcp ⊢
 refine Ctr.bd mixed func10 rfl ?_
 refine evl ?_
 refine scs ?_
 refine ck e44 (hcc) rfl ?_
 refine evl ?_
 refine scs ?_
 refine ck e14 (hcm) rfl ?_
 refine evl ?_
 refine scs ?_
 first | refine CCallK_intro e45 (fun hg=>⟨by first | exact trivial | exact hg | exact ⟨hg,hg⟩ | (simp;done) | (simp_all only [Bool.not_false,Bool.not_true,and_self];done),c45 x.Key x.Val x.Next⟩) rfl rfl ?_ | refine Or.inl (CCallK_intro e45 (fun hg=>⟨by first | exact trivial | exact hg | exact ⟨hg,hg⟩ | (simp;done) | (simp_all only [Bool.not_false,Bool.not_true,and_self];done),c45 x.Key x.Val x.Next⟩) rfl rfl ?_)
 refine evl ?_
 refine scs ?_
 constructor <;> intro hq
 ·have hok:(memOk m && nodeOkM x)=false:=by
   rw [hnk];revert hq;cases memOk m <;> cases nodeOk x.Key x.Val x.Next <;> simp
  have hr:nodePutM m h x=(m,1):=by rw [nodePutM,hok];rfl
  rw [hr]
  refine scs ?_
  refine Fin.nt results10 [3,4,5,6] ?_ ?_ ?_ <;> try trivial
  all_goals exact entd
 have hok:memOk m=true /\ nodeOkM x=true:=by
  rw [hnk];revert hq;cases memOk m <;> cases nodeOk x.Key x.Val x.Next <;> simp
 obtain ⟨hme,hlx⟩:=hok
 obtain ⟨_,_,hsh⟩:=memOk_heap hme
 have hn0:nodePutM m h x=if isLiveM m h=true then (if hasNodeM m.Heap (h % 32)=true then (setBytes m (putL m.Heap.Bytes (startM m.Heap (h % 32)).toNat (nodeNs x)),0) else (m,2)) else (m,4):=by rw [nodePutM,hme,hlx];rfl
 clear hq
 refine scs ?_
 refine ck e46 (hcv hsh) rfl ?_
 rcases hlv:isLiveM m h with _ | _
 ·have hr:nodePutM m h x=(m,4):=by rw [hn0,hlv];rfl
  rw [hr]
  refine sv32 ?_
  refine scs ?_
  refine Fin.nt results10 [3,4,5,6] ?_ ?_ ?_ <;> try trivial
  all_goals exact entd
 have hsp:=spot_live hlv
 refine sv32 ?_
 refine scs ?_
 rcases hnd:hasNodeM m.Heap (h % 32) with _ | _
 ·have hr:nodePutM m h x=(m,2):=by rw [hn0,hlv,hnd];rfl
  rw [hnd,if_neg (by simp)] at hsp
  rw [hsp] at hcp
  have hb0:((2:Int) != 0)=true:=rfl
  rw [hr]
  refine ck e47 (hcp hsh) rfl ?_
  refine sv27 ?_
  refine scs ?_
  refine Fin.nt results10 [3,4,5,6] ?_ ?_ ?_ <;> try trivial
  all_goals exact entd
 have hr:nodePutM m h x=(setBytes m (putL m.Heap.Bytes (startM m.Heap (h % 32)).toNat (nodeNs x)),0):=by rw [hn0,hlv,hnd];rfl
 rw [hnd,if_pos rfl] at hsp
 rw [hsp] at hcp
 have hb0:((0:Int) != 0)=false:=rfl
 obtain ⟨hb1,hb2,hb3,hb4⟩:=start_bound hsh hnd
 obtain ⟨hbl,_⟩:=shaped_iff hsh
 have hcs:=c48 m hbl (startM m.Heap (h % 32)) hb2 hb3 x hlx
 simp only [encNode,List.map_cons,List.map_nil] at hcs
 rw [hr]
 simp only [setBytes]
 refine ck e47 (hcp hsh) rfl ?_
 refine sv27 ?_
 refine scs ?_
 refine CallK_os [3,4,5,6] e48 (by simp [osOk,St.obj,find]) hcs rfl ?_
 refine evl ?_
 refine scs ?_
 refine Fin.nt results10 [3,4,5,6] ?_ ?_ ?_ <;> try trivial
 all_goals exact entd
theorem c23 (m:Mem) (hz:sizMem m <= 1048576) (b:Bkt) (h:Int):Ctr prog 23 [.agg ((encMem m).map .dat),.agg ((encBkt b).map .dat),.one (.dat (.int .i64 h))] [] (.tup [.agg [.own 0,.own 1,.own 2,.own 3],.agg ((encBkt (linkInM m b h).2.1).map .dat),.one (.dat (.bool (linkInM m b h).2.2))])
  [.vec 1 true ((linkInM m b h).1.Heap.Bytes.map encI),.vec 1 true ((linkInM m b h).1.Heap.Class.map encI),.vec 1 true ((linkInM m b h).1.Lists.Global.map encSList),.vec 1 true ((linkInM m b h).1.Lists.Own.map encSList)]:=by
 have hmx:maxLen=9223372036854775807:=rfl
 obtain ⟨q1,q2⟩:=mem_sok hz
 have hcl:=chain_len m b.Head
 have hcc:=c38 m q1 q2
 have hch:=c21 m hz b.Head
 have hcn:=c13 m hz h b.Head
 obtain ⟨hzn,_⟩:=nextTo_bnd (h:=h) (x:=b.Head) hz
 have hci:=fun hs hn=>c60 (nextToM m h b.Head).1.Heap hs (h % 32) hn
 simp only [encMem,encHeap,encNode,encBkt,List.map_cons,List.map_nil] at hcc hch hcn hci ⊢
 obtain ⟨C,hC⟩:∃ C,chainR m b.Head=C:=⟨_,rfl⟩
 have hlk:linkInM m b h=if (C.2 && (bktB b && !(C.1.any fun y=>y == h)))=true then (if ((nextToM m h b.Head).2 == 0 && nodeOkM (nodeOf (nextToM m h b.Head).1 h))=true then ((nextToM m h b.Head).1,⟨h,b.Ver,b.Lock⟩,true) else (m,b,false)) else (m,b,false):=by rw [linkInM,hC]
 rw [hC] at hch hcl
 have hkb:bktB b=bktOk b.Head b.Ver b.Lock:=rfl
 refine Ctr.bd mixed func23 rfl ?_
 refine evl ?_
 refine scs ?_
 refine ck e21 (hch) rfl ?_
 refine sv3 ?_
 refine scs ?_
 first | refine CCallK_intro e64 (fun hg=>⟨by first | exact trivial | exact hg | exact ⟨hg,hg⟩ | (simp;done) | (simp_all only [Bool.not_false,Bool.not_true,and_self];done),c64 b.Head b.Ver b.Lock⟩) rfl rfl ?_ | refine Or.inl (CCallK_intro e64 (fun hg=>⟨by first | exact trivial | exact hg | exact ⟨hg,hg⟩ | (simp;done) | (simp_all only [Bool.not_false,Bool.not_true,and_self];done),c64 b.Head b.Ver b.Lock⟩) rfl rfl ?_)
 refine sv3 ?_
 refine scs ?_
 first | refine CCallK_intro e62 (fun hg=>⟨by first | exact trivial | exact hg | exact ⟨hg,hg⟩ | (simp;done) | (simp_all only [Bool.not_false,Bool.not_true,and_self];done),c62 C.1 (by omega) h⟩) rfl rfl ?_ | refine Or.inl (CCallK_intro e62 (fun hg=>⟨by first | exact trivial | exact hg | exact ⟨hg,hg⟩ | (simp;done) | (simp_all only [Bool.not_false,Bool.not_true,and_self];done),c62 C.1 (by omega) h⟩) rfl rfl ?_)
 refine sv3 ?_
 refine scs ?_
 constructor <;> intro hq
 ·have hr:linkInM m b h=(m,b,false):=by
   rw [hlk,if_neg]
   rw [hkb]
   revert hq
   cases C.2 <;> cases bktOk b.Head b.Ver b.Lock <;> simp
  rw [hr]
  refine scs ?_
  refine FloatR_intro [(0,[]),(2,[]),(1,[2]),(3,[2]),(4,[]),(5,[])] (by kernel_rfl) ?_
  refine sv3 ?_
  refine scs ?_
  refine ck e38 (hcc) rfl ?_
  refine sv3 ?_
  refine scs ?_
  refine Fin.nt results23 [5,6,7,8] ?_ ?_ ?_ <;> try trivial
  all_goals exact entd
 have hok:(C.2 && (bktB b && !(C.1.any fun y=>y == h)))=true:=by
  rw [hkb]
  revert hq
  cases C.2 <;> cases bktOk b.Head b.Ver b.Lock <;> simp
 rw [if_pos hok] at hlk
 clear hq
 refine scs ?_
 refine ck e13 (hcn) rfl ?_
 rcases hc0:((nextToM m h b.Head).2 == 0) with _ | _
 ·have hr:linkInM m b h=(m,b,false):=by rw [hlk,hc0];rfl
  have hn0:((nextToM m h b.Head).2 != 0)=true:=by rw [bne,hc0];rfl
  rw [hr]
  refine sv34 ?_
  refine scs ?_
  first | refine CCallK_of (.agg [.dat (.int .i64 0),.dat (.int .i64 0),.dat (.int .i64 0)]) ?_ | refine CCallK_og (.agg [.dat (.int .i64 0),.dat (.int .i64 0),.dat (.int .i64 0)]) ?_
  refine sv34 ?_
  refine scs ?_
  first | refine CCallK_of (.one (.dat (.bool false))) ?_ | refine CCallK_og (.one (.dat (.bool false))) ?_
  refine sv34 ?_
  refine scs ?_
  refine FloatR_intro [(0,[]),(2,[]),(1,[2]),(3,[2]),(4,[]),(5,[])] (by kernel_rfl) ?_
  refine sv3 ?_
  refine scs ?_
  refine ck e38 (hcc) rfl ?_
  refine sv3 ?_
  refine scs ?_
  refine Fin.nt results23 [10,11,12,13] ?_ ?_ ?_ <;> try trivial
  all_goals exact entd
 have hn0:((nextToM m h b.Head).2 != 0)=false:=by rw [bne,hc0];rfl
 obtain ⟨hz0,hz1,hz2,hz3,hz4⟩:=nextTo_zero (eq_of_beq hc0)
 obtain ⟨ht,_,_⟩:=handle_pos (live_iff hz1).1
 rw [hc0,Bool.true_and] at hlk
 obtain ⟨nd,hnd⟩:∃ nd,nodeOf (nextToM m h b.Head).1 h=nd:=⟨_,rfl⟩
 have hnk:nodeOkM nd=nodeOk nd.Key nd.Val nd.Next:=rfl
 have hci2:=hci hz3 hz4
 try simp only [show nodeInM (nextToM m h b.Head).1.Heap (h % 32)=nodeOf (nextToM m h b.Head).1 h from rfl] at hci2
 rw [hnd] at hci2 hlk
 refine sv35 ?_
 refine scs ?_
 first | refine CCallK_intro e60 (fun hg=>⟨by first | exact trivial | exact hg | exact ⟨hg,hg⟩ | (simp;done) | (simp_all only [Bool.not_false,Bool.not_true,and_self];done),hci2⟩) rfl rfl ?_ | refine Or.inl (CCallK_intro e60 (fun hg=>⟨by first | exact trivial | exact hg | exact ⟨hg,hg⟩ | (simp;done) | (simp_all only [Bool.not_false,Bool.not_true,and_self];done),hci2⟩) rfl rfl ?_)
 refine sv35 ?_
 refine scs ?_
 first | refine CCallK_intro e15 (fun hg=>⟨by first | exact trivial | exact hg | exact ⟨hg,hg⟩ | (simp;done) | (simp_all only [Bool.not_false,Bool.not_true,and_self];done),c15 nd.Key nd.Val nd.Next⟩) rfl rfl ?_ | refine Or.inl (CCallK_intro e15 (fun hg=>⟨by first | exact trivial | exact hg | exact ⟨hg,hg⟩ | (simp;done) | (simp_all only [Bool.not_false,Bool.not_true,and_self];done),c15 nd.Key nd.Val nd.Next⟩) rfl rfl ?_)
 refine sv35 ?_
 refine scs ?_
 constructor <;> intro hq
 ·have hr:linkInM m b h=(m,b,false):=by
   rw [hlk,if_neg]
   rw [hnk];revert hq;cases nodeOk nd.Key nd.Val nd.Next <;> simp
  rw [hr]
  refine scs ?_
  refine FloatR_intro [(0,[]),(2,[]),(1,[2]),(3,[2]),(4,[]),(5,[])] (by kernel_rfl) ?_
  refine sv3 ?_
  refine scs ?_
  refine ck e38 (hcc) rfl ?_
  refine sv3 ?_
  refine scs ?_
  refine Fin.nt results23 [10,11,12,13] ?_ ?_ ?_ <;> try trivial
  all_goals exact entd
 have hr:linkInM m b h=((nextToM m h b.Head).1,⟨h,b.Ver,b.Lock⟩,true):=by
  rw [hlk,if_pos]
  rw [hnk];revert hq;cases nodeOk nd.Key nd.Val nd.Next <;> simp
 rw [hr]
 refine scs ?_
 refine FloatR_intro [(0,[]),(1,[]),(2,[1]),(3,[]),(4,[])] (by kernel_rfl) ?_
 refine sv3 ?_
 refine scs ?_
 refine Fin.nt results23 [5,6,7,8] ?_ ?_ ?_ <;> try trivial
 all_goals exact entd
theorem c135 (m:Mem) (hz:sizMem m <= 1048576) (b:Bkt) (h:Int):Ctr prog 135 [.agg ((encMem m).map .dat),.agg ((encBkt b).map .dat),.one (.dat (.int .i64 h))] [] (.tup [.agg [.own 0,.own 1,.own 2,.own 3],.agg ((encBkt (linkInM m b h).2.1).map .dat),.one (.dat (.bool (linkInM m b h).2.2))])
  [.vec 1 true ((linkInM m b h).1.Heap.Bytes.map encI),.vec 1 true ((linkInM m b h).1.Heap.Class.map encI),.vec 1 true ((linkInM m b h).1.Lists.Global.map encSList),.vec 1 true ((linkInM m b h).1.Lists.Own.map encSList)]:=by
 have hmx:maxLen=9223372036854775807:=rfl
 obtain ⟨q1,q2⟩:=mem_sok hz
 have hcl:=chain_len m b.Head
 have hcc:=c44 m q1 q2
 have hch:=c22 m hz b.Head
 have hcn:=c136 m hz h b.Head
 obtain ⟨hzn,_⟩:=nextTo_bnd (h:=h) (x:=b.Head) hz
 have hci:=fun hs hh hn=>c61_e (nextToM m h b.Head).1 hs h hh hn
 simp only [encMem,encNode,encBkt,List.map_cons,List.map_nil] at hcc hch hcn hci ⊢
 obtain ⟨C,hC⟩:∃ C,chainR m b.Head=C:=⟨_,rfl⟩
 have hlk:linkInM m b h=if (C.2 && (bktB b && !(C.1.any fun y=>y == h)))=true then (if ((nextToM m h b.Head).2 == 0 && nodeOkM (nodeOf (nextToM m h b.Head).1 h))=true then ((nextToM m h b.Head).1,⟨h,b.Ver,b.Lock⟩,true) else (m,b,false)) else (m,b,false):=by rw [linkInM,hC]
 rw [hC] at hch hcl
 have hkb:bktB b=bktOk b.Head b.Ver b.Lock:=rfl
 refine Ctr.bd mixed func135 rfl ?_
 refine evl ?_
 refine scs ?_
 refine ck e22 (hch) rfl ?_
 refine sv3 ?_
 refine scs ?_
 first | refine CCallK_intro e27 (fun hg=>⟨by first | exact trivial | exact hg | exact ⟨hg,hg⟩ | (simp;done) | (simp_all only [Bool.not_false,Bool.not_true,and_self];done),c27 b.Head b.Ver b.Lock⟩) rfl rfl ?_ | refine Or.inl (CCallK_intro e27 (fun hg=>⟨by first | exact trivial | exact hg | exact ⟨hg,hg⟩ | (simp;done) | (simp_all only [Bool.not_false,Bool.not_true,and_self];done),c27 b.Head b.Ver b.Lock⟩) rfl rfl ?_)
 refine sv3 ?_
 refine scs ?_
 first | refine CCallK_intro e133 (fun hg=>⟨by first | exact trivial | exact hg | exact ⟨hg,hg⟩ | (simp;done) | (simp_all only [Bool.not_false,Bool.not_true,and_self];done),c133 C.1 (by omega) h⟩) rfl rfl ?_ | refine Or.inl (CCallK_intro e133 (fun hg=>⟨by first | exact trivial | exact hg | exact ⟨hg,hg⟩ | (simp;done) | (simp_all only [Bool.not_false,Bool.not_true,and_self];done),c133 C.1 (by omega) h⟩) rfl rfl ?_)
 refine sv3 ?_
 refine scs ?_
 constructor <;> intro hq
 ·have hr:linkInM m b h=(m,b,false):=by
   rw [hlk,if_neg]
   rw [hkb]
   revert hq
   cases C.2 <;> cases bktOk b.Head b.Ver b.Lock <;> simp
  rw [hr]
  refine scs ?_
  refine FloatR_intro [(0,[]),(2,[]),(1,[2]),(3,[2]),(4,[]),(5,[])] (by kernel_rfl) ?_
  refine sv3 ?_
  refine scs ?_
  refine ck e44 (hcc) rfl ?_
  refine sv3 ?_
  refine scs ?_
  refine Fin.nt results135 [5,6,7,8] ?_ ?_ ?_ <;> try trivial
  all_goals exact entd
 have hok:(C.2 && (bktB b && !(C.1.any fun y=>y == h)))=true:=by
  rw [hkb]
  revert hq
  cases C.2 <;> cases bktOk b.Head b.Ver b.Lock <;> simp
 rw [if_pos hok] at hlk
 clear hq
 refine scs ?_
 refine ck e136 (hcn) rfl ?_
 rcases hc0:((nextToM m h b.Head).2 == 0) with _ | _
 ·have hr:linkInM m b h=(m,b,false):=by rw [hlk,hc0];rfl
  have hn0:((nextToM m h b.Head).2 != 0)=true:=by rw [bne,hc0];rfl
  rw [hr]
  refine sv34 ?_
  refine scs ?_
  first | refine CCallK_of (.agg [.dat (.int .i64 0),.dat (.int .i64 0),.dat (.int .i64 0)]) ?_ | refine CCallK_og (.agg [.dat (.int .i64 0),.dat (.int .i64 0),.dat (.int .i64 0)]) ?_
  refine sv34 ?_
  refine scs ?_
  first | refine CCallK_of (.one (.dat (.bool false))) ?_ | refine CCallK_og (.one (.dat (.bool false))) ?_
  refine sv34 ?_
  refine scs ?_
  refine FloatR_intro [(0,[]),(2,[]),(1,[2]),(3,[2]),(4,[]),(5,[])] (by kernel_rfl) ?_
  refine sv3 ?_
  refine scs ?_
  refine ck e44 (hcc) rfl ?_
  refine sv3 ?_
  refine scs ?_
  refine Fin.nt results135 [10,11,12,13] ?_ ?_ ?_ <;> try trivial
  all_goals exact entd
 have hn0:((nextToM m h b.Head).2 != 0)=false:=by rw [bne,hc0];rfl
 obtain ⟨hz0,hz1,hz2,hz3,hz4⟩:=nextTo_zero (eq_of_beq hc0)
 obtain ⟨ht,_,_⟩:=handle_pos (live_iff hz1).1
 rw [hc0,Bool.true_and] at hlk
 obtain ⟨nd,hnd⟩:∃ nd,nodeOf (nextToM m h b.Head).1 h=nd:=⟨_,rfl⟩
 have hnk:nodeOkM nd=nodeOk nd.Key nd.Val nd.Next:=rfl
 have hci2:=hci hz3 (live_iff hz1).1 hz4
 try simp only [show nodeInM (nextToM m h b.Head).1.Heap (h % 32)=nodeOf (nextToM m h b.Head).1 h from rfl] at hci2
 rw [hnd] at hci2 hlk
 refine sv35 ?_
 refine scs ?_
 first | refine CCallK_intro e61 (fun hg=>⟨by first | exact trivial | exact hg | exact ⟨hg,hg⟩ | (simp;done) | (simp_all only [Bool.not_false,Bool.not_true,and_self];done),hci2⟩) rfl rfl ?_ | refine Or.inl (CCallK_intro e61 (fun hg=>⟨by first | exact trivial | exact hg | exact ⟨hg,hg⟩ | (simp;done) | (simp_all only [Bool.not_false,Bool.not_true,and_self];done),hci2⟩) rfl rfl ?_)
 refine sv35 ?_
 refine scs ?_
 first | refine CCallK_intro e45 (fun hg=>⟨by first | exact trivial | exact hg | exact ⟨hg,hg⟩ | (simp;done) | (simp_all only [Bool.not_false,Bool.not_true,and_self];done),c45 nd.Key nd.Val nd.Next⟩) rfl rfl ?_ | refine Or.inl (CCallK_intro e45 (fun hg=>⟨by first | exact trivial | exact hg | exact ⟨hg,hg⟩ | (simp;done) | (simp_all only [Bool.not_false,Bool.not_true,and_self];done),c45 nd.Key nd.Val nd.Next⟩) rfl rfl ?_)
 refine sv35 ?_
 refine scs ?_
 constructor <;> intro hq
 ·have hr:linkInM m b h=(m,b,false):=by
   rw [hlk,if_neg]
   rw [hnk];revert hq;cases nodeOk nd.Key nd.Val nd.Next <;> simp
  rw [hr]
  refine scs ?_
  refine FloatR_intro [(0,[]),(2,[]),(1,[2]),(3,[2]),(4,[]),(5,[])] (by kernel_rfl) ?_
  refine sv3 ?_
  refine scs ?_
  refine ck e44 (hcc) rfl ?_
  refine sv3 ?_
  refine scs ?_
  refine Fin.nt results135 [10,11,12,13] ?_ ?_ ?_ <;> try trivial
  all_goals exact entd
 have hr:linkInM m b h=((nextToM m h b.Head).1,⟨h,b.Ver,b.Lock⟩,true):=by
  rw [hlk,if_pos]
  rw [hnk];revert hq;cases nodeOk nd.Key nd.Val nd.Next <;> simp
 rw [hr]
 refine scs ?_
 refine FloatR_intro [(0,[]),(1,[]),(2,[1]),(3,[]),(4,[])] (by kernel_rfl) ?_
 refine sv3 ?_
 refine scs ?_
 refine Fin.nt results135 [5,6,7,8] ?_ ?_ ?_ <;> try trivial
 all_goals exact entd
theorem chain_first {m:Mem} {head:Int} (h:(chainR m head).2=true):memOk m=true /\ chainGo m 25 head []=some (chainR m head).1:=by
 unfold chainR at h ⊢
 split at h
 ·rename_i hm
  rw [if_pos hm]
  split at h
  ·rename_i l hl
   exact ⟨hm,by rw [hl]⟩
  ·cases h
 ·cases h
theorem chainGo_pre {m:Mem}:∀ (f:Nat) (h:Int) (o l:List Int),chainGo m f h o=some l -> ∃ r,l=o ++ r /\ (h ≠ 0 -> ∃ r',r=h :: r')
 | f,h,o,l,e=>by
  by_cases h0:h=0
  ·subst h0
   rw [chainGo_zero] at e
   cases e
   exact ⟨[],by simp,fun hn=>absurd rfl hn⟩
  ·cases f with
   | zero =>
    unfold chainGo at e
    rw [if_neg h0] at e
    cases e
   | succ f =>
    cases hb:stepOk m h o with
    | false =>
     rw [chainGo_bad h0 hb] at e
     cases e
    | true =>
     rw [chainGo_step h0 hb] at e
     obtain ⟨r,hr,_⟩:=chainGo_pre f _ _ _ e
     exact ⟨h :: r,by rw [hr,List.append_assoc];rfl,fun _=>⟨r,rfl⟩⟩
theorem chain_head {m:Mem} {head h:Int} (hc:(chainR m head).2=true) (hm:h ∈ (chainR m head).1):∃ r,(chainR m head).1=head :: r:=by
 obtain ⟨_,hg⟩:=chain_first hc
 obtain ⟨r,hr,hn⟩:=chainGo_pre 25 head [] _ hg
 rw [List.nil_append] at hr
 by_cases h0:head=0
 ·exfalso
  rw [h0,chainGo_zero] at hg
  have:(chainR m head).1=[]:=by rw [h0];exact (Option.some.inj hg).symm
  rw [this] at hm
  cases hm
 ·obtain ⟨r',hr'⟩:=hn h0
  exact ⟨r',hr.trans hr'⟩
theorem findIdx_at {l:List Int} {h:Int} {i:Nat} (hi:i < l.length) (he:l[i]=h) (hb:∀ j (hj:j < l.length),j < i -> (l[j] == h)=false):l.findIdx (fun y=>y == h)=i:=by
 rw [List.findIdx_eq hi]
 exact ⟨by simp [he],fun j hj=>by simpa using hb j (by omega) hj⟩
theorem c24 (m:Mem) (hz:sizMem m <= 1048576) (b:Bkt) (h:Int):Ctr prog 24 [.agg ((encMem m).map .dat),.agg ((encBkt b).map .dat),.one (.dat (.int .i64 h))] [] (.tup [.agg [.own 0,.own 1,.own 2,.own 3],.agg ((encBkt (unlinkM m b h).2.1).map .dat),.one (.dat (.bool (unlinkM m b h).2.2))])
  [.vec 1 true ((unlinkM m b h).1.Heap.Bytes.map encI),.vec 1 true ((unlinkM m b h).1.Heap.Class.map encI),.vec 1 true ((unlinkM m b h).1.Lists.Global.map encSList),.vec 1 true ((unlinkM m b h).1.Lists.Own.map encSList)]:=by
 have hmx:maxLen=9223372036854775807:=rfl
 obtain ⟨q1,q2⟩:=mem_sok hz
 have hcl:=chain_len m b.Head
 have hcc:=c38 m q1 q2
 have hch:=c21 m hz b.Head
 have hcn:=fun x y=>c13 m hz x y
 have hmem:=fun hm=>chain_mem (m:=m) (head:=b.Head) (h:=h) hm
 have hhd:=chain_head (m:=m) (head:=b.Head) (h:=h)
 have hci:=fun hs hn=>c60 m.Heap hs (h % 32) hn
 simp only [encMem,encHeap,encNode,encBkt,List.map_cons,List.map_nil] at hcc hch hcn hci ⊢
 obtain ⟨C,hC⟩:∃ C,chainR m b.Head=C:=⟨_,rfl⟩
 have hlk:unlinkM m b h=if (C.2 && (bktB b && (C.1.any fun y=>y == h)))=true then (if b.Head=h then (m,⟨(nodeOf m h).Next,b.Ver,b.Lock⟩,true) else ((nextToM m (C.1.getD (C.1.findIdx (fun y=>y == h) - 1) 0) (nodeOf m h).Next).1,b,true)) else (m,b,false):=by rw [unlinkM,hC]
 rw [hC] at hch hcl hmem hhd
 have hkb:bktB b=bktOk b.Head b.Ver b.Lock:=rfl
 refine Ctr.bd mixed func24 rfl ?_
 refine evl ?_
 refine scs ?_
 refine ck e21 (hch) rfl ?_
 refine sv3 ?_
 refine scs ?_
 refine ck e65 (c65 C.1 (by omega) h) rfl ?_
 refine sv3 ?_
 refine scs ?_
 first | refine CCallK_intro e64 (fun hg=>⟨by first | exact trivial | exact hg | exact ⟨hg,hg⟩ | (simp;done) | (simp_all only [Bool.not_false,Bool.not_true,and_self];done),c64 b.Head b.Ver b.Lock⟩) rfl rfl ?_ | refine Or.inl (CCallK_intro e64 (fun hg=>⟨by first | exact trivial | exact hg | exact ⟨hg,hg⟩ | (simp;done) | (simp_all only [Bool.not_false,Bool.not_true,and_self];done),c64 b.Head b.Ver b.Lock⟩) rfl rfl ?_)
 refine sv3 ?_
 refine scs ?_
 obtain ⟨k,hk⟩:∃ k,k=ixF (fun x=>x == h) C.1:=⟨_,rfl⟩
 have hix:=ixF_cases (fun x=>x == h) C.1
 rw [<- hk] at hix ⊢
 have hany:(C.1.any fun y=>y == h)=!decide (k < 0):=by
  rcases hix with ⟨e,hno⟩ | ⟨i,hi,e,hp,_⟩
  ·rw [e,show decide ((-1:Int) < 0)=true from rfl,Bool.not_true,Bool.eq_false_iff]
   intro ha
   obtain ⟨y,hy,hye⟩:=List.any_eq_true.1 ha
   obtain ⟨j,hj,rfl⟩:=List.getElem_of_mem hy
   rw [hno j hj] at hye
   cases hye
  ·rw [e,decide_eq_false (by omega),Bool.not_false,List.any_eq_true]
   exact ⟨C.1[i],List.getElem_mem hi,hp⟩
 constructor <;> intro hq
 ·have hr:unlinkM m b h=(m,b,false):=by
   rw [hlk,if_neg]
   rw [hkb,hany]
   revert hq
   cases C.2 <;> cases bktOk b.Head b.Ver b.Lock <;> cases decide (k < 0) <;> simp
  rw [hr]
  refine scs ?_
  refine FloatR_intro [(0,[]),(2,[]),(1,[2]),(3,[2]),(4,[]),(5,[])] (by kernel_rfl) ?_
  refine sv3 ?_
  refine scs ?_
  refine ck e38 (hcc) rfl ?_
  refine sv3 ?_
  refine scs ?_
  refine Fin.nt results24 [5,6,7,8] ?_ ?_ ?_ <;> try trivial
  all_goals exact entd
 have hok:C.2=true /\ (bktB b=true /\ (C.1.any fun y=>y == h)=true):=by
  rw [hkb,hany]
  revert hq
  cases C.2 <;> cases bktOk b.Head b.Ver b.Lock <;> cases decide (k < 0) <;> simp
 clear hq
 obtain ⟨hc2,hb2,ha2⟩:=hok
 rw [if_pos (by rw [hc2,hb2,ha2];rfl)] at hlk
 have hin:h ∈ C.1:=by
  obtain ⟨y,hy,hye⟩:=List.any_eq_true.1 ha2
  rw [<- eq_of_beq hye];exact hy
 obtain ⟨hme,hlv,hnd⟩:=hmem hin
 obtain ⟨_,_,hsh⟩:=memOk_heap hme
 obtain ⟨ht,_,_⟩:=handle_pos (live_iff hlv).1
 obtain ⟨i,hi,hki,hp,hbef⟩:∃ i,∃ hi:i < C.1.length,k=(i:Int) /\ (C.1[i] == h)=true /\ ∀ j (hj:j < C.1.length),j < i -> (C.1[j] == h)=false:=by
  rcases hix with ⟨e,hno⟩ | ⟨i,hi,e,hp,hb⟩
  ·rw [hany,e] at ha2;cases ha2
  ·exact ⟨i,hi,e,hp,hb⟩
 rw [hki]
 have hfi:=findIdx_at hi (eq_of_beq hp) hbef
 obtain ⟨r,hr0⟩:=hhd (by first | exact hc2 | (rw [hC];exact hc2)) (by first | exact hin | (rw [hC];exact hin))
 try rw [hC] at hr0
 have hg0:∀ (hj:0 < C.1.length),C.1[0]=b.Head:=fun hj=>by
  have h1:C.1[0]?=some b.Head:=by rw [hr0];rfl
  rw [List.getElem?_eq_getElem hj] at h1
  exact Option.some.inj h1
 obtain ⟨nd,hndd⟩:∃ nd,nodeOf m h=nd:=⟨_,rfl⟩
 have hci2:=hci hsh hnd
 rw [show nodeInM m.Heap (h % 32)=nodeOf m h from rfl] at hci2
 rw [hndd] at hci2 hlk
 refine sv26 ?_
 refine scs ?_
 refine ck e60 (hci2) rfl ?_
 refine sv26 ?_
 refine scs ?_
 constructor <;> intro hq
 ·have hi0:i=0:=by have:=eq_of_beq hq;omega
  subst hi0
  have hbh:b.Head=h:=by
   have:=eq_of_beq hp
   rw [<- this,hg0]
  have hr:unlinkM m b h=(m,⟨nd.Next,b.Ver,b.Lock⟩,true):=by rw [hlk,if_pos hbh]
  rw [hr]
  refine scs ?_
  refine FloatR_intro [(0,[]),(2,[]),(1,[2]),(3,[2]),(4,[]),(5,[])] (by kernel_rfl) ?_
  refine sv3 ?_
  refine scs ?_
  refine ck e38 (hcc) rfl ?_
  refine sv3 ?_
  refine scs ?_
  refine Fin.nt results24 [5,6,7,8] ?_ ?_ ?_ <;> try trivial
  all_goals exact entd
 have hi0:0 < i:=by
  rcases Nat.eq_zero_or_pos i with h0 | h0
  ·exfalso;rw [h0] at hq;cases hq
  ·exact h0
 have hbh:¬ b.Head=h:=fun e=>by
  have h0:=hbef 0 (by omega) hi0
  rw [hg0 (by omega),e] at h0
  simp at h0
 have hwi:IntKind.i64.wrap ((i:Int) - 1)=((i - 1:Nat):Int):=by rw [wrap_id (by omega) (by omega)];omega
 have hgi:i - 1 < C.1.length:=by omega
 have hr:unlinkM m b h=((nextToM m (C.1[i - 1]) nd.Next).1,b,true):=by
  rw [hlk,if_neg hbh,hfi,List.getD_eq_getElem?_getD,List.getElem?_eq_getElem hgi];rfl
 rw [hr]
 refine scs ?_
 refine FloatE_intro [(0,[]),(1,[]),(2,[]),(3,[]),(4,[]),(5,[]),(6,[]),(7,[]),(8,[]),(9,[]),(10,[]),(11,[0,1,2,3,4,5,6,8,9,10]),(12,[10]),(13,[])] [11] (by kernel_rfl) ?_
 simp (maxSteps:=2000000) only [go_sem,seval,hwi,getD_map hgi,encI]
 refine scs ?_
 repeat with_reducible intro ff
 refine ⟨⟨⟨by omega,fun d hd=>by rw [List.mem_singleton.1 hd];rfl⟩,by omega,by omega⟩,?_⟩
 refine ck e13 (hcn C.1[i - 1] nd.Next) rfl ?_
 simp (maxSteps:=2000000) only [go_sem,seval,hwi,getD_map hgi,encI]
 refine scs ?_
 repeat with_reducible intro ff
 refine ⟨⟨⟨by omega,fun d hd=>by rw [List.mem_singleton.1 hd];rfl⟩,by omega,by omega⟩,⟨⟨by omega,by omega⟩,by omega,fun d hd=>by rw [List.mem_singleton.1 hd];rfl⟩,?_⟩
 refine FloatR_intro [(0,[]),(1,[]),(2,[1]),(3,[]),(4,[])] (by kernel_rfl) ?_
 refine sv3 ?_
 refine scs ?_
 refine Fin.nt results24 [6,7,8,9] ?_ ?_ ?_ <;> try trivial
 all_goals exact entd
theorem putL_off:∀ (l b:List Int) (k j:Nat),(j < k \/ k + l.length <= j) -> (putL b k l)[j]?=b[j]?
 | [],_,_,_,_=>rfl
 | x :: l,b,k,j,h=>by
  rw [List.length_cons] at h
  rw [putL,putL_off l _ (k + 1) j (by omega),List.getElem?_set_ne (by omega)]
theorem putL_in:∀ (l b:List Int) (k j:Nat),j < l.length -> k + l.length <= b.length -> (putL b k l)[k + j]?=l[j]?
 | [],_,_,_,h,_=>absurd h (Nat.not_lt_zero _)
 | x :: l,b,k,0,h,hb=>by
  rw [List.length_cons] at hb
  rw [putL,putL_off l _ (k + 1) (k + 0) (by omega),Nat.add_zero,List.getElem?_set_self (by omega)]
  rfl
 | x :: l,b,k,j + 1,h,hb=>by
  rw [List.length_cons] at h hb
  rw [putL,show k + (j + 1)=(k + 1) + j by omega,putL_in l _ (k + 1) j (by omega) (by rw [List.length_set];omega),List.getElem?_cons_succ]
theorem sub_congr {b b':List Int} {a w:Nat} (h:∀ j,a <= j -> j < a + w -> b[j]?=b'[j]?):(b.drop a).take w=(b'.drop a).take w:=by
 refine List.ext_getElem? fun j=>?_
 rw [List.getElem?_take,List.getElem?_take]
 split
 ·rw [List.getElem?_drop,List.getElem?_drop];exact h _ (by omega) (by omega)
 ·rfl
theorem loadN_congr {b b':List Int} {a w:Nat} (h:∀ j,a <= j -> j < a + w -> b[j]?=b'[j]?):loadN b a w=loadN b' a w:=by
 unfold loadN;rw [sub_congr h]
theorem putL_sub {l b:List Int} {k i w:Nat} (h:k + l.length <= b.length) (hi:i + w <= l.length):((putL b k l).drop (k + i)).take w=(l.drop i).take w:=by
 refine List.ext_getElem? fun j=>?_
 rw [List.getElem?_take,List.getElem?_take]
 split
 ·rw [List.getElem?_drop,List.getElem?_drop,Nat.add_assoc,putL_in _ _ _ _ (by omega) h]
 ·rfl
theorem loadGo_snoc:∀ (l:List Int) (a x:Int),loadGo a (l ++ [x])=256 * loadGo a l + x
 | [],a,x=>rfl
 | y :: l,a,x=>by rw [List.cons_append,loadGo,loadGo_snoc l,loadGo]
theorem loadGo_fix:∀ (w:Nat) (n:Int),0 <= n -> n < 256 ^ w -> loadGo 0 (fixNs w n)=n
 | 0,n,h0,h1=>by
  rw [Int.pow_zero] at h1
  rw [fixNs,loadGo];omega
 | w + 1,n,h0,h1=>by
  rw [Int.pow_succ] at h1
  rw [fixNs,loadGo_snoc,loadGo_fix w (n / 256) (by omega) (by omega)]
  omega
theorem load_fix {b l:List Int} {k i w:Nat} {n:Int} (h:k + l.length <= b.length) (hi:i + w <= l.length) (he:(l.drop i).take w=fixNs w n) (h0:0 <= n) (h1:n < 256 ^ w):loadN (putL b k l) (k + i) w=n:=by
 rw [loadN,putL_sub h hi,he,loadGo_fix w n h0 h1]
theorem load_node {b:List Int} {k:Nat} {n:Node} (h:k + 10 <= b.length) (hn:nodeOkM n=true):loadNode (putL b k (nodeNs n)) k=n:=by
 obtain ⟨⟨a1,a2⟩,⟨b1,b2⟩,⟨c1,c2⟩⟩:=node_num hn
 have hl:=nodeNs_len n
 have e1:loadN (putL b k (nodeNs n)) k 2=n.Key:=by
  have:=load_fix (b:=b) (l:=nodeNs n) (k:=k) (i:=0) (w:=2) (n:=n.Key) (by omega) (by omega) (by rw [nodeNs,List.drop_zero,List.take_append_of_le_length (by rw [fixNs_len];omega),List.take_of_length_le (by rw [fixNs_len];omega)]) a1 (by omega)
  simpa using this
 have e2:loadN (putL b k (nodeNs n)) (k + 2) 4=n.Val:=by
  refine load_fix (by omega) (by omega) ?_ b1 (by omega)
  rw [nodeNs,List.drop_append_of_le_length (by rw [fixNs_len];omega),List.drop_of_length_le (by rw [fixNs_len];omega),List.nil_append,List.take_append_of_le_length (by rw [fixNs_len];omega),List.take_of_length_le (by rw [fixNs_len];omega)]
 have e3:loadN (putL b k (nodeNs n)) (k + 6) 4=n.Next:=by
  refine load_fix (by omega) (by omega) ?_ c1 (by omega)
  have:nodeNs n=(fixNs 2 n.Key ++ fixNs 4 n.Val) ++ fixNs 4 n.Next:=by rw [nodeNs,List.append_assoc]
  rw [this,List.drop_append_of_le_length (by simp [fixNs_len]),List.drop_of_length_le (by simp [fixNs_len]),List.nil_append,List.take_of_length_le (by rw [fixNs_len];omega)]
 rw [loadNode,e1,e2,e3]
theorem load_next {b:List Int} {k:Nat} {x:Int} (h:k + 10 <= b.length) (h0:0 <= x) (h1:x < 4294967296):loadNode (putL b (k + 6) (fixNs 4 x)) k=⟨(loadNode b k).Key,(loadNode b k).Val,x⟩:=by
 have hl:=fixNs_len 4 x
 have e1:loadN (putL b (k + 6) (fixNs 4 x)) k 2=loadN b k 2:=loadN_congr fun j _ _=>putL_off _ _ _ _ (by omega)
 have e2:loadN (putL b (k + 6) (fixNs 4 x)) (k + 2) 4=loadN b (k + 2) 4:=loadN_congr fun j _ _=>putL_off _ _ _ _ (by omega)
 have e3:loadN (putL b (k + 6) (fixNs 4 x)) (k + 6) 4=x:=by
  have:=load_fix (b:=b) (l:=fixNs 4 x) (k:=k + 6) (i:=0) (w:=4) (n:=x) (by omega) (by omega) (by rw [List.drop_zero,List.take_of_length_le (by omega)]) h0 (by omega)
  simpa using this
 rw [loadNode,e1,e2,e3,loadNode]
theorem gen_place {h:Heap} {s:Int} (hs:shapedM h=true) (hc:0 <= classInM h s):∃ q:Nat,q < 6 /\ s / 4=q /\ classInM h s=clsAt h q /\
  ((clsAt h q=0 /\ s % 4 < 4 /\ genAt s (classInM h s)=q * 64 + 8 + s % 4 * 12) \/ (clsAt h q=1 /\ s % 4 < 2 /\ genAt s (classInM h s)=q * 64 + 8 + s % 4 * 20) \/ (clsAt h q=2 /\ s % 4 < 1 /\ genAt s (classInM h s)=q * 64 + 8 + s % 4 * 44)):=by
 obtain ⟨h1,h2,h3,h4,h5,_⟩:=classInM_bound hs hc
 obtain ⟨_,_,hcc,_,hg,_⟩:=genAt_bound h5
 obtain ⟨q,hq⟩:∃ q:Nat,s / 4=q:=⟨(s / 4).toNat,by omega⟩
 have hcl:classInM h s=clsAt h q:=by
  have:classInM h s=clsN h s:=by
   unfold classInM at hc ⊢
   split at hc
   ·rename_i hx
    rw [if_pos hx]
   ·omega
  rw [this,clsN,hq,Int.toNat_natCast]
 refine ⟨q,by omega,hq,hcl,?_⟩
 rw [<- hcl]
 rcases hcc with e | e | e
 ·rw [e] at h3 hg ⊢;rw [p_0] at h3;rw [t_0] at hg
  exact .inl ⟨rfl,h3,by omega⟩
 ·rw [e] at h3 hg ⊢;rw [p_1] at h3;rw [t_1] at hg
  exact .inr (.inl ⟨rfl,h3,by omega⟩)
 ·rw [e] at h3 hg ⊢;rw [p_2] at h3;rw [t_2] at hg
  exact .inr (.inr ⟨rfl,h3,by omega⟩)
theorem node_place {h:Heap} {s:Int} (hs:shapedM h=true) (hn:hasNodeM h s=true):∃ q:Nat,q < 6 /\ s / 4=q /\
  ((clsAt h q=1 /\ s % 4 < 2 /\ startM h s=q * 64 + 12 + s % 4 * 20) \/ (clsAt h q=2 /\ s % 4 < 1 /\ startM h s=q * 64 + 12 + s % 4 * 44)):=by
 obtain ⟨hc,h0,_,_⟩:=start_bound hs hn
 obtain ⟨q,hq,hsq,hcl,hp⟩:=gen_place hs hc
 have hst:startM h s=genAt s (classInM h s) + 4:=by
  have hb:=classInM_bound hs hc
  rw [startM,startOf,if_neg (by omega)]
 refine ⟨q,hq,hsq,?_⟩
 rcases hp with ⟨e,h1,h2⟩ | ⟨e,h1,h2⟩ | ⟨e,h1,h2⟩
 ·exfalso
  have:=of_decide_eq_true hn
  rw [hcl,e,s_0] at this
  omega
 ·exact .inl ⟨e,h1,by omega⟩
 ·exact .inr ⟨e,h1,by omega⟩
def NodeW (h:Heap) (s:Int) (k:Nat) (l:List Int):Prop:=(startM h s).toNat <= k /\ k + l.length <= (startM h s).toNat + 10 /\ ∀ x ∈ l,0 <= x /\ x < 256
theorem class_set (h:Heap) (b:List Int) (s:Int):classInM ⟨b,h.Class⟩ s=classInM h s:=rfl
theorem start_set (h:Heap) (b:List Int) (s:Int):startM ⟨b,h.Class⟩ s=startM h s:=rfl
theorem has_set (h:Heap) (b:List Int) (s:Int):hasNodeM ⟨b,h.Class⟩ s=hasNodeM h s:=rfl
theorem gen_set {h:Heap} {s:Int} {k:Nat} {l:List Int} (hs:shapedM h=true) (hn:hasNodeM h s=true) (hw:NodeW h s k l) (t:Int) (hc:0 <= classInM h t):genInM ⟨putL h.Bytes k l,h.Class⟩ t=genInM h t:=by
 obtain ⟨q,hq,hsq,hp⟩:=node_place hs hn
 obtain ⟨r,hr,htr,_,hg⟩:=gen_place hs hc
 unfold genInM
 rw [class_set]
 refine loadN_congr fun j hj1 hj2=>putL_off _ _ _ _ ?_
 obtain ⟨w1,w2,_⟩:=hw
 by_cases he:q=r
 ·subst he
  rcases hp with ⟨e,h1,h2⟩ | ⟨e,h1,h2⟩ <;> rcases hg with ⟨f,g1,g2⟩ | ⟨f,g1,g2⟩ | ⟨f,g1,g2⟩ <;> omega
 ·rcases hp with ⟨e,h1,h2⟩ | ⟨e,h1,h2⟩ <;> rcases hg with ⟨f,g1,g2⟩ | ⟨f,g1,g2⟩ | ⟨f,g1,g2⟩ <;> omega
theorem node_set {h:Heap} {s t:Int} {k:Nat} {l:List Int} (hs:shapedM h=true) (hn:hasNodeM h s=true) (hw:NodeW h s k l) (ht:hasNodeM h t=true) (hne:s ≠ t):nodeInM ⟨putL h.Bytes k l,h.Class⟩ t=nodeInM h t:=by
 obtain ⟨q,hq,hsq,hp⟩:=node_place hs hn
 obtain ⟨r,hr,htr,hg⟩:=node_place hs ht
 obtain ⟨_,_,_,st⟩:=start_bound hs ht
 obtain ⟨w1,w2,_⟩:=hw
 have key:∀ j,(startM h t).toNat <= j -> j < (startM h t).toNat + 10 -> (putL h.Bytes k l)[j]?=h.Bytes[j]?:=fun j hj1 hj2=>putL_off _ _ _ _ (by
  by_cases he:q=r
  ·subst he
   rcases hp with ⟨e,h1,h2⟩ | ⟨e,h1,h2⟩ <;> rcases hg with ⟨f,g1,g2⟩ | ⟨f,g1,g2⟩ <;> omega
  ·rcases hp with ⟨e,h1,h2⟩ | ⟨e,h1,h2⟩ <;> rcases hg with ⟨f,g1,g2⟩ | ⟨f,g1,g2⟩ <;> omega)
 unfold nodeInM loadNode
 rw [start_set]
 rw [loadN_congr (fun j h1 h2=>key j (by omega) (by omega)),loadN_congr (fun j h1 h2=>key j (by omega) (by omega)),loadN_congr (fun j h1 h2=>key j (by omega) (by omega))]
theorem getD_off {l b:List Int} {k j:Nat} (h:j < k \/ k + l.length <= j):(putL b k l).getD j 0=b.getD j 0:=by
 rw [List.getD_eq_getElem?_getD,List.getD_eq_getElem?_getD,putL_off _ _ _ _ h]
theorem page_set {h:Heap} {s:Int} {k:Nat} {l:List Int} (hs:shapedM h=true) (hn:hasNodeM h s=true) (hw:NodeW h s k l) (p:Nat) (hp6:p < 6):pageOkM ⟨putL h.Bytes k l,h.Class⟩ p=pageOkM h p:=by
 obtain ⟨q,hq,hsq,hp⟩:=node_place hs hn
 obtain ⟨w1,w2,_⟩:=hw
 obtain ⟨_,_,_,hst⟩:=start_bound hs hn
 have h0:∀ j,p * 64 <= j -> j < p * 64 + 8 -> j < k \/ k + l.length <= j:=fun j hj1 hj2=>by
  rcases Nat.lt_trichotomy p q with hpq | hpq | hpq <;> rcases hp with ⟨e,h1,h2⟩ | ⟨e,h1,h2⟩ <;> omega
 have hcl:clsAt ⟨putL h.Bytes k l,h.Class⟩ p=clsAt h p:=rfl
 have hhd:headOkM ⟨putL h.Bytes k l,h.Class⟩ p=headOkM h p:=by
  unfold headOkM
  rw [hcl]
  show (((putL h.Bytes k l).getD (p * 64) 0 == 171) && ((putL h.Bytes k l).getD (p * 64 + 1) 0 == clsAt h p) && ((putL h.Bytes k l).getD (p * 64 + 2) 0 == perPage (clsAt h p)) && (((putL h.Bytes k l).drop (p * 64 + 3)).take 5).all (fun x=>x == 0))=_
  rw [getD_off (h0 _ (by omega) (by omega)),getD_off (h0 _ (by omega) (by omega)),getD_off (h0 _ (by omega) (by omega)),sub_congr (fun j h1 h2=>putL_off _ _ _ _ (h0 j (by omega) (by omega)))]
 unfold pageOkM
 rw [hcl,hhd]
 by_cases he:q=p
 ·subst he
  have hpos:decide (clsAt h q < 0)=false:=decide_eq_false (by rcases hp with ⟨e,_⟩ | ⟨e,_⟩ <;> omega)
  rw [hpos,cond_false,cond_false]
  have hg:pageGens ⟨putL h.Bytes k l,h.Class⟩ q (clsAt h q)=pageGens h q (clsAt h q):=by
   unfold pageGens
   rw [Bool.eq_iff_iff,List.all_eq_true,List.all_eq_true]
   refine forall_congr' fun i=>forall_congr' fun hi=>?_
   rw [List.mem_range] at hi
   show within (loadN (putL h.Bytes k l) (q * 64 + 8 + i * (strideOf (clsAt h q)).toNat) 4) 1 7=true ↔ _
   rw [loadN_congr (b:=putL h.Bytes k l) (b':=h.Bytes) fun j h1 h2=>putL_off _ _ _ _ ?_]
   rcases hp with ⟨e,g1,g2⟩ | ⟨e,g1,g2⟩
   ·rw [e,p_1] at hi
    rw [e,t_1] at h1 h2
    simp at hi h1 h2
    omega
   ·rw [e,p_2] at hi
    rw [e,t_2] at h1 h2
    simp at hi h1 h2
    omega
  rw [hg]
 ·have h9:∀ j,p * 64 <= j -> j < p * 64 + 64 -> j < k \/ k + l.length <= j:=fun j hj1 hj2=>by
   rcases hp with ⟨e,h1,h2⟩ | ⟨e,h1,h2⟩ <;> omega
  have hpg:pg ⟨putL h.Bytes k l,h.Class⟩ p=pg h p:=by
   unfold pg
   exact sub_congr fun j h1 h2=>putL_off _ _ _ _ (h9 j h1 h2)
  have hg:pageGens ⟨putL h.Bytes k l,h.Class⟩ p (clsAt h p)=pageGens h p (clsAt h p):=by
   unfold pageGens
   rw [Bool.eq_iff_iff,List.all_eq_true,List.all_eq_true]
   refine forall_congr' fun i=>forall_congr' fun hi=>?_
   rw [List.mem_range] at hi
   obtain ⟨kk,tt,e1,e2,hk4,ht44,hb⟩:=page_nums (clsAt h p)
   rw [e1,Int.toNat_natCast] at hi
   have hbi:=hb i hi
   show within (loadN (putL h.Bytes k l) (p * 64 + 8 + i * (strideOf (clsAt h p)).toNat) 4) 1 7=true ↔ _
   rw [e2,Int.toNat_natCast,loadN_congr (b:=putL h.Bytes k l) (b':=h.Bytes) fun j h1 h2=>putL_off _ _ _ _ (h9 j (by omega) (by omega))]
  rw [hpg,hg]
theorem memSet_ok {m:Mem} {s:Int} {k:Nat} {l:List Int} (hm:memOk m=true) (hn:hasNodeM m.Heap s=true) (hw:NodeW m.Heap s k l):memOk (setBytes m (putL m.Heap.Bytes k l))=true:=by
 obtain ⟨hh,hl,hs⟩:=memOk_heap hm
 have hsh:shapedM (setBytes m (putL m.Heap.Bytes k l)).Heap=true:=setBytes_shaped hs (putL_len ..) (putL_byte _ _ _ (shaped_iff hs).2.1 hw.2.2)
 have hho:heapOk (setBytes m (putL m.Heap.Bytes k l)).Heap=true:=heapOk_true hsh fun p hp=>by
  show pageOkM ⟨putL m.Heap.Bytes k l,m.Heap.Class⟩ p=true
  rw [page_set hs hn hw p hp]
  simp only [heapOk,Bool.and_eq_true,List.all_eq_true,List.mem_range] at hh
  exact hh.2 p hp
 have hf:∀ (x:List Int) (c:Int),0 <= c -> listFitsM (setBytes m (putL m.Heap.Bytes k l)).Heap x c=listFitsM m.Heap x c:=fun x c hc=>by
  unfold listFitsM
  rw [Bool.eq_iff_iff,List.all_eq_true,List.all_eq_true]
  refine forall_congr' fun y=>forall_congr' fun _=>?_
  show (classInM m.Heap y == c && decide (genInM ⟨putL m.Heap.Bytes k l,m.Heap.Class⟩ y <= 6))=true ↔ _
  by_cases hy:classInM m.Heap y=c
  ·rw [gen_set hs hn hw y (by omega)]
  ·have:(classInM m.Heap y == c)=false:=by simp [hy]
   rw [this,Bool.false_and,Bool.false_and]
 simp only [memOk,Bool.and_eq_true,List.all_eq_true,List.mem_range] at hm ⊢
 refine ⟨⟨⟨hho,hl⟩,fun j hj=>?_⟩,fun j hj=>?_⟩
 ·have:=hm.1.2 j hj
  unfold globFits at this ⊢
  rw [hf _ _ (by omega)];exact this
 ·have:=hm.2 j hj
  unfold ownFits at this ⊢
  rw [hf _ _ (by omega)];exact this
theorem state_set {m:Mem} {s:Int} {k:Nat} {l:List Int} (hs:shapedM m.Heap=true) (hn:hasNodeM m.Heap s=true) (hw:NodeW m.Heap s k l) (t:Int):stateM (setBytes m (putL m.Heap.Bytes k l)) t=stateM m t:=by
 unfold stateM
 show (if classInM m.Heap t < 0 then (0:Int) else if onListM m.Lists t=true then 1 else if 6 < genInM ⟨putL m.Heap.Bytes k l,m.Heap.Class⟩ t then 2 else 3)=_
 split
 ·rfl
 ·rw [gen_set hs hn hw t (by omega)]
theorem live_set {m:Mem} {s:Int} {k:Nat} {l:List Int} (hs:shapedM m.Heap=true) (hn:hasNodeM m.Heap s=true) (hw:NodeW m.Heap s k l) (h:Int):isLiveM (setBytes m (putL m.Heap.Bytes k l)) h=isLiveM m h:=by
 unfold isLiveM
 rw [state_set hs hn hw]
 by_cases hc:0 <= classInM m.Heap (h % 32)
 ·rw [show genInM (setBytes m (putL m.Heap.Bytes k l)).Heap (h % 32)=genInM m.Heap (h % 32) from gen_set hs hn hw _ hc]
 ·have:(stateM m (h % 32) == 3)=false:=by
   unfold stateM
   rw [if_pos (by omega)];rfl
  rw [this,Bool.and_false,Bool.false_and,Bool.false_and]
theorem nodeW_put {m:Mem} {s:Int} (n:Node):NodeW m.Heap s (startM m.Heap s).toNat (nodeNs n):=by
 refine ⟨Nat.le_refl _,by rw [nodeNs_len];exact Nat.le_refl _,fun x hx=>?_⟩
 unfold nodeNs at hx
 rcases List.mem_append.1 hx with hx | hx
 ·exact fixNs_in _ _ x hx
 ·rcases List.mem_append.1 hx with hx | hx <;> exact fixNs_in _ _ x hx
theorem nodeW_next {m:Mem} {s:Int} (x:Int):NodeW m.Heap s ((startM m.Heap s).toNat + 6) (fixNs 4 x) :=
 ⟨by omega,by rw [fixNs_len];omega,fixNs_in 4 x⟩
structure Wrote (m m':Mem) (h:Int) (n:Node):Prop where
 ok:memOk m'=true
 live:∀ x,isLiveM m' x=isLiveM m x
 has:∀ s,hasNodeM m'.Heap s=hasNodeM m.Heap s
 at':nodeOf m' h=n
 other:∀ x,isLiveM m x=true -> hasNodeM m.Heap (x % 32)=true -> x ≠ h -> nodeOf m' x=nodeOf m x
theorem live_slot {m:Mem} {x h:Int} (hx:isLiveM m x=true) (hh:isLiveM m h=true) (hne:x ≠ h):h % 32 ≠ x % 32:=fun e=>by
 obtain ⟨_,_,a⟩:=live_iff hx
 obtain ⟨_,_,b⟩:=live_iff hh
 rw [e] at b
 omega
theorem nodePut_wrote {m:Mem} {h:Int} {n:Node} (h0:(nodePutM m h n).2=0):memOk m=true /\ nodeOkM n=true /\ isLiveM m h=true /\ hasNodeM m.Heap (h % 32)=true /\ Wrote m (nodePutM m h n).1 h n:=by
 unfold nodePutM at h0 ⊢
 split at h0
 ·rename_i hok
  rw [if_pos hok]
  simp only [Bool.and_eq_true] at hok
  split at h0
  ·rename_i hl
   rw [if_pos hl]
   split at h0
   ·rename_i hn
    rw [if_pos hn]
    obtain ⟨_,_,hs⟩:=memOk_heap hok.1
    refine ⟨hok.1,hok.2,hl,hn,memSet_ok hok.1 hn (nodeW_put n),fun x=>live_set hs hn (nodeW_put n) x,fun s=>rfl,?_,fun x hx hxn hne=>node_set hs hn (nodeW_put n) hxn (live_slot hx hl hne)⟩
    obtain ⟨_,b2,b3,b4⟩:=start_bound hs hn
    exact load_node (by have:=(shaped_iff hs).1;omega) hok.2
   ·cases h0
  ·cases h0
 ·cases h0
theorem nextTo_wrote {m:Mem} {h x:Int} (h0:(nextToM m h x).2=0):memOk m=true /\ isLink x=true /\ isLiveM m h=true /\ hasNodeM m.Heap (h % 32)=true /\ Wrote m (nextToM m h x).1 h ⟨(nodeOf m h).Key,(nodeOf m h).Val,x⟩:=by
 unfold nextToM at h0 ⊢
 split at h0
 ·rename_i hok
  rw [if_pos hok]
  simp only [Bool.and_eq_true] at hok
  split at h0
  ·rename_i hl
   rw [if_pos hl]
   split at h0
   ·rename_i hn
    rw [if_pos hn]
    obtain ⟨_,_,hs⟩:=memOk_heap hok.1
    refine ⟨hok.1,hok.2,hl,hn,memSet_ok hok.1 hn (nodeW_next x),fun y=>live_set hs hn (nodeW_next x) y,fun s=>rfl,?_,fun y hy hyn hne=>node_set hs hn (nodeW_next x) hyn (live_slot hy hl hne)⟩
    obtain ⟨_,b2,b3,b4⟩:=start_bound hs hn
    have hx:=link_num hok.2
    exact load_next (by have:=(shaped_iff hs).1;omega) hx.1 (by omega)
   ·cases h0
  ·cases h0
 ·cases h0
theorem nextTo_yes {m:Mem} {h x:Int} (hm:memOk m=true) (hx:isLink x=true) (hl:isLiveM m h=true) (hn:hasNodeM m.Heap (h % 32)=true):(nextToM m h x).2=0:=by
 unfold nextToM
 rw [if_pos (by rw [hm,hx];rfl),if_pos hl,if_pos hn]
theorem nodeAt_yes {m:Mem} {h:Int} (hm:memOk m=true) (hl:isLiveM m h=true) (hn:hasNodeM m.Heap (h % 32)=true):nodeAtM m h=(nodeOf m h,0):=by
 obtain ⟨h1,h2,_⟩:=live_iff hl
 have hc:=state3_class h2
 have hsp:spotM m h=(startM m.Heap (h % 32),0):=by
  unfold spotM
  rw [if_pos ⟨h1,hc⟩,if_pos hn]
 unfold nodeAtM
 rw [if_pos hm,hsp]
 rfl
inductive Path (m:Mem):Int -> List Int -> Prop
 | nil:Path m 0 []
 | cons {h:Int} {l:List Int}:h ≠ 0 -> isLiveM m h=true -> hasNodeM m.Heap (h % 32)=true -> nodeOkM (nodeOf m h)=true -> Path m (nodeOf m h).Next l -> Path m h (h :: l)
theorem path_of {m:Mem}:∀ (f:Nat) (h:Int) (o l:List Int),chainGo m f h o=some l -> ∃ r,l=o ++ r /\ Path m h r /\ r.Nodup /\ ∀ x ∈ r,x ∉ o
 | f,h,o,l,e=>by
  by_cases h0:h=0
  ·subst h0
   rw [chainGo_zero] at e
   cases e
   exact ⟨[],by simp,.nil,List.nodup_nil,by simp⟩
  ·cases f with
   | zero =>
    unfold chainGo at e
    rw [if_neg h0] at e
    cases e
   | succ f =>
    cases hb:stepOk m h o with
    | false =>
     rw [chainGo_bad h0 hb] at e
     cases e
    | true =>
     rw [chainGo_step h0 hb] at e
     obtain ⟨r,hr,hp,hn,hx⟩:=path_of f _ _ _ e
     obtain ⟨s1,s2,s3,s4⟩:=stepOk_iff hb
     refine ⟨h :: r,by rw [hr,List.append_assoc];rfl,.cons h0 s1 s2 s4 hp,List.nodup_cons.2 ⟨fun hm=>hx h hm (by simp),hn⟩,fun x hm=>?_⟩
     rcases List.mem_cons.1 hm with rfl | hm
     ·exact s3
     ·exact fun ho=>hx x hm (by simp [ho])
theorem path_go {m:Mem}:∀ (f:Nat) (h:Int) (o r:List Int),Path m h r -> r.length <= f -> r.Nodup -> (∀ x ∈ r,x ∉ o) -> chainGo m f h o=some (o ++ r)
 | f,_,o,_,.nil,_,_,_=>by rw [chainGo_zero,List.append_nil]
 | 0,_,o,_,.cons _ _ _ _ _,hl,_,_=>by simp at hl
 | f + 1,h,o,_,.cons (l:=l) h0 h1 h2 h3 hp,hl,hn,hx=>by
  rw [List.nodup_cons] at hn
  have hs:stepOk m h o=true:=by
   simp only [stepOk,h1,h2,h3,Bool.true_and,Bool.and_true,Bool.not_eq_true',List.any_eq_false,beq_iff_eq]
   exact fun y hy e=>hx h (by simp) (e ▸ hy)
  rw [chainGo_step h0 hs,path_go f _ _ _ hp (by simpa using hl) hn.2 (fun x hm hm2=>?_),List.append_assoc]
  ·rfl
  ·rcases List.mem_append.1 hm2 with h4 | h4
   ·exact hx x (by simp [hm]) h4
   ·rw [List.mem_singleton.1 h4] at hm
    exact hn.1 hm
theorem path_mem {m:Mem}:∀ {h:Int} {l:List Int},Path m h l -> ∀ x ∈ l,x ≠ 0 /\ isLiveM m x=true /\ hasNodeM m.Heap (x % 32)=true /\ nodeOkM (nodeOf m x)=true
 | _,_,.nil,x,h=>by cases h
 | _,_,.cons h0 h1 h2 h3 hp,x,h=>by
  rcases List.mem_cons.1 h with rfl | h
  ·exact ⟨h0,h1,h2,h3⟩
  ·exact path_mem hp x h
theorem path_good {m:Mem} {h:Int} {l:List Int} (hp:Path m h l) (hn:l.Nodup):Good m l:=⟨hn,fun x hx=>(path_mem hp x hx).2⟩
theorem chain_path {m:Mem} {h:Int} {l:List Int} (hm:memOk m=true) (hp:Path m h l) (hn:l.Nodup):chainR m h=(l,true):=by
 have:=good_len (path_good hp hn)
 unfold chainR
 rw [if_pos hm,path_go 25 h [] l hp (by omega) hn (by simp)]
 rfl
theorem path_chain {m:Mem} {h:Int} (hc:(chainR m h).2=true):memOk m=true /\ Path m h (chainR m h).1 /\ (chainR m h).1.Nodup:=by
 obtain ⟨hm,hg⟩:=chain_first hc
 obtain ⟨r,hr,hp,hn,_⟩:=path_of _ _ _ _ hg
 rw [List.nil_append] at hr
 rw [hr]
 exact ⟨hm,hp,hn⟩
theorem path_keep {m m':Mem} {h:Int} {n:Node} (hw:Wrote m m' h n):∀ {a:Int} {l:List Int},Path m a l -> h ∉ l -> Path m' a l
 | _,_,.nil,_=>.nil
 | _,_,.cons (h:=x) h0 h1 h2 h3 hp,hx=>by
  have hne:x ≠ h:=fun e=>hx (by simp [e])
  have ho:=hw.other x h1 h2 hne
  refine .cons h0 (by rw [hw.live];exact h1) (by rw [hw.has];exact h2) (by rw [ho];exact h3) ?_
  rw [ho]
  exact path_keep hw hp fun hm=>hx (by simp [hm])
theorem path_tail {m:Mem} {a h:Int} {l:List Int} (hp:Path m a (h :: l)):a=h /\ Path m (nodeOf m h).Next l:=by
 cases hp
 exact ⟨rfl,by assumption⟩
theorem path_skip {m m':Mem} {p h:Int} (hw:Wrote m m' p ⟨(nodeOf m p).Key,(nodeOf m p).Val,(nodeOf m h).Next⟩) (hl:isLink (nodeOf m h).Next=true):∀ {pre:List Int} {a:Int} {post:List Int},Path m a (pre ++ p :: h :: post) -> (pre ++ p :: h :: post).Nodup -> Path m' a (pre ++ p :: post)
 | [],_,post,.cons h0 h1 h2 h3 hq,hn=>by
  have hp:=(path_tail hq).2
  rw [List.nil_append,List.nodup_cons,List.nodup_cons] at hn
  have hok:nodeOkM (nodeOf m' p)=true:=by
   rw [hw.at']
   simp only [nodeOkM,nodeOk,Bool.and_eq_true] at h3 ⊢
   exact ⟨h3.1,hl⟩
  refine .cons h0 (by rw [hw.live];exact h1) (by rw [hw.has];exact h2) hok ?_
  rw [hw.at']
  exact path_keep hw hp fun hm=>hn.1 (by simp [hm])
 | x :: pre,_,post,.cons h0 h1 h2 h3 hp,hn=>by
  rw [List.cons_append,List.nodup_cons] at hn
  have hne:x ≠ p:=fun e=>hn.1 (by simp [e])
  have ho:=hw.other x h1 h2 hne
  refine .cons h0 (by rw [hw.live];exact h1) (by rw [hw.has];exact h2) (by rw [ho];exact h3) ?_
  rw [ho]
  exact path_skip hw hl hp hn.2
theorem any_mem {l:List Int} {h:Int}:(l.any fun y=>y == h)=true ↔ h ∈ l:=by rw [<- any_has,decide_eq_true_eq]
theorem live_link {m:Mem} {h:Int} (hl:isLiveM m h=true):h ≠ 0 /\ isLink h=true:=by
 have h1:=(live_iff hl).1
 have:=(handleOk_iff h).1 h1
 exact ⟨by omega,by unfold isLink;rw [h1,Bool.or_true]⟩
theorem node_link {x:Node} (h:nodeOkM x=true):isLink x.Next=true:=by
 simp only [nodeOkM,nodeOk,Bool.and_eq_true] at h
 exact h.2
theorem linkIn_yes {m:Mem} {b:Bkt} {h:Int} (hi:(linkInM m b h).2.2=true):bktB b=true /\ memOk (linkInM m b h).1=true /\ (linkInM m b h).2.1=⟨h,b.Ver,b.Lock⟩ /\ isLink h=true /\ (nodeOf (linkInM m b h).1 h).Next=b.Head /\
  Path (linkInM m b h).1 h (h :: (chainR m b.Head).1) /\ (h :: (chainR m b.Head).1).Nodup:=by
 unfold linkInM at hi ⊢
 split at hi
 ·rename_i h1
  rw [if_pos h1]
  split at hi
  ·rename_i h2
   rw [if_pos h2]
   rw [Bool.and_eq_true,Bool.and_eq_true,Bool.not_eq_true'] at h1
   rw [Bool.and_eq_true,beq_iff_eq] at h2
   obtain ⟨hc,hb,hno⟩:=h1
   obtain ⟨h0,hk⟩:=h2
   obtain ⟨hm,hl,hv,hn,hw⟩:=nextTo_wrote h0
   obtain ⟨_,hp,hnd⟩:=path_chain hc
   have hnm:h ∉ (chainR m b.Head).1:=fun hx=>by
    rw [any_mem.2 hx] at hno;cases hno
   obtain ⟨hz,hlk⟩:=live_link hv
   have hnx:(nodeOf (nextToM m h b.Head).1 h).Next=b.Head:=by rw [hw.at']
   refine ⟨hb,hw.ok,rfl,hlk,hnx,.cons hz (by rw [hw.live];exact hv) (by rw [hw.has];exact hn) hk ?_,List.nodup_cons.2 ⟨hnm,hnd⟩⟩
   rw [hnx]
   exact path_keep hw hp hnm
  ·cases hi
 ·cases hi
theorem linkIn_chain {m:Mem} {b:Bkt} {h:Int} (hi:(linkInM m b h).2.2=true) :
  chainR (linkInM m b h).1 (linkInM m b h).2.1.Head=(h :: (chainR m b.Head).1,true) /\
  (unlinkM (linkInM m b h).1 (linkInM m b h).2.1 h).2.2=true /\
  chainR (unlinkM (linkInM m b h).1 (linkInM m b h).2.1 h).1 (unlinkM (linkInM m b h).1 (linkInM m b h).2.1 h).2.1.Head=((chainR m b.Head).1,true) /\
  (unlinkM (linkInM m b h).1 (linkInM m b h).2.1 h).2.1.Head=b.Head:=by
 obtain ⟨hb,hm,ha,hlk,hnx,hp,hnd⟩:=linkIn_yes hi
 have hc:chainR (linkInM m b h).1 (linkInM m b h).2.1.Head=(h :: (chainR m b.Head).1,true):=by
  rw [ha];exact chain_path hm hp hnd
 have hu:unlinkM (linkInM m b h).1 (linkInM m b h).2.1 h=((linkInM m b h).1,⟨(nodeOf (linkInM m b h).1 h).Next,b.Ver,b.Lock⟩,true):=by
  unfold unlinkM
  have hb':bktB (linkInM m b h).2.1=true:=by
   rw [ha]
   simp only [bktB,bktOk,Bool.and_eq_true] at hb ⊢
   exact ⟨⟨hlk,hb.1.2⟩,hb.2⟩
  rw [if_pos (by rw [hc,hb'];simp),if_pos (by rw [ha])]
  rw [ha]
 refine ⟨hc,by rw [hu],?_,by rw [hu];exact hnx⟩
 rw [hu]
 show chainR (linkInM m b h).1 (nodeOf (linkInM m b h).1 h).Next=_
 exact chain_path hm (path_tail hp).2 (List.nodup_cons.1 hnd).2
theorem chain_no {m:Mem} {h:Int} (hc:(chainR m h).2=false):(chainR m h).1=[]:=by
 unfold chainR at hc ⊢
 split
 ·rename_i hm
  rw [if_pos hm] at hc
  split at hc
  ·cases hc
  ·rfl
 ·rfl
theorem unlink_no {m:Mem} {b:Bkt} {h:Int} (hi:(unlinkM m b h).2.2=false):(unlinkM m b h).1=m /\ (unlinkM m b h).2.1=b /\ (h ∉ (chainR m b.Head).1 \/ bktB b=false):=by
 unfold unlinkM at hi ⊢
 split at hi
 ·split at hi <;> cases hi
 ·rename_i h1
  rw [if_neg h1]
  refine ⟨rfl,rfl,?_⟩
  cases hc:(chainR m b.Head).2 with
  | false=>rw [chain_no hc];exact .inl (by simp)
  | true =>
   cases hb:bktB b with
   | false=>exact .inr rfl
   | true =>
    rw [hc,hb,Bool.true_and,Bool.true_and] at h1
    exact .inl fun hx=>h1 (any_mem.2 hx)
theorem find_split {l:List Int} {h:Int} (hm:h ∈ l):∃ pre post,l=pre ++ h :: post /\ h ∉ pre /\ l.findIdx (fun y=>y == h)=pre.length:=by
 induction l with
 | nil=>cases hm
 | cons x l ih =>
  by_cases he:x=h
  ·exact ⟨[],l,by rw [he];rfl,by simp,by rw [he,List.findIdx_cons];simp⟩
  ·have hm:h ∈ l:=by
    rcases List.mem_cons.1 hm with e | e
    ·exact absurd e.symm he
    ·exact e
   obtain ⟨pre,post,h1,h2,h3⟩:=ih hm
   refine ⟨x :: pre,post,by rw [h1];rfl,fun hx=>?_,?_⟩
   ·rcases List.mem_cons.1 hx with e | e
    ·exact he e.symm
    ·exact h2 e
   ·have:(x == h)=false:=by simp [he]
    rw [List.findIdx_cons,this,cond_false,h3];rfl
theorem unlink_yes {m:Mem} {b:Bkt} {h:Int} (hi:(unlinkM m b h).2.2=true):∃ r,chainR (unlinkM m b h).1 (unlinkM m b h).2.1.Head=(r,true) /\ h ∉ r /\ r.length + 1=(chainR m b.Head).1.length /\ h ∈ (chainR m b.Head).1:=by
 unfold unlinkM at hi ⊢
 split at hi
 ·rename_i h1
  rw [if_pos h1]
  rw [Bool.and_eq_true,Bool.and_eq_true] at h1
  obtain ⟨hc,hb,hx⟩:=h1
  have hx:=any_mem.1 hx
  obtain ⟨hm,hp,hnd⟩:=path_chain hc
  obtain ⟨pre,post,hl,hpre,hix⟩:=find_split hx
  rw [hix]
  rw [hl] at hp hnd ⊢
  by_cases hh:b.Head=h
  ·rw [if_pos hh]
   have hpn:pre=[]:=by
    cases pre with
    | nil=>rfl
    | cons y pre =>
     have:=(path_tail hp).1
     exact absurd (by simp [<- this,hh]) hpre
   subst hpn
   rw [List.nil_append] at hp hnd ⊢
   have hn2:=List.nodup_cons.1 hnd
   exact ⟨post,chain_path hm (path_tail hp).2 hn2.2,hn2.1,rfl,by simp⟩
  ·rw [if_neg hh]
   rcases List.eq_nil_or_concat pre with hpn | ⟨pr,p,hpn⟩
   ·subst hpn
    exact absurd (path_tail hp).1 hh
   ·rw [List.concat_eq_append] at hpn
    subst hpn
    rw [List.append_assoc,List.singleton_append] at hp hnd ⊢
    have hpp:(pr ++ p :: h :: post).getD ((pr ++ [p]).length - 1) 0=p:=by
     rw [List.length_append,List.length_singleton,Nat.add_sub_cancel,List.getD_eq_getElem?_getD,List.getElem?_append_right (Nat.le_refl _),Nat.sub_self]
     rfl
    rw [hpp]
    obtain ⟨_,hv,hn,_⟩:=path_mem hp p (by simp)
    obtain ⟨_,_,_,hk⟩:=path_mem hp h (by simp)
    have hw:=(nextTo_wrote (nextTo_yes hm (node_link hk) hv hn)).2.2.2.2
    have hp2:=path_skip hw (node_link hk) hp hnd
    have hnd2:(pr ++ p :: post).Nodup /\ h ∉ pr ++ p :: post:=by
     have h2:(pr ++ [p]) ++ h :: post=pr ++ p :: h :: post:=by simp
     rw [<- h2] at hnd
     obtain ⟨n1,n2,n3⟩:=List.nodup_append.1 hnd
     rw [List.nodup_cons] at n2
     have h3:pr ++ p :: post=(pr ++ [p]) ++ post:=by simp
     rw [h3]
     exact ⟨List.nodup_append.2 ⟨n1,n2.2,fun a ha c hc=>n3 a ha c (by simp [hc])⟩,fun hy=>by
      rcases List.mem_append.1 hy with hy | hy
      ·exact n3 h hy h (by simp) rfl
      ·exact n2.1 hy⟩
    exact ⟨pr ++ p :: post,chain_path hw.ok hp2 hnd2.1,hnd2.2,by simp;omega,by simp⟩
 ·cases hi
def Rpop0 (r:AV) (xs:List AObj):Prop:=r=.tup [.agg [.own 1],.one (.dat (.int .i64 (-1)))] /\ xs=[.vec 1 true []]
def Rpop1 (l:List Int) (z:Int) (r:AV) (xs:List AObj):Prop:=r=.tup [.agg [.own 2],.one (.dat (.int .i64 z))] /\ xs=[.dead,.vec 1 true (l.map encI)]
theorem c269_0:CtrC prog 269 [.agg [.own 1]] [.vec 1 true []] Rpop0:=by
 refine CtrC.body mixed func269 rfl (fun bl=>?_) ?_
 ·refine sv3 ?_
  refine FinCN.nt results269 [1] (.tup [.agg [.own 1],.one (.dat (.int .i64 (-1)))]) [.vec 1 true []] (⟨rfl,rfl⟩) ?_ ?_ ?_ <;> try trivial
  all_goals exact entd
 ·exact ⟨_,_,⟨rfl,rfl⟩,by simp⟩
theorem c269_1 (l0:List Int) (z:Int) (hl:(l0 ++ [z]).length <= 1048576):CtrC prog 269 [.agg [.own 1]] [.vec 1 true ((l0 ++ [z]).map encI)] (Rpop1 l0 z):=by
 have hmx:maxLen=9223372036854775807:=rfl
 refine CtrC.body mixed func269 rfl (fun bl=>?_) ?_
 ·have hle:(l0 ++ [z]).length=l0.length + 1:=by simp
  have hw:IntKind.i64.wrap (((l0 ++ [z]).length:Int) - 1)=(l0.length:Int):=by rw [wrap_id (by omega) (by omega)];omega
  have hg:((l0 ++ [z]).map encI).getD l0.length []=[.int .i64 z]:=by
   rw [getD_map (by omega)];simp [encI]
  have hd:((((l0 ++ [z]).length:Int)) == 0)=false:=by rw [beq_eq_false_iff_ne];omega
  simp (maxSteps:=2000000) only [go_sem,seval,hw,hd,hg]
  refine FloatR_intro [(0,[]),(1,[]),(2,[]),(3,[]),(4,[]),(5,[]),(6,[]),(7,[]),(8,[]),(9,[]),(10,[]),(11,[]),(12,[6,7,8,9,10,11]),(13,[])] (by kernel_rfl) ?_
  simp (maxSteps:=2000000) only [go_sem,seval,hw,hd,hg]
  refine ⟨⟨by omega,by omega⟩,⟨by omega,by omega⟩,⟨by omega,by simp [D.flat]⟩,⟨⟨by omega,by omega⟩,by omega,by simp [D.flat]⟩,?_⟩
  refine FinCN.ent (Ent.partBox (k:=3) (j:=0) (o:=1) rfl rfl rfl ?_ ?_) ?_
  ·intro r hr d hd
   obtain ⟨y,_,rfl⟩:=List.mem_map.1 hr
   simp only [encI,List.mem_cons,List.not_mem_nil,or_false] at hd
   subst hd;rfl
  ·simp
  refine sv3 ?_
  have hdl:((l0 ++ [z]).map encI).take l0.length=l0.map encI:=by simp
  refine FinCN.nt results269 [1,4] (.tup [.agg [.own 2],.one (.dat (.int .i64 z))]) [.dead,.vec 1 true (l0.map encI)] (⟨rfl,rfl⟩) ?_ ?_ ?_ <;> try trivial
  all_goals exact entd
 ·exact ⟨_,_,⟨rfl,rfl⟩,by simp⟩
def LsR (l l':Lists):Prop:=l'.Global.length=l.Global.length /\ l'.Own.length=l.Own.length /\ sizLists l' <= sizLists l
def popL (l:List SList) (k:Nat):List SList:=l.set k ⟨(l.getD k ⟨[]⟩).Slots.dropLast⟩
theorem popL_len (l:List SList) (k:Nat):(popL l k).length=l.length:=List.length_set ..
theorem popL_sum:∀ (l:List SList) (k:Nat),((popL l k).map sizSList).sum <= (l.map sizSList).sum
 | [],k=>Nat.le_refl _
 | x :: l,0=>by
  unfold popL sizSList
  simp only [List.set_cons_zero,List.getD_cons_zero,List.map_cons,List.sum_cons,List.length_dropLast]
  omega
 | x :: l,k + 1=>by
  have:=popL_sum l k
  unfold popL at this ⊢
  simp only [List.set_cons_succ,List.getD_cons_succ,List.map_cons,List.sum_cons]
  omega
theorem LsR.refl (l:Lists):LsR l l:=⟨rfl,rfl,Nat.le_refl _⟩
theorem LsR.trans {a b c:Lists} (h:LsR a b) (h':LsR b c):LsR a c:=⟨h'.1.trans h.1,h'.2.1.trans h.2.1,Nat.le_trans h'.2.2 h.2.2⟩
theorem set_row (l:List SList) (k:Nat) (v:Value) (Y:List Int):((l.map encSList).set k [.hdr v]).set k [.sl 1 (Y.map encI)]=(l.set k ⟨Y⟩).map encSList:=by
 rw [List.set_set,List.map_set];rfl
theorem set_get {l:List SList} {k:Nat} (hk:k < l.length) (x:List D):((l.map encSList).set k x).getD k []=x:=by
 rw [List.getD_eq_getElem?_getD,List.getElem?_set_self (by rw [List.length_map];exact hk)];rfl
theorem set_same {l:List SList} {k:Nat} {S:List Int} (hk:k < l.length) (h:l[k]=⟨S⟩):popL l k=l.set k ⟨S.dropLast⟩:=by
 unfold popL
 rw [List.getD_eq_getElem?_getD,List.getElem?_eq_getElem hk,h]
 rfl
theorem popL_own (l:Lists) (k:Nat):LsR l ⟨l.Global,popL l.Own k⟩:=⟨rfl,popL_len _ _,by
 have hsum:=popL_sum l.Own k
 unfold sizLists sizSListS
 show l.Global.length + (l.Global.map sizSList).sum + ((popL l.Own k).length + ((popL l.Own k).map sizSList).sum) <= l.Global.length + (l.Global.map sizSList).sum + (l.Own.length + (l.Own.map sizSList).sum)
 rw [popL_len];omega⟩
theorem popL_glob (l:Lists) (k:Nat):LsR l ⟨popL l.Global k,l.Own⟩:=⟨popL_len _ _,rfl,by
 have hsum:=popL_sum l.Global k
 unfold sizLists sizSListS
 show (popL l.Global k).length + ((popL l.Global k).map sizSList).sum + (l.Own.length + (l.Own.map sizSList).sum) <= l.Global.length + (l.Global.map sizSList).sum + (l.Own.length + (l.Own.map sizSList).sum)
 rw [popL_len];omega⟩
theorem c189 (l:Lists) (hz:sizLists l <= 1048576) (w c:Int) (hw:0 <= w /\ w <= 2) (hc:0 <= c /\ c <= 2) (k:Nat) (hk:w * 3 + c=k):∃ (l':Lists) (s:Int),LsR l l' /\ l'.Global=l.Global /\ (s=-1 \/ s ∈ (l.Own.getD k ⟨[]⟩).Slots) /\ Ctr prog 189 [.agg ((encLists l).map .dat),.one (.dat (.int .i64 w)),.one (.dat (.int .i64 c))] [] (.tup [.agg [.own 0,.own 1],.one (.dat (.int .i64 s))]) [.vec 1 true (l'.Global.map encSList),.vec 1 true (l'.Own.map encSList)]:=by
 have hmx:maxLen=9223372036854775807:=rfl
 have hcc:=c117 l (Lists.sok_of hz)
 have hlo:=c54 l hz
 have hoa:=c56 w c hw hc
 rw [hk] at hoa
 have hk0:decide ((k:Int) < 0)=false:=decide_eq_false (by omega)
 cases hlk:listsOk l with
 | false =>
  refine ⟨l,-1,.refl l,rfl,.inl rfl,?_⟩
  rw [hlk] at hlo
  simp only [encLists,List.map_cons,List.map_nil] at hcc hlo ⊢
  refine Ctr.bd mixed func189 rfl ?_
  refine sv36 ?_
  refine scs ?_
  refine ck e117 (hcc) rfl ?_
  refine sv36 ?_
  refine scs ?_
  refine ck e56 (hoa) rfl ?_
  refine sv36 ?_
  refine scs ?_
  refine ck e54 (hlo) rfl ?_
  refine sv36 ?_
  refine Fin.nt results189 [2,3] ?_ ?_ ?_ <;> try trivial
  all_goals exact entd
 | true =>
  rw [hlk] at hlo
  have hl9:=(listsOk_len hlk).2
  have hkl:k < l.Own.length:=by omega
  obtain ⟨X,hX⟩:∃ X,l.Own[k]=X:=⟨_,rfl⟩
  obtain ⟨S,rfl⟩:∃ S,X=⟨S⟩:=⟨X.Slots,rfl⟩
  have hkd:l.Own.getD k ⟨[]⟩=⟨S⟩:=by rw [List.getD_eq_getElem?_getD,List.getElem?_eq_getElem hkl,hX];rfl
  have hSl:S.length <= 1048576:=by
   have:=((Lists.sok_of hz).2.2.2.1 _ (List.getElem_mem hkl)).1
   rw [hX] at this;exact this
  have hpop:=set_same hkl hX
  have hcz:=hcc
  have hlz:=hlo
  clear hcc hlo
  rcases List.eq_nil_or_concat S with rfl | ⟨S0,z,rfl⟩
  ·refine ⟨⟨l.Global,popL l.Own k⟩,-1,popL_own l k,rfl,.inl rfl,?_⟩
   have hcc:=hcz
   have hlo:=hlz
   simp only [encLists,List.map_cons,List.map_nil] at hcc hlo ⊢
   refine Ctr.bd mixed func189 rfl ?_
   refine sv36 ?_
   refine scs ?_
   refine ck e117 (hcc) rfl ?_
   refine sv36 ?_
   refine scs ?_
   refine ck e56 (hoa) rfl ?_
   refine sv36 ?_
   refine scs ?_
   refine ck e54 (hlo) rfl ?_
   simp (maxSteps:=2000000) only [go_sem,seval,hk0,getD_map hkl,hX,encSList,List.map_nil]
   refine ⟨⟨by omega,by omega⟩,hkl,?_⟩
   intro v
   refine CallK_cell [5] e269 c269_0 rfl rfl ?_
   rintro r0 xs' ⟨rfl,rfl⟩ -
   refine sv37 ?_
   refine ⟨⟨by omega,by omega⟩,⟨by simp,by simp,hkl⟩,?_⟩
   have hs0:((l.Own.map encSList).set k [.hdr v]).set k [.sl 1 []]=(popL l.Own k).map encSList:=by rw [hpop];exact set_row _ k v []
   rw [hs0]
   refine Fin.nt results189 [2,3] ?_ ?_ ?_ <;> try trivial
   all_goals exact entd
  ·rw [List.concat_eq_append] at hX hkd hSl hpop
   rw [List.dropLast_concat] at hpop
   refine ⟨⟨l.Global,popL l.Own k⟩,z,popL_own l k,rfl,.inr (by rw [hkd];simp),?_⟩
   have hcc:=hcz
   have hlo:=hlz
   simp only [encLists,List.map_cons,List.map_nil] at hcc hlo ⊢
   refine Ctr.bd mixed func189 rfl ?_
   refine sv36 ?_
   refine scs ?_
   refine ck e117 (hcc) rfl ?_
   refine sv36 ?_
   refine scs ?_
   refine ck e56 (hoa) rfl ?_
   refine sv36 ?_
   refine scs ?_
   refine ck e54 (hlo) rfl ?_
   simp (maxSteps:=2000000) only [go_sem,seval,hk0,getD_map hkl,hX,encSList]
   refine ⟨⟨by omega,by omega⟩,hkl,?_⟩
   intro v
   refine CallK_cell [5] e269 (c269_1 S0 z hSl) rfl rfl ?_
   rintro r0 xs' ⟨rfl,rfl⟩ -
   refine sv37 ?_
   refine ⟨⟨by omega,by omega⟩,⟨by simp,by simp,hkl⟩,?_⟩
   rw [set_row _ k v S0,<- hpop]
   refine Fin.nt results189 [2,3] ?_ ?_ ?_ <;> try trivial
   all_goals exact entd
theorem c190 (l:Lists) (hz:sizLists l <= 1048576) (k:Nat) (hc:k <= 2):∃ (l':Lists) (s:Int),LsR l l' /\ l'.Own=l.Own /\ (s=-1 \/ s ∈ (l.Global.getD k ⟨[]⟩).Slots) /\ Ctr prog 190 [.agg ((encLists l).map .dat),.one (.dat (.int .i64 (k:Int)))] [] (.tup [.agg [.own 0,.own 1],.one (.dat (.int .i64 s))]) [.vec 1 true (l'.Global.map encSList),.vec 1 true (l'.Own.map encSList)]:=by
 have hmx:maxLen=9223372036854775807:=rfl
 have hcc:=c117 l (Lists.sok_of hz)
 have hlo:=c54 l hz
 have hk0:within (k:Int) 0 2=true:=by unfold within;exact decide_eq_true (by omega)
 cases hlk:listsOk l with
 | false =>
  refine ⟨l,-1,.refl l,rfl,.inl rfl,?_⟩
  rw [hlk] at hlo
  simp only [encLists,List.map_cons,List.map_nil] at hcc hlo ⊢
  refine Ctr.bd mixed func190 rfl ?_
  refine sv36 ?_
  refine scs ?_
  refine ck e117 (hcc) rfl ?_
  refine sv36 ?_
  refine scs ?_
  refine ck e54 (hlo) rfl ?_
  refine sv36 ?_
  first | refine CCallK_of (.one (.dat (.bool false))) ?_ | refine CCallK_og (.one (.dat (.bool false))) ?_
  refine sv36 ?_
  refine Fin.nt results190 [2,3] ?_ ?_ ?_ <;> try trivial
  all_goals exact entd
 | true =>
  rw [hlk] at hlo
  have hl9:=(listsOk_len hlk).1
  have hkl:k < l.Global.length:=by omega
  obtain ⟨X,hX⟩:∃ X,l.Global[k]=X:=⟨_,rfl⟩
  obtain ⟨S,rfl⟩:∃ S,X=⟨S⟩:=⟨X.Slots,rfl⟩
  have hkd:l.Global.getD k ⟨[]⟩=⟨S⟩:=by rw [List.getD_eq_getElem?_getD,List.getElem?_eq_getElem hkl,hX];rfl
  have hSl:S.length <= 1048576:=by
   have:=((Lists.sok_of hz).2.1 _ (List.getElem_mem hkl)).1
   rw [hX] at this;exact this
  have hpop:=set_same hkl hX
  have hcz:=hcc
  have hlz:=hlo
  clear hcc hlo
  rcases List.eq_nil_or_concat S with rfl | ⟨S0,z,rfl⟩
  ·refine ⟨⟨popL l.Global k,l.Own⟩,-1,popL_glob l k,rfl,.inl rfl,?_⟩
   have hcc:=hcz
   have hlo:=hlz
   simp only [encLists,List.map_cons,List.map_nil] at hcc hlo ⊢
   refine Ctr.bd mixed func190 rfl ?_
   refine sv36 ?_
   refine scs ?_
   refine ck e117 (hcc) rfl ?_
   refine sv36 ?_
   refine scs ?_
   refine ck e54 (hlo) rfl ?_
   refine sv36 ?_
   refine scs ?_
   first | refine CCallK_intro e67 (fun hg=>⟨by first | exact trivial | exact hg | exact ⟨hg,hg⟩ | (simp;done) | (simp_all only [Bool.not_false,Bool.not_true,and_self];done),c67 ..⟩) rfl rfl ?_ | refine Or.inl (CCallK_intro e67 (fun hg=>⟨by first | exact trivial | exact hg | exact ⟨hg,hg⟩ | (simp;done) | (simp_all only [Bool.not_false,Bool.not_true,and_self];done),c67 ..⟩) rfl rfl ?_)
   simp (maxSteps:=2000000) only [go_sem,seval,hk0,getD_map hkl,hX,encSList,List.map_nil]
   refine ⟨⟨by omega,by omega⟩,hkl,?_⟩
   intro v
   refine CallK_cell [5] e269 c269_0 rfl rfl ?_
   rintro r0 xs' ⟨rfl,rfl⟩ -
   refine sv37 ?_
   refine ⟨⟨by omega,by omega⟩,⟨by simp,by simp,hkl⟩,?_⟩
   have hs0:((l.Global.map encSList).set k [.hdr v]).set k [.sl 1 []]=(popL l.Global k).map encSList:=by rw [hpop];exact set_row _ k v []
   rw [hs0]
   refine Fin.nt results190 [2,3] ?_ ?_ ?_ <;> try trivial
   all_goals exact entd
  ·rw [List.concat_eq_append] at hX hkd hSl hpop
   rw [List.dropLast_concat] at hpop
   refine ⟨⟨popL l.Global k,l.Own⟩,z,popL_glob l k,rfl,.inr (by rw [hkd];simp),?_⟩
   have hcc:=hcz
   have hlo:=hlz
   simp only [encLists,List.map_cons,List.map_nil] at hcc hlo ⊢
   refine Ctr.bd mixed func190 rfl ?_
   refine sv36 ?_
   refine scs ?_
   refine ck e117 (hcc) rfl ?_
   refine sv36 ?_
   refine scs ?_
   refine ck e54 (hlo) rfl ?_
   refine sv36 ?_
   refine scs ?_
   first | refine CCallK_intro e67 (fun hg=>⟨by first | exact trivial | exact hg | exact ⟨hg,hg⟩ | (simp;done) | (simp_all only [Bool.not_false,Bool.not_true,and_self];done),c67 ..⟩) rfl rfl ?_ | refine Or.inl (CCallK_intro e67 (fun hg=>⟨by first | exact trivial | exact hg | exact ⟨hg,hg⟩ | (simp;done) | (simp_all only [Bool.not_false,Bool.not_true,and_self];done),c67 ..⟩) rfl rfl ?_)
   simp (maxSteps:=2000000) only [go_sem,seval,hk0,getD_map hkl,hX,encSList]
   refine ⟨⟨by omega,by omega⟩,hkl,?_⟩
   intro v
   refine CallK_cell [5] e269 (c269_1 S0 z hSl) rfl rfl ?_
   rintro r0 xs' ⟨rfl,rfl⟩ -
   refine sv37 ?_
   refine ⟨⟨by omega,by omega⟩,⟨by simp,by simp,hkl⟩,?_⟩
   rw [set_row _ k v S0,<- hpop]
   refine Fin.nt results190 [2,3] ?_ ?_ ?_ <;> try trivial
   all_goals exact entd
def handleOfM (s g:Int):Int:=if within s 0 23=true /\ within g 1 6=true then g * 32 + s else 0
theorem c194 (s g:Int):Ctr prog 194 [.one (.dat (.int .i64 s)),.one (.dat (.int .i64 g))] [] (.one (.dat (.int .i64 (handleOfM s g)))) []:=by
 unfold handleOfM
 refine Ctr.bd mixed func194 rfl ?_
 cases h1:within s 0 23 with
 | false =>
  refine sv29 ?_
  refine scs ?_
  refine ck e67 (c67 ..) rfl ?_
  refine sv29 ?_
  first | refine CCallK_of (.one (.dat (.bool false))) ?_ | refine CCallK_og (.one (.dat (.bool false))) ?_
  refine sv29 ?_
  refine Fin.nt results194 [] ?_ ?_ ?_ <;> try trivial
  all_goals try ((refine rsl ?_;try exact .intro))
  all_goals first | rfl | simp
 | true =>
  cases h2:within g 1 6 with
  | false =>
   refine sv38 ?_
   refine scs ?_
   refine ck e67 (c67 ..) rfl ?_
   refine sv38 ?_
   refine scs ?_
   first | refine CCallK_intro e67 (fun hg=>⟨by first | exact trivial | exact hg | exact ⟨hg,hg⟩ | (simp;done) | (simp_all only [Bool.not_false,Bool.not_true,and_self];done),c67 ..⟩) rfl rfl ?_ | refine Or.inl (CCallK_intro e67 (fun hg=>⟨by first | exact trivial | exact hg | exact ⟨hg,hg⟩ | (simp;done) | (simp_all only [Bool.not_false,Bool.not_true,and_self];done),c67 ..⟩) rfl rfl ?_)
   refine sv38 ?_
   refine Fin.nt results194 [] ?_ ?_ ?_ <;> try trivial
   all_goals try ((refine rsl ?_;try exact .intro))
   all_goals first | rfl | simp
  | true =>
   have e1:0 <= s /\ s <= 23:=by simpa [within] using h1
   have e2:1 <= g /\ g <= 6:=by simpa [within] using h2
   have hw1:IntKind.i64.wrap (g * 32)=g * 32:=wrap_id (by omega) (by omega)
   have hw2:IntKind.i64.wrap (g * 32 + s)=g * 32 + s:=wrap_id (by omega) (by omega)
   refine sv38 ?_
   refine scs ?_
   refine ck e67 (c67 ..) rfl ?_
   refine sv38 ?_
   refine scs ?_
   first | refine CCallK_intro e67 (fun hg=>⟨by first | exact trivial | exact hg | exact ⟨hg,hg⟩ | (simp;done) | (simp_all only [Bool.not_false,Bool.not_true,and_self];done),c67 ..⟩) rfl rfl ?_ | refine Or.inl (CCallK_intro e67 (fun hg=>⟨by first | exact trivial | exact hg | exact ⟨hg,hg⟩ | (simp;done) | (simp_all only [Bool.not_false,Bool.not_true,and_self];done),c67 ..⟩) rfl rfl ?_)
   simp (maxSteps:=2000000) only [go_sem,seval,h1,h2,hw1,hw2]
   refine Fin.nt results194 [] ?_ ?_ ?_ <;> try trivial
   all_goals try ((refine rsl ?_;try exact .intro))
   all_goals first | rfl | simp
def classGo (s:Int):Nat -> Nat -> Int
 | 0,_=>-1
 | f + 1,i=>if within s 1 (sizeOf i)=true then (i:Int) else classGo s f (i + 1)
def classOfM (s:Int):Int:=classGo s 3 0
theorem classGo_in (s:Int):∀ (f i:Nat),classGo s f i=-1 \/ (0 <= classGo s f i /\ classGo s f i < (f + i:Nat))
 | 0,i=>.inl rfl
 | f + 1,i=>by
  rw [classGo]
  split
  ·exact .inr ⟨by omega,by omega⟩
  ·have:=classGo_in s f (i + 1)
   omega
theorem classOf_in (s:Int):classOfM s=-1 \/ (0 <= classOfM s /\ classOfM s <= 2):=by
 have:=classGo_in s 3 0
 unfold classOfM
 omega
theorem c188 (s:Int):Ctr prog 188 [.one (.dat (.int .i64 s))] [] (.one (.dat (.int .i64 (classOfM s)))) []:=by
 refine Ctr.bd mixed func188 rfl ?_
 refine evl ?_
 refine LoopK_intro (fun zn zs=>∃ i:Nat,i <= 3 /\ zn=3 - i /\ (classOfM s=classGo s (3 - i) i) /\ zs=mkSt [(3,.one (.dat (.int .i64 i))),(0,.one (.dat (.int .i64 s)))] []) (3) _
  (Ent.wk []) ⟨0,by omega,by omega,rfl,rfl⟩ ?_
 rintro zn zs ⟨i,hi,rfl,hinv,rfl⟩ K hK
 rcases Nat.lt_or_ge i (3) with hlt | hge
 ·have hdi:decide ((i:Int) < ((3:Nat):Int))=true:=decide_eq_true (by omega)
  have hw:=wrap_succ hlt (show 3 <= maxLen by decide)
  have hd3:decide ((i:Int) < 3)=true:=decide_eq_true (by omega)
  obtain ⟨f,hf⟩:∃ f,3 - i=f + 1:=⟨2 - i,by omega⟩
  rw [hf,classGo] at hinv
  refine sv39 ?_
  refine scs ?_
  refine ck e124 (c124 (i:Int)) rfl ?_
  refine sv39 ?_
  refine scs ?_
  refine ck e67 (c67 ..) rfl ?_
  refine sv39 ?_
  constructor <;> intro hq
  ·rw [if_pos hq] at hinv
   apply hK
   refine sv39 ?_
   refine Fin.nt results188 [] ?_ ?_ ?_ <;> try trivial
   (refine rsl ?_;try exact .intro)
   exact hinv.symm
  ·rw [if_neg (by rw [hq];decide)] at hinv
   (apply hK
    exact ⟨3 - (i + 1),_,by omega,Ent.wk [],i + 1,by omega,rfl,by rw [hinv];congr 1;omega,rfl⟩)
 ·have hge':3=i:=by omega
  subst hge'
  have hdi:decide (((3:Nat):Int) < ((3:Nat):Int))=false:=by simp
  have hd3:decide (((3:Nat):Int) < 3)=false:=rfl
  have hres:classOfM s=-1:=hinv
  refine sv16 ?_
  apply hK
  refine evl ?_
  refine Fin.nt results188 [] ?_ ?_ ?_ <;> try trivial
  (refine rsl ?_;try exact .intro)
  exact hres.symm
def grant0 (B:List Int) (p:Nat) (c:Int):List Int:=((B.set (p * 64) 171).set (p * 64 + 1) c).set (p * 64 + 2) (perPage c)
def grantN (B:List Int) (p:Nat) (c:Int):Nat -> List Int
 | 0=>grant0 B p c
 | i + 1=>putL (grantN B p c i) (genAt ((p:Int) * 4 + i) c).toNat (fixNs 4 1)
theorem grantN_len (B:List Int) (p:Nat) (c:Int):∀ i,(grantN B p c i).length=B.length
 | 0=>by simp [grantN,grant0]
 | i + 1=>by rw [grantN,putL_len,grantN_len B p c i]
theorem set_byte {b:List Int} {k:Nat} {x:Int} (hb:isByteL b) (hx:0 <= x /\ x <= 255):isByteL (b.set k x):=fun y hy=>by
 rcases List.mem_or_eq_of_mem_set hy with h | h
 ·exact hb y h
 ·subst h;exact hx
theorem grantN_byte {B:List Int} (hB:isByteL B) (p:Nat) {c:Int} (hc:0 <= c /\ c <= 2):∀ i,isByteL (grantN B p c i)
 | 0=>by
  have hk:=perPage_le c
  exact set_byte (set_byte (set_byte hB (by omega)) (by omega)) (by omega)
 | i + 1=>putL_byte _ _ _ (grantN_byte hB p hc i) (fixNs_in 4 1)
theorem setI (l:List Int) (k:Nat) (x:Int):(l.map encI).set k [.int .i64 x]=(l.set k x).map encI:=by rw [List.map_set];rfl
def grantS (p k:Nat):List Int:=(List.range k).map fun (i:Nat)=>(p:Int) * 4 + (i:Int)
theorem grantS_succ (p k:Nat):grantS p (k + 1)=grantS p k ++ [(p:Int) * 4 + (k:Int)]:=by simp [grantS,List.range_succ]
def grantH (h:Heap) (p:Nat) (c:Int):Heap:=⟨grantN h.Bytes p c (perPage c).toNat,h.Class.set p c⟩
theorem grant_shaped {h:Heap} (hs:shapedM h=true) (p:Nat) {c:Int} (hc:0 <= c /\ c <= 2):shapedM (grantH h p c)=true:=by
 obtain ⟨h1,h2,h3,h4⟩:=shaped_iff hs
 have hb:=grantN_byte h2 p hc (perPage c).toNat
 have hl:=grantN_len h.Bytes p c (perPage c).toNat
 have hby:bytesOk (grantH h p c).Bytes=true:=by
  rw [bytesOk,Bool.and_eq_true,List.all_eq_true]
  exact ⟨decide_eq_true (by show ((grantN h.Bytes p c (perPage c).toNat).length:Int) <= 1000;omega),fun x hx=>by have:=hb x hx;rw [within,decide_eq_true_eq];omega⟩
 unfold shapedM
 simp only [Bool.and_eq_true,beq_iff_eq,List.all_eq_true]
 refine ⟨⟨⟨?_,hby⟩,?_⟩,fun x hx=>?_⟩
 ·show ((grantN h.Bytes p c (perPage c).toNat).length:Int)=384
  omega
 ·show ((h.Class.set p c).length:Int)=6
  rw [List.length_set];omega
 ·rcases List.mem_or_eq_of_mem_set hx with hm | hm
  ·have:=h4 x hm
   rw [within,decide_eq_true_eq];omega
  ·rw [within,decide_eq_true_eq];omega
theorem grant_class {h:Heap} (hs:shapedM h=true) {p:Nat} (hp:p < 6) {c:Int}:∀ s ∈ grantS p (perPage c).toNat,classInM (grantH h p c) s=c:=by
 intro s hm
 obtain ⟨i,hi,rfl⟩:=List.mem_map.1 hm
 rw [List.mem_range] at hi
 obtain ⟨_,_,h3,_⟩:=shaped_iff hs
 have hk:=perPage_le c
 have e1:(((p:Int) * 4 + (i:Int)) / 4).toNat=p:=by omega
 have hcl:clsN (grantH h p c) ((p:Int) * 4 + (i:Int))=c:=by
  unfold clsN clsAt
  rw [e1]
  show (h.Class.set p c).getD p _=c
  rw [List.getD_eq_getElem?_getD,List.getElem?_set_self (by omega)]
  rfl
 rw [classInM_yes (by omega) (by omega) (by rw [hcl];omega),hcl]
theorem first_or (q:Nat -> Bool):∀ n,(∃ p,p < n /\ q p=true /\ ∀ j,j < p -> q j=false) \/ ∀ j,j < n -> q j=false
 | 0=>.inr fun j h=>absurd h (Nat.not_lt_zero _)
 | n + 1=>by
  rcases first_or q n with ⟨p,h1,h2,h3⟩ | h
  ·exact .inl ⟨p,by omega,h2,h3⟩
  ·cases hn:q n with
   | true=>exact .inl ⟨n,by omega,hn,h⟩
   | false =>
    refine .inr fun j hj=>?_
    rcases Nat.lt_or_ge j n with h1 | h1
    ·exact h j h1
    ·rw [show j=n by omega];exact hn
theorem c270 (h:Heap) (hs:shapedM h=true) (c:Int) (hc:0 <= c /\ c <= 2):∃ (h':Heap) (l:List Int),shapedM h'=true /\ l.length <= 4 /\ (∀ s ∈ l,classInM h' s=c) /\ Ctr prog 270 [.agg [.own 0,.own 1],.one (.dat (.int .i64 c))] [.vec 1 true (h.Bytes.map encI),.vec 1 true (h.Class.map encI)] (.tup [.agg [.own 0,.own 1],.one (.own 2)]) [.vec 1 true (h'.Bytes.map encI),.vec 1 true (h'.Class.map encI),.vec 1 true (l.map encI)]:=by
 have hmx:maxLen=9223372036854775807:=rfl
 obtain ⟨b1,b2,b3,b4⟩:=shaped_iff hs
 have hpk:=perPage_le c
 rcases first_or (fun j=>clsAt h j == -1) 6 with ⟨p,hp,hq,hlow⟩ | hno
 ·refine ⟨grantH h p c,grantS p (perPage c).toNat,grant_shaped hs p hc,by simp [grantS];omega,grant_class hs hp,?_⟩
  refine Ctr.of_body mixed func270 rfl (by kernel_rfl) (Nat.le_of_ble_eq_true rfl) (by simp [AV.Clean,AV.Clean1,Leaf.Clean,D.flat]) (by simp [AObj.Sep]) (by simp) ?_ (by simp [AV.Low,AV.Low1,Leaf.Low]) ?_
  ·intro o ho
   have:o=0 \/ o=1:=by have:o < 2:=ho;omega
   rcases this with rfl | rfl <;> simp [Objs,Compat,grantH,grantN_len]
  show wpA _ _ _ (FinQ _ _ _ _ _) _
  obtain ⟨k,hk⟩:∃ k:Nat,perPage c=k:=⟨(perPage c).toNat,by omega⟩
  simp only [grantH,hk,Int.toNat_natCast]
  refine evl ?_
  refine scs ?_
  refine LoopK_intro (fun zn zs=>∃ i:Nat,i <= 6 /\ zn=6 - i /\ (i <= p) /\ zs=mkSt [(6,.one (.dat (.int .i64 i))),(1,.one (.dat (.int .i64 c))),(2,.one (.ptr (.own 2 0 0))),(4,.one (.ptr (.own 3 0 0)))] [.vec 1 true (h.Bytes.map encI),.vec 1 true (h.Class.map encI),.box [.own 0,.own 1],.box [.emp,.emp]]) (6) _
   (Ent.wk [0,1,2,3]) ⟨0,by omega,by omega,(Nat.zero_le _),rfl⟩ ?_
  rintro zn zs ⟨i,hi,rfl,hinv,rfl⟩ K hK
  rcases Nat.lt_or_ge i (6) with hlt | hge
  ·have hdi:decide ((i:Int) < ((6:Nat):Int))=true:=decide_eq_true (by omega)
   have hw:=wrap_succ hlt (show 6 <= maxLen by decide)
   have hd6:decide ((i:Int) < 6)=true:=decide_eq_true (by omega)
   have hgc:=cls_get (h:=h) (p:=i) b3 (by omega)
   rcases Nat.lt_or_ge i p with hip | hip
   ·have hcl:(clsAt h i != -1)=true:=by rw [bne,hlow i hip];rfl
    simp (maxSteps:=2000000) only [go_sem,seval,hd6,hw,hgc,hcl]
    refine scs ?_
    (apply hK
     exact ⟨6 - (i + 1),_,by omega,Ent.wk [0,1,2,3],i + 1,by omega,rfl,by omega,rfl⟩)
   ·obtain rfl:i=p:=by omega
    have hcl:(clsAt h i != -1)=false:=by rw [bne,hq];rfl
    have hcp:=c209 c
    rw [hk] at hcp
    have hw1:IntKind.i64.wrap ((i:Int) * 64)=((i * 64:Nat):Int):=by rw [wrap_id (by omega) (by omega)];omega
    have hw2:IntKind.i64.wrap (((i * 64:Nat):Int) + 1)=((i * 64 + 1:Nat):Int):=by rw [wrap_id (by omega) (by omega)];omega
    have hw3:IntKind.i64.wrap (((i * 64:Nat):Int) + 2)=((i * 64 + 2:Nat):Int):=by rw [wrap_id (by omega) (by omega)];omega
    simp (maxSteps:=2000000) only [go_sem,seval,hd6,hw,hgc,hcl,hw1,hw2,hw3,setI,List.length_set]
    refine scs ?_
    refine ck e209 (hcp) rfl ?_
    simp (maxSteps:=2000000) only [go_sem,seval,hd6,hw,hgc,hcl,hw1,hw2,hw3,setI,List.length_set]
    refine ⟨⟨by omega,by omega⟩,by kernel_rfl,⟨rfl,by omega⟩,by simp,?_⟩
    have hg0:((h.Bytes.set (i * 64) 171).set (i * 64 + 1) c).set (i * 64 + 2) (k:Int)=grantN h.Bytes i c 0:=by rw [grantN,grant0,hk]
    rw [hg0]
    refine LoopK_intro (fun zn zs=>∃ j:Nat,j <= k /\ zn=k - j /\ zs=mkSt [(9,.one (.dat (.int .i64 j))),(1,.one (.dat (.int .i64 c))),(2,.one (.ptr (.own 2 0 0))),(4,.one (.ptr (.own 3 0 0))),(6,.one (.dat (.int .i64 (i:Int)))),(8,.one (.own 4))] [.vec 1 true ((grantN h.Bytes i c j).map encI),.vec 1 true ((h.Class.set i c).map encI),.box [.own 0,.own 1],.box [.emp,.emp],.vec 1 true ((grantS i j).map encI)]) (k) _
     (Ent.wk [0,1,2,3,4]) ⟨0,by omega,by omega,rfl⟩ ?_
    rintro zn zs ⟨j,hi2,rfl,rfl⟩ K2 hK2
    rcases Nat.lt_or_ge j (k) with hlt2 | hge2
    ·have hdi2:decide ((j:Int) < ((k:Nat):Int))=true:=decide_eq_true (by omega)
     have hw2:=wrap_succ hlt2 (show k <= maxLen by omega)
     have hcs:=c211 (i:Int) (j:Int) (by omega) (by omega)
     have hcg:=c206 ((i:Int) * 4 + j) c
     refine sv40 ?_
     obtain ⟨_,tt,e1,e2,e3,e4,e5⟩:=page_nums c
     have hsg:=slot_gen (i:=j) hp hk e2 (by omega) hlt2
     have h5:=e5 j (by omega)
     have hgl:=grantN_len h.Bytes i c j
     have hc3:=c126 (grantN h.Bytes i c j) (by omega) (genAt ((i:Int) * 4 + j) c) 4 (by omega) 1 (by omega) (by omega) (by omega) (by omega)
     refine ck e209 (hcp) rfl ?_
     refine sv40 ?_
     refine FloatR_intro [(0,[]),(1,[]),(2,[]),(3,[]),(5,[]),(4,[0,1,5]),(6,[0,1]),(7,[]),(8,[]),(9,[])] (by kernel_rfl) ?_
     refine sv40 ?_
     refine scs ?_
     refine ck e211 (hcs) rfl ?_
     refine sv40 ?_
     refine scs ?_
     refine ck e206 (hcg) rfl ?_
     refine sv40 ?_
     refine scs ?_
     refine CallK_os [0] e126 (by simp [osOk,St.obj,find]) hc3 rfl ?_
     refine sv40 ?_
     refine scs ?_
     refine ck e211 (hcs) rfl ?_
     refine sv40 ?_
     refine scs ?_
     have hgn:putL (grantN h.Bytes i c j) (genAt ((i:Int) * 4 + j) c).toNat (fixNs 4 1)=grantN h.Bytes i c (j + 1):=rfl
     have hgs:(grantS i j).map encI ++ [[D.int .i64 ((i:Int) * 4 + (j:Int))]]=(grantS i (j + 1)).map encI:=by rw [grantS_succ,List.map_append];rfl
     have hgl2:(grantS i j).length=j:=by simp [grantS]
     rw [hgn,hgs]
     refine ⟨⟨by simp [D.flat],by simp,by omega,by omega⟩,?_⟩
     (apply hK2
      exact ⟨k - (j + 1),_,by omega,Ent.wk [0,1,2,3,6],j + 1,by omega,rfl,rfl⟩)
    ·have hge2':k=j:=by omega
     subst hge2'
     have hdi2:decide (((k:Nat):Int) < ((k:Nat):Int))=false:=by simp
     refine sv40 ?_
     refine ck e209 (hcp) rfl ?_
     refine sv13 ?_
     apply hK2
     refine evl ?_
     apply hK
     refine evl ?_
     refine Fin.nt results270 [0,1,4] ?_ ?_ ?_ <;> try trivial
     all_goals exact entd
  ·have hge':6=i:=by omega
   subst hge'
   have hdi:decide (((6:Nat):Int) < ((6:Nat):Int))=false:=by simp
   omega
 ·refine ⟨h,[],hs,by simp,by simp,?_⟩
  refine Ctr.of_body mixed func270 rfl (by kernel_rfl) (Nat.le_of_ble_eq_true rfl) (by simp [AV.Clean,AV.Clean1,Leaf.Clean,D.flat]) (by simp [AObj.Sep]) (by simp) ?_ (by simp [AV.Low,AV.Low1,Leaf.Low]) ?_
  ·intro o ho
   have:o=0 \/ o=1:=by have:o < 2:=ho;omega
   rcases this with rfl | rfl <;> simp [Objs,Compat]
  show wpA _ _ _ (FinQ _ _ _ _ _) _
  refine evl ?_
  refine scs ?_
  refine LoopK_intro (fun zn zs=>∃ i:Nat,i <= 6 /\ zn=6 - i /\ zs=mkSt [(6,.one (.dat (.int .i64 i))),(1,.one (.dat (.int .i64 c))),(2,.one (.ptr (.own 2 0 0))),(4,.one (.ptr (.own 3 0 0)))] [.vec 1 true (h.Bytes.map encI),.vec 1 true (h.Class.map encI),.box [.own 0,.own 1],.box [.emp,.emp]]) (6) _
   (Ent.wk [0,1,2,3]) ⟨0,by omega,by omega,rfl⟩ ?_
  rintro zn zs ⟨i,hi,rfl,rfl⟩ K hK
  rcases Nat.lt_or_ge i (6) with hlt | hge
  ·have hdi:decide ((i:Int) < ((6:Nat):Int))=true:=decide_eq_true (by omega)
   have hw:=wrap_succ hlt (show 6 <= maxLen by decide)
   have hd6:decide ((i:Int) < 6)=true:=decide_eq_true (by omega)
   have hgc:=cls_get (h:=h) (p:=i) b3 (by omega)
   have hcl:(clsAt h i != -1)=true:=by rw [bne,hno i hlt];rfl
   simp (maxSteps:=2000000) only [go_sem,seval,hd6,hw,hgc,hcl]
   refine scs ?_
   (apply hK
    exact ⟨6 - (i + 1),_,by omega,Ent.wk [0,1,2,3],i + 1,by omega,rfl,rfl⟩)
  ·have hge':6=i:=by omega
   subst hge'
   have hdi:decide (((6:Nat):Int) < ((6:Nat):Int))=false:=by simp
   have hd6:decide (((6:Nat):Int) < 6)=false:=rfl
   refine sv5 ?_
   apply hK
   refine evl ?_
   refine scs ?_
   refine Fin.nt results270 [0,1,4] ?_ ?_ ?_ <;> try trivial
   all_goals exact entd
theorem c192 (m:Mem) (hs:shapedM m.Heap=true) (s:Int) (hc:0 <= classInM m.Heap s):Ctr prog 192 [.agg ((encMem m).map .dat),.one (.dat (.int .i64 s))] [] (.one (.dat (.int .i64 (handleOfM s (genInM m.Heap s))))) []:=by
 have hcg:=c121 m.Heap hs s hc
 simp only [encMem,encHeap,encLists,List.map_cons,List.map_nil,List.cons_append,List.nil_append,List.map_append] at hcg ⊢
 refine Ctr.bd mixed func192 rfl ?_
 refine evl ?_
 refine scs ?_
 refine ck e121 (hcg) rfl ?_
 refine evl ?_
 refine scs ?_
 refine ck e194 (c194 ..) rfl ?_
 refine evl ?_
 refine Fin.nt results192 [] ?_ ?_ ?_ <;> try trivial
 all_goals try ((refine rsl ?_;try exact .intro))
end Go.Proofs.YtcnddedeeplbcaaGreat.Mod
