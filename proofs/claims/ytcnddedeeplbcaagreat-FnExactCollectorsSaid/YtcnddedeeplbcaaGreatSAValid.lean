import Derived.Test.YtcnddedeeplbcaaGreatRows
import Derived.Test.YtcnddedeeplbcaaGreatSATy
import Derived.Test.YtcnddedeeplbcaaGreatSAbsTac
import Derived.Test.YtcnddedeeplbcaaGreatSAbsData
import Derived.Test.YtcnddedeeplbcaaGreatSAHist
import Derived.Test.YtcnddedeeplbcaaGreatSASame
import Derived.Test.YtcnddedeeplbcaaGreatSAStore
import Derived.WalkKit
import Derived.ProofKit
import Derived.OpenShut
/- Contracts: Valid. -/
namespace Go.Proofs.YtcnddedeeplbcaaGreat.Mod
open Go.Proofs.Tryz Go.Abs Go.Proofs.YtcnddedeeplbcaaGreat.Ty Go.ChangeShapes Go.WideShapes Go.ChangeAt Go.RowKit
set_option linter.unusedSimpArgs false
set_option linter.unusedVariables false
set_option maxHeartbeats 8000000
set_option maxRecDepth 100000
theorem take_split {α:Type} {l:List α} {i:Nat} {x:α} (h:i < l.length) (e:l[i]=x):l=l.take i ++ x :: l.drop (i + 1):=by rw [<- e,<- List.drop_eq_getElem_cons h,List.take_append_drop]
theorem encI_fold (z:Int):([D.int .i64 z]:List D)=encI z:=rfl
theorem ibeq (a b:Int):(a == b)=decide (a=b):=by by_cases h:a=b <;> simp [h]
def pinOk (e:Int) (p:Pin):Bool:=within p.Epoch 0 e && (within p.Seen 0 2 && (p.On || decide (p=⟨false,0,false,0⟩)))
def clockOk (c:Clock):Bool:=within c.Epoch 0 100000 && decide ((c.Pins.length:Int)=3) && c.Pins.all (pinOk c.Epoch)
theorem c294 (c:Clock) (p:Pin):Ctr prog 294 [.agg ((encPin p).map .dat),.one (.ptr (.ro 2 [encClock c] 0 0))] [] (.one (.dat (.bool (!pinOk c.Epoch p)))) []:=by
 simp only [encPin,encClock,List.map_cons,List.map_nil]
 refine Ctr.bd mixed func294 rfl ?_
 refine evl ?_
 refine scs ?_
 refine ck e57 (c57 ..) rfl ?_
 refine evl ?_
 refine scs ?_
 refine ck e57 (c57 ..) rfl ?_
 refine evl ?_
 refine scs ?_
 refine Fin.nt results294 [] ?_ ?_ ?_ <;> try trivial
 (refine rsl ?_;try exact .intro)
 simp only [pinOk,Pin.eq_iff,ibeq]
 cases within p.Epoch 0 c.Epoch <;> cases within p.Seen 0 2 <;> cases p.On <;> simp
theorem c236 (c:Clock) (hl:c.Pins.length <= maxLen):Ctr prog 236 [.agg ((encClock c).map .dat)] [] (.one (.dat (.bool (clockOk c)))) []:=by
 have hcp:=c293_k1 c.Pins hl e294 (fun x _=>c294 c x)
 simp only [encClock,List.map_cons,List.map_nil] at hcp ⊢
 refine Ctr.bd mixed func236 rfl ?_
 refine sv17 ?_
 refine scs ?_
 refine ck e57 (c57 ..) rfl ?_
 refine sv17 ?_
 refine scs ?_
 refine ck e293 (hcp) rfl ?_
 refine sv17 ?_
 refine scs ?_
 refine Fin.nt results236 [] ?_ ?_ ?_ <;> try trivial
 (refine rsl ?_;try exact .intro)
 simp only [clockOk,<- any_not_all,ibeq]
 cases within c.Epoch 0 100000 <;> cases decide ((c.Pins.length:Int)=3) <;> rfl
theorem c221 (c:Clock) (hl:c.Pins.length <= maxLen):Ctr prog 221 [.agg ((encClock c).map .dat)] [] (.one (.dat (.bool (clockOk c)))) []:=by
 simp only [encClock,List.map_cons,List.map_nil]
 refine Ctr.bd mixed func221 rfl ?_
 refine sv17 ?_
 refine scs ?_
 refine ck e67 (c67 ..) rfl ?_
 refine sv17 ?_
 refine scs ?_
 constructor <;> intro hq
 ·refine Fin.nt results221 [] ?_ ?_ ?_ <;> try trivial
  (refine rsl ?_;try exact .intro)
  simp only [clockOk]
  cases h1:within c.Epoch 0 100000 <;> cases h2:decide ((c.Pins.length:Int)=3) <;> simp_all
 have h3:within c.Epoch 0 100000=true /\ c.Pins.length=3:=by
  cases h1:within c.Epoch 0 100000 <;> cases h2:decide ((c.Pins.length:Int)=3) <;> simp_all <;> omega
 have hck:clockOk c=c.Pins.all (pinOk c.Epoch):=by simp only [clockOk,h3.1,h3.2];rfl
 rw [hck]
 clear hq
 refine LoopK_intro (fun zn zs=>∃ i:Nat,i <= 3 /\ zn=3 - i /\ (c.Pins.all (pinOk c.Epoch)=(c.Pins.drop i).all (pinOk c.Epoch)) /\ zs=mkSt [(3,.one (.dat (.int .i64 i))),(1,.one (.ptr (.own 0 0 0)))] [.box [.dat (.int .i64 c.Epoch),.dat (.sl 4 (c.Pins.map encPin))]]) (3) _
  (Ent.wk [0]) ⟨0,by omega,by omega,rfl,rfl⟩ ?_
 rintro zn zs ⟨i,hi,rfl,hinv,rfl⟩ K hK
 rcases Nat.lt_or_ge i (3) with hlt | hge
 ·have hdi:decide ((i:Int) < ((3:Nat):Int))=true:=decide_eq_true (by omega)
  have hw:=wrap_succ hlt (show 3 <= maxLen by decide)
  have hd3:decide ((i:Int) < 3)=true:=decide_eq_true (by omega)
  have hgi:i < c.Pins.length:=by omega
  rw [List.drop_eq_getElem_cons hgi,List.all_cons] at hinv
  obtain ⟨p,hp⟩:∃ p,c.Pins[i]=p:=⟨_,rfl⟩
  rw [hp] at hinv
  refine sv34 ?_
  refine scs ?_
  refine ck e67 (c67 ..) rfl ?_
  refine sv34 ?_
  refine scs ?_
  refine ck e67 (c67 ..) rfl ?_
  refine sv34 ?_
  refine scs ?_
  constructor <;> intro hq
  ·have hp0:pinOk c.Epoch p=false:=by
    simp only [pinOk,Pin.eq_iff]
    simp only [ibeq] at hq
    revert hq
    cases within p.Epoch 0 c.Epoch <;> cases within p.Seen 0 2 <;> cases p.On <;> simp
    all_goals (try (intros;simp_all;done))
   rw [hp0,Bool.false_and] at hinv
   apply hK
   refine sv34 ?_
   refine Fin.nt results221 [] ?_ ?_ ?_ <;> try trivial
   (refine rsl ?_;try exact .intro)
   exact hinv.symm
  ·have hp0:pinOk c.Epoch p=true:=by
    simp only [pinOk,Pin.eq_iff]
    simp only [ibeq] at hq
    revert hq
    cases within p.Epoch 0 c.Epoch <;> cases within p.Seen 0 2 <;> cases p.On <;> simp
    all_goals (try (intros;simp_all;done))
   rw [hp0,Bool.true_and] at hinv
   (apply hK
    exact ⟨3 - (i + 1),_,by omega,Ent.wk [0],i + 1,by omega,rfl,hinv,rfl⟩)
 ·have hge':3=i:=by omega
  subst hge'
  have hdi:decide (((3:Nat):Int) < ((3:Nat):Int))=false:=by simp
  have hd3:decide (((3:Nat):Int) < 3)=false:=rfl
  rw [List.drop_of_length_le (by omega),List.all_nil] at hinv
  refine sv30 ?_
  apply hK
  refine evl ?_
  refine Fin.nt results221 [] ?_ ?_ ?_ <;> try trivial
  (refine rsl ?_;try exact .intro)
  exact hinv.symm
def rowOk (r:LRow):Bool:=handleOk r.Handle && within r.Epoch 0 100000
def rslot (r:LRow):Int:=r.Handle % 32
def goodRows (l:List LRow):Bool:=l.all rowOk && decide (l.map rslot).Nodup
def limboOk (l:List LList):Bool:=decide ((l.length:Int)=3) && decide (((rowsOf l).length:Int) <= 24) && goodRows (rowsOf l)
theorem goodRows_iff (l:List LRow):goodRows l=true ↔ (∀ x ∈ l,rowOk x=true) /\ (l.map rslot).Nodup:=by simp [goodRows]
theorem goodRows_snoc {q:List LRow} {x:LRow} (h:goodRows q=true) (hw:rowOk x=true) (hx:rslot x ∉ q.map rslot):goodRows (q ++ [x])=true:=by
 obtain ⟨h1,h2⟩:=(goodRows_iff _).1 h
 refine (goodRows_iff _).2 ⟨fun y hy=>?_,?_⟩
 ·rcases List.mem_append.1 hy with hy | hy
  ·exact h1 y hy
  ·rw [List.mem_singleton.1 hy];exact hw
 ·rw [List.map_append]
  exact List.nodup_append.2 ⟨h2,by simp,fun a ha b hb e=>hx (by rw [List.map_cons,List.map_nil,List.mem_singleton] at hb;rw [hb] at e;exact e ▸ ha)⟩
theorem goodRows_bad {a b:List LRow} {x:LRow} (h:rowOk x=false \/ rslot x ∈ a.map rslot):goodRows (a ++ x :: b)=false:=by
 rw [Bool.eq_false_iff]
 intro hg
 obtain ⟨h1,h2⟩:=(goodRows_iff _).1 hg
 rcases h with h | h
 ·rw [h1 x (by simp)] at h;cases h
 ·rw [List.map_append,List.map_cons] at h2
  exact (List.nodup_append.1 h2).2.2 _ h _ (by simp) rfl
theorem limboOk_bad {l:List LList} {a b:List LRow} {x:LRow} (hs:rowsOf l=a ++ x :: b) (h:rowOk x=false \/ rslot x ∈ a.map rslot):limboOk l=false:=by
 rw [limboOk,hs,goodRows_bad h,Bool.and_false]
theorem limboOk_good {l:List LList} (h3:l.length=3) (hg:goodRows (rowsOf l)=true):limboOk l=decide (((rowsOf l).length:Int) <= 24):=by
 rw [limboOk,hg,h3,Bool.and_true];rfl
theorem rslot_in {r:LRow} (h:rowOk r=true):within (rslot r) 0 23=true /\ r.Handle.tmod 32=rslot r:=by
 simp only [rowOk,Bool.and_eq_true] at h
 have hb:=(handleOk_iff _).1 h.1
 refine ⟨?_,(handle_pos h.1).1⟩
 show decide (0 <= r.Handle % 32 /\ r.Handle % 32 <= 23)=true
 exact decide_eq_true (by omega)
theorem c295 (l:List LList) (hl:l.length <= 1048576) (hr:(rowsOf l).length <= 1048576):Ctr prog 295 [.one (.dat (.sl 1 (l.map encLList)))] [] (.one (.dat (.int .i64 (rowsOf l).length))) []:=by
 have hmx:maxLen=9223372036854775807:=rfl
 refine Ctr.bd mixed func295 rfl ?_
 refine evl ?_
 refine scs ?_
 refine LoopK_intro (fun zn zs=>∃ (i:Nat) (z:Nat),i <= l.length /\ zn=l.length - i /\ ((rowsOf l).length=z + (rowsOf (l.drop i)).length) /\ zs=mkSt [(8,.one (.dat (.int .i64 i))),(7,.one (.dat (.int .i64 (l.length)))),(6,.one (.dat (.sl 1 (l.map encLList)))),(3,.one (.dat (.int .i64 (z:Int)))),(0,.one (.dat (.sl 1 (l.map encLList))))] []) (l.length) _
  (Ent.wk []) ⟨0,0,by omega,by omega,by rw [List.drop_zero,Nat.zero_add],rfl⟩ ?_
 rintro zn zs ⟨i,z,hi,rfl,hinv,rfl⟩ K hK
 rcases Nat.lt_or_ge i (l.length) with hlt | hge
 ·have hdi:decide ((i:Int) < ((l.length:Nat):Int))=true:=decide_eq_true (by omega)
  have hw:=wrap_succ hlt (show l.length <= maxLen by omega)
  rw [rowsOf_drop hlt,List.length_append] at hinv
  have hw2:IntKind.i64.wrap ((z:Int) + (l[i].Rows.length:Int))=((z + l[i].Rows.length:Nat):Int):=by rw [wrap_id] <;> omega
  simp (maxSteps:=2000000) only [go_sem,seval,hdi,hw,getD_map hlt,encLList,hw2]
  refine scs ?_
  (apply hK
   exact ⟨l.length - (i + 1),_,by omega,Ent.wk [],i + 1,(z + l[i].Rows.length),by omega,rfl,by omega,rfl⟩)
 ·have hge':l.length=i:=by omega
  subst hge'
  have hdi:decide (((l.length:Nat):Int) < ((l.length:Nat):Int))=false:=by simp
  have hz':(rowsOf l).length=z:=by rw [List.drop_length] at hinv;simpa [rowsOf] using hinv
  clear hinv
  refine sv4 ?_
  apply hK
  refine evl ?_
  refine Fin.nt results295 [] ?_ ?_ ?_ <;> try trivial
  (refine rsl ?_;try exact .intro)
  rw [hz']
theorem c237 (l:List LList) (hl:l.length <= 1048576) (hr:(rowsOf l).length <= 1048576):Ctr prog 237 [.one (.dat (.sl 1 (l.map encLList)))] [] (.one (.dat (.bool (limboOk l)))) []:=by
 have hmx:maxLen=9223372036854775807:=rfl
 refine Ctr.bd mixed func237 rfl ?_
 refine sv17 ?_
 refine scs ?_
 constructor <;> intro hq
 ·refine Fin.nt results237 [] ?_ ?_ ?_ <;> try trivial
  (refine rsl ?_;try exact .intro)
  simp only [limboOk]
  cases h2:decide ((l.length:Int)=3) <;> simp_all
 have h3:l.length=3:=by
  cases h2:decide ((l.length:Int)=3) <;> simp_all <;> omega
 clear hq
 refine LoopK_intro (fun zn zs=>∃ (i:Nat) (q0:List LRow),i <= l.length /\ zn=l.length - i /\ (rowsOf l=q0 ++ rowsOf (l.drop i) /\ goodRows q0=true) /\ zs=mkSt [(14,.one (.dat (.int .i64 i))),(13,.one (.dat (.int .i64 (l.length)))),(12,.one (.dat (.sl 1 (l.map encLList)))),(3,.one (.ptr (.own 0 0 0))),(0,.one (.dat (.sl 1 (l.map encLList))))] [.box (metL (q0.map rslot))]) (l.length) _
  (Ent.wk [0]) ⟨0,[],by omega,by omega,⟨rfl,rfl⟩,rfl⟩ ?_
 rintro zn zs ⟨i,q0,hi,rfl,hinv,rfl⟩ K hK
 rcases Nat.lt_or_ge i (l.length) with hlt | hge
 ·have hdi:decide ((i:Int) < ((l.length:Nat):Int))=true:=decide_eq_true (by omega)
  have hw:=wrap_succ hlt (show l.length <= maxLen by omega)
  obtain ⟨hv1,hv2⟩:=hinv
  rw [rowsOf_drop hlt] at hv1
  simp (maxSteps:=2000000) only [go_sem,seval,hdi,hw,getD_map hlt,encLList]
  refine scs ?_
  have hsl:l[i].Rows.length <= 1048576:=by
   have:=congrArg List.length hv1
   simp only [List.length_append] at this
   omega
  generalize hsd:l[i].Rows=sl at hv1 hsl ⊢
  refine LoopK_intro (fun zn zs=>∃ (k:Nat) (q:List LRow),k <= sl.length /\ zn=sl.length - k /\ (q0 ++ sl=q ++ sl.drop k /\ goodRows q=true) /\ zs=mkSt [(21,.one (.dat (.int .i64 k))),(20,.one (.dat (.int .i64 (sl.length)))),(19,.one (.dat (.sl 2 (sl.map encLRow)))),(3,.one (.ptr (.own 0 0 0))),(12,.one (.dat (.sl 1 (l.map encLList)))),(13,.one (.dat (.int .i64 (l.length:Nat)))),(14,.one (.dat (.int .i64 i))),(0,.one (.dat (.sl 1 (l.map encLList))))] [.box (metL (q.map rslot))]) (sl.length) _
   (Ent.wk [0]) ⟨0,q0,by omega,by omega,⟨rfl,hv2⟩,rfl⟩ ?_
  rintro zn zs ⟨k,q,hi2,rfl,hinv2,rfl⟩ K2 hK2
  rcases Nat.lt_or_ge k (sl.length) with hlt2 | hge2
  ·have hdi2:decide ((k:Int) < ((sl.length:Nat):Int))=true:=decide_eq_true (by omega)
   have hw2:=wrap_succ hlt2 (show sl.length <= maxLen by omega)
   obtain ⟨hu1,hu2⟩:=hinv2
   obtain ⟨r,hrk⟩:∃ r,sl[k]=r:=⟨_,rfl⟩
   have hx1:q0 ++ sl=q ++ r :: sl.drop (k + 1):=by rw [hu1,List.drop_eq_getElem_cons hlt2,hrk]
   have hx2:rowsOf l=q ++ r :: (sl.drop (k + 1) ++ rowsOf (l.drop (i + 1))):=by rw [hv1,<- List.append_assoc,hx1];simp only [List.append_assoc,List.cons_append]
   cases hrw:rowOk r with
   | false =>
    obtain ⟨bo,hbo⟩:=metL_off (q.map rslot) ((r.Handle.tmod 32).toNat * 1)
    refine sv35 ?_
    refine scs ?_
    refine ck e129 (c129 r.Handle) rfl ?_
    refine sv35 ?_
    refine scs ?_
    refine ck e57 (c57 r.Epoch 0 100000) rfl ?_
    have hco:(!handleOk r.Handle || !within r.Epoch 0 100000)=true:=by
     revert hrw;rw [rowOk];cases handleOk r.Handle <;> cases within r.Epoch 0 100000 <;> simp
    cases hh1:handleOk r.Handle
    ·simp (maxSteps:=2000000) only [go_sem,seval,hdi2,hw2,getD_map hlt2,hrk,encLRow,hbo,hh1]
     refine scs ?_
     apply hK2
     refine sv35 ?_
     apply hK
     refine sv35 ?_
     refine Fin.nt results237 [] ?_ ?_ ?_ <;> try trivial
     (refine rsl ?_;try exact .intro)
     exact (limboOk_bad hx2 (.inl hrw)).symm
    ·have hh2:within r.Epoch 0 100000=false:=by rw [hh1] at hco;simpa using hco
     simp (maxSteps:=2000000) only [go_sem,seval,hdi2,hw2,getD_map hlt2,hrk,encLRow,hbo,hh1,hh2]
     refine scs ?_
     apply hK2
     refine sv35 ?_
     apply hK
     refine sv35 ?_
     refine Fin.nt results237 [] ?_ ?_ ?_ <;> try trivial
     (refine rsl ?_;try exact .intro)
     exact (limboOk_bad hx2 (.inl hrw)).symm
   | true =>
    obtain ⟨hwi,htm⟩:=rslot_in hrw
    have hh:handleOk r.Handle=true /\ within r.Epoch 0 100000=true:=by simpa [rowOk] using hrw
    have hmg:=fun d=>metL_get (seen:=q.map rslot) (d:=d) hwi
    have hms:=metL_set (seen:=q.map rslot) hwi
    simp only [splice,List.length_cons,List.length_nil,Nat.zero_add] at hms
    have hwb:0 <= rslot r /\ rslot r <= 23:=by simpa [within] using hwi
    have hwc:(rslot r).toNat * 1 < 24:=by omega
    refine sv36 ?_
    refine scs ?_
    refine ck e129 (c129 r.Handle) rfl ?_
    refine sv36 ?_
    refine scs ?_
    refine ck e57 (c57 r.Epoch 0 100000) rfl ?_
    simp (maxSteps:=2000000) only [go_sem,seval,hdi2,hw2,getD_map hlt2,hrk,encLRow,htm,hh.1,hh.2,hmg,hms,metL_len]
    refine scs ?_
    constructor <;> intro hq3
    ·apply hK2
     refine sv36 ?_
     apply hK
     refine sv36 ?_
     refine Fin.nt results237 [] ?_ ?_ ?_ <;> try trivial
     (refine rsl ?_;try exact .intro)
     exact (limboOk_bad hx2 (.inr (by simpa using hq3))).symm
    ·refine scs ?_
     have hma:(q ++ [r]).map rslot=q.map rslot ++ [rslot r]:=by simp
     rw [<- hma]
     (apply hK2
      exact ⟨sl.length - (k + 1),_,by omega,Ent.wk [0],k + 1,(q ++ [r]),by omega,rfl,⟨by rw [hx1];simp only [List.append_assoc,List.cons_append,List.nil_append],goodRows_snoc hu2 hrw (by simpa using hq3)⟩,rfl⟩)
  ·have hge2':sl.length=k:=by omega
   subst hge2'
   have hdi2:decide (((sl.length:Nat):Int) < ((sl.length:Nat):Int))=false:=by simp
   have hu3:q0 ++ sl=q:=by rw [hinv2.1,List.drop_length,List.append_nil]
   refine sv27 ?_
   apply hK2
   refine sv0 ?_
   (apply hK
    exact ⟨l.length - (i + 1),_,by omega,Ent.wk [0],i + 1,q,by omega,rfl,⟨by rw [hv1,<- List.append_assoc,hu3],hinv2.2⟩,rfl⟩)
 ·have hge':l.length=i:=by omega
  subst hge'
  have hdi:decide (((l.length:Nat):Int) < ((l.length:Nat):Int))=false:=by simp
  have hs':rowsOf l=q0:=by rw [hinv.1,List.drop_length];simp [rowsOf]
  refine sv4 ?_
  apply hK
  refine evl ?_
  refine scs ?_
  refine ck e295 (c295 l hl hr) rfl ?_
  refine evl ?_
  refine scs ?_
  refine Fin.nt results237 [] ?_ ?_ ?_ <;> try trivial
  (refine rsl ?_;try exact .intro)
  exact (limboOk_good h3 (by rw [hs'];exact hinv.2)).symm
theorem c222 (l:List LList) (hl:l.length <= 1048576) (hr:(rowsOf l).length <= 1048576):Ctr prog 222 [.one (.dat (.sl 1 (l.map encLList)))] [] (.one (.dat (.bool (limboOk l)))) []:=by
 have hmx:maxLen=9223372036854775807:=rfl
 have hca:=c224 l hl hr
 generalize hR:rowsOf l=R at hr hca
 refine Ctr.bd mixed func222 rfl ?_
 refine sv17 ?_
 refine scs ?_
 refine ck e224 (hca) rfl ?_
 refine sv17 ?_
 refine scs ?_
 constructor <;> intro hq
 ·refine Fin.nt results222 [] ?_ ?_ ?_ <;> try trivial
  (refine rsl ?_;try exact .intro)
  simp only [limboOk,hR]
  cases h1:decide ((R.length:Int) <= 24) <;> cases h2:decide ((l.length:Int)=3) <;> simp_all <;> omega
 have h3:l.length=3 /\ R.length <= 24:=by
  cases h2:decide ((l.length:Int)=3) <;> simp_all <;> omega
 clear hq
 have hlo:limboOk l=goodRows R:=by
  rw [limboOk,hR,h3.1,decide_eq_true (by omega:(R.length:Int) <= 24)];rfl
 rw [hlo]
 refine scs ?_
 refine LoopK_intro (fun zn zs=>∃ (i:Nat) (q:List LRow),i <= R.length /\ zn=R.length - i /\ (q=R.take i /\ goodRows q=true) /\ zs=mkSt [(5,.one (.dat (.int .i64 i))),(3,.one (.own 0)),(4,.one (.own 1)),(0,.one (.dat (.sl 1 (l.map encLList))))] [.vec 2 true (R.map encLRow),.vec 1 true ((q.map rslot).map encI)]) (R.length) _
  (Ent.wk [0,1]) ⟨0,[],by omega,by omega,⟨rfl,rfl⟩,rfl⟩ ?_
 rintro zn zs ⟨i,q,hi,rfl,hinv,rfl⟩ K hK
 rcases Nat.lt_or_ge i (R.length) with hlt | hge
 ·have hdi:decide ((i:Int) < ((R.length:Nat):Int))=true:=decide_eq_true (by omega)
  have hw:=wrap_succ hlt (show R.length <= maxLen by omega)
  obtain ⟨hqe,hqg⟩:=hinv
  obtain ⟨r,hri⟩:∃ r,R[i]=r:=⟨_,rfl⟩
  have hql:q.length <= 24:=by rw [hqe,List.length_take];omega
  have htk:R.take (i + 1)=R.take i ++ [r]:=by rw [List.take_succ_eq_append_getElem hlt,hri]
  refine sv37 ?_
  refine scs ?_
  refine ck e120 (c120 r.Handle) rfl ?_
  refine sv37 ?_
  refine scs ?_
  refine ck e67 (c67 r.Epoch 0 100000) rfl ?_
  refine sv37 ?_
  refine scs ?_
  refine ck e133 (c133 (q.map rslot) (by rw [List.length_map];omega) (handleSlot r.Handle)) rfl ?_
  refine sv37 ?_
  refine scs ?_
  cases hrw:rowOk r with
  | false =>
   constructor <;> intro hq3
   ·apply hK
    refine sv37 ?_
    refine Fin.nt results222 [] ?_ ?_ ?_ <;> try trivial
    (refine rsl ?_;try exact .intro)
    rw [take_split hlt hri,goodRows_bad (.inl hrw)]
   ·exfalso
    revert hq3 hrw
    rw [rowOk,handleSlot]
    cases hh:handleOk r.Handle <;> cases within r.Epoch 0 100000 <;> simp
  | true =>
   have hh:handleOk r.Handle=true /\ within r.Epoch 0 100000=true:=by simpa [rowOk] using hrw
   have hsl:handleSlot r.Handle=rslot r:=by rw [handleSlot,if_pos hh.1];rfl
   have hpo:¬ rslot r < 0:=by rw [rslot];omega
   constructor <;> intro hq3
   ·apply hK
    refine sv37 ?_
    refine Fin.nt results222 [] ?_ ?_ ?_ <;> try trivial
    (refine rsl ?_;try exact .intro)
    rw [take_split hlt hri,goodRows_bad (.inr ?_)]
    rw [<- hqe]
    rw [hsl,decide_eq_false hpo,hh.2] at hq3
    simpa using hq3
   ·have hni:rslot r ∉ q.map rslot:=fun hm=>by
     rw [hsl,decide_eq_false hpo,hh.2] at hq3
     simp only [Bool.not_true,cond_false] at hq3
     rw [List.any_eq_true.2 ⟨_,hm,by simp⟩] at hq3
     cases hq3
    rw [hsl]
    refine scs ?_
    simp only [encI_fold]
    (apply hK
     exact ⟨R.length - (i + 1),_,by omega,Ent.wk [0,3],i + 1,(q ++ [r]),by omega,rfl,⟨by rw [htk,hqe],goodRows_snoc hqg hrw hni⟩,rfl⟩)
 ·have hge':R.length=i:=by omega
  subst hge'
  have hdi:decide (((R.length:Nat):Int) < ((R.length:Nat):Int))=false:=by simp
  rw [List.take_length] at hinv
  obtain ⟨hqe,hqg⟩:=hinv
  refine sv4 ?_
  apply hK
  refine evl ?_
  refine Fin.nt results222 [] ?_ ?_ ?_ <;> try trivial
  (refine rsl ?_;try exact .intro)
  rw [<- hqe];exact hqg.symm
def hazOk (z:List Int):Bool:=decide ((z.length:Int)=3) && z.all isLink
theorem c296 (x:Int):Ctr prog 296 [.one (.dat (.int .i64 x))] [] (.one (.dat (.bool (!isLink x)))) []:=by
 refine Ctr.bd mixed func296 rfl ?_
 refine evl ?_
 refine scs ?_
 refine ck e52 (c52 x) rfl ?_
 refine evl ?_
 refine Fin.nt results296 [] ?_ ?_ ?_ <;> try trivial
theorem c238 (z:List Int) (hl:z.length <= maxLen):Ctr prog 238 [.one (.dat (.sl 1 (z.map encI)))] [] (.one (.dat (.bool (hazOk z)))) []:=by
 refine Ctr.bd mixed func238 rfl ?_
 refine sv17 ?_
 refine scs ?_
 refine ck e163 (c163_k0 z hl e296 (fun x _=>c296 x)) rfl ?_
 refine sv17 ?_
 refine scs ?_
 refine Fin.nt results238 [] ?_ ?_ ?_ <;> try trivial
 (refine rsl ?_;try exact .intro)
 simp only [hazOk,<- any_not_all,ibeq]
 cases decide ((z.length:Int)=3) <;> rfl
theorem c223 (z:List Int) (hl:z.length <= maxLen):Ctr prog 223 [.one (.dat (.sl 1 (z.map encI)))] [] (.one (.dat (.bool (hazOk z)))) []:=by
 refine Ctr.bd mixed func223 rfl ?_
 refine sv17 ?_
 refine scs ?_
 refine LoopK_intro (fun zn zs=>∃ i:Nat,i <= z.length /\ zn=z.length - i /\ (z.all isLink=(z.drop i).all isLink) /\ zs=mkSt [(3,.one (.dat (.int .i64 i))),(0,.one (.dat (.sl 1 (z.map encI))))] []) (z.length) _
  (Ent.wk []) ⟨0,by omega,by omega,rfl,rfl⟩ ?_
 rintro zn zs ⟨i,hi,rfl,hinv,rfl⟩ K hK
 rcases Nat.lt_or_ge i (z.length) with hlt | hge
 ·have hdi:decide ((i:Int) < ((z.length:Nat):Int))=true:=decide_eq_true (by omega)
  have hw:=wrap_succ hlt hl
  rw [List.drop_eq_getElem_cons hlt,List.all_cons] at hinv
  refine sv16 ?_
  refine scs ?_
  refine ck e118 (c118 z[i]) rfl ?_
  refine sv16 ?_
  refine scs ?_
  constructor <;> intro hq
  ·have hp0:isLink z[i]=false:=by
    revert hq;simp only [isLink]
    by_cases h0:z[i]=0 <;> cases handleOk z[i] <;> simp [h0]
   rw [hp0,Bool.false_and] at hinv
   apply hK
   refine sv16 ?_
   refine Fin.nt results223 [] ?_ ?_ ?_ <;> try trivial
   (refine rsl ?_;try exact .intro)
   rw [hazOk,hinv,Bool.and_false]
  ·have hp0:isLink z[i]=true:=by
    revert hq;simp only [isLink]
    by_cases h0:z[i]=0 <;> cases handleOk z[i] <;> simp [h0]
   rw [hp0,Bool.true_and] at hinv
   (apply hK
    exact ⟨z.length - (i + 1),_,by omega,Ent.wk [],i + 1,by omega,rfl,hinv,rfl⟩)
 ·have hge':z.length=i:=by omega
  subst hge'
  have hdi:decide (((z.length:Nat):Int) < ((z.length:Nat):Int))=false:=by simp
  rw [List.drop_length,List.all_nil] at hinv
  refine sv4 ?_
  apply hK
  refine sv17 ?_
  refine Fin.nt results223 [] ?_ ?_ ?_ <;> try trivial
  (refine rsl ?_;try exact .intro)
  rw [hazOk,hinv,Bool.and_true,ibeq]
def rowLive (b:Base) (r:LRow):Bool:=isLiveM b.Mem r.Handle && decide (r.Epoch <= b.Clock.Epoch)
def baseOk (b:Base):Bool:=memOk b.Mem && clockOk b.Clock && limboOk b.Limbo && hazOk b.Haz && (rowsOf b.Limbo).all (rowLive b)
theorem base_len {b:Base} (hz:sizBase b <= 1048576):sizMem b.Mem <= 1048576 /\ b.Clock.Pins.length <= 1048576 /\ b.Limbo.length <= 1048576 /\ (rowsOf b.Limbo).length <= 1048576 /\ b.Haz.length <= 1048576 /\ ∀ x ∈ b.Limbo,x.Rows.length <= 1048576:=by
 have hs:∀ x ∈ b.Limbo,x.Rows.length <= (b.Limbo.map sizLList).sum:=fun x hx=>sum_mem sizLList hx
 rw [rowsOf_len]
 unfold sizBase sizLListS sizClock at hz
 exact ⟨by omega,by omega,by omega,by omega,by omega,fun x hx=>by have:=hs x hx;omega⟩
theorem rowsOf_all (l:List LList) (p:LRow -> Bool):(rowsOf l).all p=l.all fun x=>x.Rows.all p:=by
 simp only [rowsOf,List.all_flatten,List.all_map];rfl
theorem any_congr_not {α:Type} (l:List α) (p q:α -> Bool) (h:∀ x ∈ l,p x=!q x):(!l.any p)=l.all q:=by
 induction l with
 | nil=>rfl
 | cons a l ih=>rw [List.any_cons,List.all_cons,Bool.not_or,ih fun x hx=>h x (List.mem_cons_of_mem _ hx),h a (by simp),Bool.not_not]
theorem c242 (b:Base) (hz:sizMem b.Mem <= 1048576) (hs:shapedM b.Mem.Heap=true) (r:LRow):Ctr prog 242 [.agg ((encLRow r).map .dat),.one (.ptr (.ro 8 [encBase b] 0 0))] [] (.one (.dat (.bool (!rowLive b r)))) []:=by
 have hcl:=c111 b.Mem hz hs r.Handle
 simp only [encMem,List.map_cons,List.map_nil] at hcl
 simp only [encLRow,encBase,List.map_cons,List.map_nil]
 refine Ctr.bd mixed func242 rfl ?_
 refine evl ?_
 refine scs ?_
 refine ck e111 (hcl) rfl ?_
 refine evl ?_
 refine scs ?_
 refine Fin.nt results242 [] ?_ ?_ ?_ <;> try trivial
 (refine rsl ?_;try exact .intro)
 rw [rowLive]
 have:decide (b.Clock.Epoch < r.Epoch)=!decide (r.Epoch <= b.Clock.Epoch):=by
  by_cases h:r.Epoch <= b.Clock.Epoch
  ·simp [h]
  ·simp [h];omega
 rw [this]
 cases isLiveM b.Mem r.Handle <;> rfl
theorem c240 (b:Base) (hz:sizMem b.Mem <= 1048576) (hs:shapedM b.Mem.Heap=true) (l:LList) (hl:l.Rows.length <= maxLen):Ctr prog 240 [.agg ((encLList l).map .dat),.one (.ptr (.ro 8 [encBase b] 0 0))] [] (.one (.dat (.bool (l.Rows.any fun r=>!rowLive b r)))) []:=by
 have hcc:=c241_k1 l.Rows hl e242 (fun x _=>c242 b hz hs x)
 simp only [encBase] at hcc
 simp only [encLList,encBase,List.map_cons,List.map_nil]
 refine Ctr.bd mixed func240 rfl ?_
 refine evl ?_
 refine scs ?_
 refine ck e241 (hcc) rfl ?_
 refine evl ?_
 refine Fin.nt results240 [] ?_ ?_ ?_ <;> try trivial
theorem c161 (b:Base) (hz:sizBase b <= 1048576):Ctr prog 161 [.agg ((encBase b).map .dat)] [] (.one (.dat (.bool (baseOk b)))) []:=by
 have hmx:maxLen=9223372036854775807:=rfl
 obtain ⟨z1,z2,z3,z4,z5,z6⟩:=base_len hz
 have hcm:=c39 b.Mem z1
 have hcc:=c236 b.Clock (by omega)
 have hcf:=fun hs=>c239_k1 b.Limbo (by omega) e240 (fun x hx=>c240 b z1 hs x (by have:=z6 x hx;omega))
 simp only [encMem,encClock,encBase,List.map_cons,List.map_nil] at hcm hcc hcf ⊢
 refine Ctr.bd mixed func161 rfl ?_
 refine evl ?_
 refine scs ?_
 refine ck e39 (hcm) rfl ?_
 refine evl ?_
 refine scs ?_
 refine ck e236 (hcc) rfl ?_
 refine evl ?_
 refine scs ?_
 refine ck e237 (c237 b.Limbo z3 z4) rfl ?_
 refine evl ?_
 refine scs ?_
 refine ck e238 (c238 b.Haz (by omega)) rfl ?_
 refine evl ?_
 refine scs ?_
 constructor <;> intro hq
 ·refine Fin.nt results161 [] ?_ ?_ ?_ <;> try trivial
  (refine rsl ?_;try exact .intro)
  rw [baseOk]
  revert hq
  cases memOk b.Mem <;> cases clockOk b.Clock <;> cases limboOk b.Limbo <;> cases hazOk b.Haz <;> simp
 have hall:memOk b.Mem=true /\ clockOk b.Clock=true /\ limboOk b.Limbo=true /\ hazOk b.Haz=true:=by
  revert hq
  cases memOk b.Mem <;> cases clockOk b.Clock <;> cases limboOk b.Limbo <;> cases hazOk b.Haz <;> simp
 have hs:=(memOk_heap hall.1).2.2
 refine ck e239 (hcf hs) rfl ?_
 refine evl ?_
 refine scs ?_
 refine Fin.nt results161 [] ?_ ?_ ?_ <;> try trivial
 (refine rsl ?_;try exact .intro)
 rw [baseOk,hall.1,hall.2.1,hall.2.2.1,hall.2.2.2,rowsOf_all]
 exact any_congr_not _ _ _ fun x _=>by rw [<- any_not_all,Bool.not_not]
theorem c147 (b:Base) (hz:sizBase b <= 1048576):Ctr prog 147 [.agg ((encBase b).map .dat)] [] (.one (.dat (.bool (baseOk b)))) []:=by
 have hmx:maxLen=9223372036854775807:=rfl
 obtain ⟨z1,z2,z3,z4,z5,z6⟩:=base_len hz
 have hcm:=c14 b.Mem z1
 have hcc:=c221 b.Clock (by omega)
 have hcv:=fun hs h=>c46 b.Mem z1 hs h
 have hca:=c224 b.Limbo z3 z4
 simp only [encMem,encClock,encBase,List.map_cons,List.map_nil] at hcm hcc hcv ⊢
 refine Ctr.bd mixed func147 rfl ?_
 refine evl ?_
 refine scs ?_
 refine ck e14 (hcm) rfl ?_
 refine evl ?_
 refine scs ?_
 refine ck e221 (hcc) rfl ?_
 refine evl ?_
 refine scs ?_
 refine ck e222 (c222 b.Limbo z3 z4) rfl ?_
 refine evl ?_
 refine scs ?_
 refine ck e223 (c223 b.Haz (by omega)) rfl ?_
 refine evl ?_
 refine scs ?_
 constructor <;> intro hq
 ·refine Fin.nt results147 [] ?_ ?_ ?_ <;> try trivial
  (refine rsl ?_;try exact .intro)
  rw [baseOk]
  revert hq
  cases memOk b.Mem <;> cases clockOk b.Clock <;> cases limboOk b.Limbo <;> cases hazOk b.Haz <;> simp
 have hall:memOk b.Mem=true /\ clockOk b.Clock=true /\ limboOk b.Limbo=true /\ hazOk b.Haz=true:=by
  revert hq
  cases memOk b.Mem <;> cases clockOk b.Clock <;> cases limboOk b.Limbo <;> cases hazOk b.Haz <;> simp
 have hs:=(memOk_heap hall.1).2.2
 have hbo:baseOk b=(rowsOf b.Limbo).all (rowLive b):=by rw [baseOk,hall.1,hall.2.1,hall.2.2.1,hall.2.2.2];rfl
 rw [hbo]
 clear hq
 refine ck e224 (hca) rfl ?_
 refine evl ?_
 refine scs ?_
 generalize rowsOf b.Limbo=R at z4 hca hbo ⊢
 refine LoopK_intro (fun zn zs=>∃ i:Nat,i <= R.length /\ zn=R.length - i /\ (R.all (rowLive b)=(R.drop i).all (rowLive b)) /\ zs=mkSt [(4,.one (.dat (.int .i64 i))),(1,.one (.ptr (.own 0 0 0))),(3,.one (.own 1))] [.box [.dat (.sl 1 (b.Mem.Heap.Bytes.map encI)),.dat (.sl 1 (b.Mem.Heap.Class.map encI)),.dat (.sl 1 (b.Mem.Lists.Global.map encSList)),.dat (.sl 1 (b.Mem.Lists.Own.map encSList)),.dat (.int .i64 b.Clock.Epoch),.dat (.sl 4 (b.Clock.Pins.map encPin)),.dat (.sl 1 (b.Limbo.map encLList)),.dat (.sl 1 (b.Haz.map encI))],.vec 2 true (R.map encLRow)]) (R.length) _
  (Ent.wk [0,1]) ⟨0,by omega,by omega,rfl,rfl⟩ ?_
 rintro zn zs ⟨i,hi,rfl,hinv,rfl⟩ K hK
 rcases Nat.lt_or_ge i (R.length) with hlt | hge
 ·have hdi:decide ((i:Int) < ((R.length:Nat):Int))=true:=decide_eq_true (by omega)
  have hw:=wrap_succ hlt (show R.length <= maxLen by omega)
  rw [List.drop_eq_getElem_cons hlt,List.all_cons] at hinv
  obtain ⟨r,hri⟩:∃ r,R[i]=r:=⟨_,rfl⟩
  rw [hri] at hinv
  refine sv37 ?_
  refine scs ?_
  refine ck e46 (hcv hs r.Handle) rfl ?_
  refine sv37 ?_
  refine scs ?_
  have he:decide (b.Clock.Epoch < r.Epoch)=!decide (r.Epoch <= b.Clock.Epoch):=by
   by_cases h:r.Epoch <= b.Clock.Epoch
   ·simp [h]
   ·simp [h];omega
  rw [he]
  constructor <;> intro hq
  ·have hp0:rowLive b r=false:=by
    revert hq;rw [rowLive]
    cases isLiveM b.Mem r.Handle <;> cases decide (r.Epoch <= b.Clock.Epoch) <;> simp
   rw [hp0,Bool.false_and] at hinv
   apply hK
   refine sv37 ?_
   refine Fin.nt results147 [] ?_ ?_ ?_ <;> try trivial
   (refine rsl ?_;try exact .intro)
   exact hinv.symm
  ·have hp0:rowLive b r=true:=by
    revert hq;rw [rowLive]
    cases isLiveM b.Mem r.Handle <;> cases decide (r.Epoch <= b.Clock.Epoch) <;> simp
   rw [hp0,Bool.true_and] at hinv
   (apply hK
    exact ⟨R.length - (i + 1),_,by omega,Ent.wk [0,1],i + 1,by omega,rfl,hinv,rfl⟩)
 ·have hge':R.length=i:=by omega
  subst hge'
  have hdi:decide (((R.length:Nat):Int) < ((R.length:Nat):Int))=false:=by simp
  rw [List.drop_length,List.all_nil] at hinv
  refine sv4 ?_
  apply hK
  refine evl ?_
  refine Fin.nt results147 [] ?_ ?_ ?_ <;> try trivial
  (refine rsl ?_;try exact .intro)
  exact hinv.symm
end Go.Proofs.YtcnddedeeplbcaaGreat.Mod
