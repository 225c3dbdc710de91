/- A region whose order is open: the walk in the order of the text serves every order. -/
import Derived.Test.YtcnddedeeplbcaaGreatAbsDraw
namespace Go.Abs
set_option linter.unusedVariables false
set_option linter.unusedSimpArgs false

def pre:List Oper -> List AV -> Nat -> St -> St
 | o :: l,v :: vs,j + 1,st=>pre l vs j (st.putO o.dst (some v))
 | _,_,_,st=>st

def cnt (listed:Array Bool):Nat -> Nat
 | 0=>0
 | n + 1=>cnt listed n + (if listed.getD n true then 0 else 1)

theorem cnt_set_ge (listed:Array Bool) (i:Nat):∀ n,n <= i -> cnt (listed.setIfInBounds i true) n=cnt listed n
 | 0,_=>rfl
 | n + 1,h=>by
  simp only [cnt]
  rw [cnt_set_ge listed i n (by omega),getD_set_ne true (by omega)]

theorem cnt_set (listed:Array Bool) (i:Nat) (hi:listed.getD i true=false):∀ n,i < n -> cnt (listed.setIfInBounds i true) n + 1=cnt listed n
 | 0,h=>by omega
 | n + 1,h=>by
  simp only [cnt]
  by_cases e:i=n
  ·subst e
   have hlt:i < listed.size:=by
    apply Classical.byContradiction
    intro hn
    rw [Array.getD_eq_getD_getElem?,Array.getElem?_eq_none (by omega)] at hi
    cases hi
   have h1:(listed.setIfInBounds i true).getD i true=true:=by
    rw [Array.getD_eq_getD_getElem?,Array.getElem?_setIfInBounds_self]
    simp [hlt]
   rw [cnt_set_ge listed i i (Nat.le_refl _),h1,hi]
   simp
  ·have:=cnt_set listed i hi n (by omega)
   rw [getD_set_ne true (by omega)]
   omega

theorem cnt_replicate (m:Nat):∀ n,n <= m -> cnt (Array.replicate m false) n=n
 | 0,_=>rfl
 | n + 1,h=>by
  simp only [cnt]
  rw [cnt_replicate m n (by omega)]
  have:(Array.replicate m false).getD n true=false:=by
   rw [Array.getD_eq_getD_getElem?,Array.getElem?_eq_getElem (by simp;omega)]
   simp
  rw [this]
  simp

theorem cnt_zero {listed:Array Bool}:∀ {n:Nat},cnt listed n=0 -> ∀ i,i < n -> listed.getD i true=true
 | 0,_,i,hi=>by omega
 | n + 1,h,i,hi=>by
  simp only [cnt] at h
  by_cases e:i=n
  ·subst e
   cases hg:listed.getD i true with
   | true=>rfl
   | false=>rw [hg] at h;simp at h
  ·exact cnt_zero (n:=n) (by omega) i (by omega)

section
variable {P:Program} {B:Base} {N:Nat} {st st':St} {β:Nat -> Info} {φ:Nat -> List Nat} {a:Act} {w w':World}

theorem pre_objs:∀ (l:List Oper) (vs:List AV) (j:Nat) (st:St),∃ env,pre l vs j st={ st with env:=env }
 | [],_,_,st=>⟨st.env,rfl⟩
 | _ :: _,[],_,st=>⟨st.env,rfl⟩
 | _ :: _,_ :: _,0,st=>⟨st.env,rfl⟩
 | o :: l,v :: vs,j + 1,st=>by
  obtain ⟨env,h⟩:=pre_objs l vs j (st.putO o.dst (some v))
  refine ⟨env,?_⟩
  show pre l vs j _=_
  rw [h]
  unfold St.putO
  split <;> rfl

def DrawnAll (P:Program) (ops:Array Oper) (l:List Oper) (st:St) (K:St -> Prop):Prop:=∃ vs:List AV,vs.length=l.length /\ (∀ o ∈ l,effOp o.op=false) /\
  (∀ (j:Nat) (o:Oper) (v:AV),l[j]?=some o -> vs[j]?=some v -> stepD P ops (pre l vs j st) o (·=v)) /\ K (pre l vs l.length st)

def preE:List Oper -> List AV -> List (List AObj) -> Nat -> St -> St
 | o :: l,v :: vs,x :: xs,j + 1,st=>preE l vs xs j ((st.after [] x).putO o.dst (some v))
 | _,_,_,_,st=>st

def PlaceAt (P:Program) (o:Oper) (id:Nat) (y:AObj) (v:AV):Prop:=∀ (B:Base) (N:Nat) (st:St) (β:Nat -> Info) (φ:Nat -> List Nat) (a:Act) (w:World),SR B N st β φ a w -> id < st.next -> B.n <= id -> st.obj id=.hole ->
 ∃ β' φ' w' z,SR B N (st.setObj id y) β' φ' a w' /\ (execOp a.eval o).run P w=.ok (.value z) w' /\ AVRel ((st.setObj id y).ctx w' β' φ') v z
theorem place_alloc {P:Program} {o:Oper} {t:TypeId} {ds:List D} (eo:o.op=.alloc t) (hz:tz P t=some ds) (id:Nat):PlaceAt P o id (.box (ds.map zleaf)) (.one (.ptr (.own id 0 0))):=fun B N st β φ a w h hid hB hh=>by
 obtain ⟨β',φ',w',z,sr',hrun,hr⟩:=allocAt (P:=P) h hz hid hB hh
 refine ⟨β',φ',w',z,sr',?_,hr⟩
 unfold execOp
 simp only [eo]
 simp [hrun]
theorem place_make {P:Program} {o:Oper} {t e:TypeId} {s y:Nat} {zs:List D} {k k':IntKind} {l:Int} (eo:o.op=.makeSlice t (.const (.int k l)) (.const (.int k' l))) (ht:te P t=some (e,s,y)) (hz:tz P e=some zs) (h0:0 <= l) (hby:(y:Int) * l <= 281474976710656) (h63:l <= 9223372036854775807) (hzl:zs.length=s) (id:Nat) :
  PlaceAt P o id (.vec s true (List.replicate l.toNat zs)) (.one (.own id)):=fun B N st β φ a w h hid hB hh=>by
 obtain ⟨β',φ',w',z,sr',hrun,hr⟩:=makeAt (P:=P) (k:=k) (k':=k') h ht hz h0 hby h63 hzl hid hB hh
 refine ⟨β',φ',w',z,sr',?_,hr⟩
 unfold execOp
 simp only [eo]
 simp [Act.eval,hrun]

def StepB (P:Program) (ops:Array Oper) (st:St) (o:Oper) (v:AV) (x:List AObj) (al:Option Nat) (b:Bool):Prop :=
 (al=none /\ x=[] /\ stepD P ops st o (·=v)) \/ (al=none /\ b=true /\ o.guard=none /\ bringX P st o v x) \/
 (∃ id y,al=some id /\ x=[] /\ b=false /\ o.guard=none /\ PlaceAt P o id y v /\ st.obj id=y)
def StepE (P:Program) (ops:Array Oper) (st:St) (o:Oper) (v:AV) (x:List AObj) (al:Option Nat):Prop :=
 (al=none /\ x=[] /\ stepD P ops st o (·=v)) \/ (al=none /\ bringV o.op=true /\ o.guard=none /\ bringX P st o v x) \/
 (∃ id y,al=some id /\ x=[] /\ bringV o.op=false /\ o.guard=none /\ PlaceAt P o id y v /\ st.obj id=y)

def fstOk (fl:Bool) (o:Oper):Prop:=if fl=true then ∃ d,o.dst=some d else effT o.op=false

def Step0 (st st2:St):Prop:=∀ (B:Base) (N:Nat) β φ a w,SR B N st β φ a w -> ∃ β' φ',SR B N st2 β' φ' a w

theorem step0_refl {st:St}:Step0 st st:=fun B N β φ a w h=>⟨β,φ,h⟩

def DrawnEff (fl:Bool) (P:Program) (ops:Array Oper) (l:List Oper) (st:St) (ms:List Nat) (K:St -> Prop):Prop:=∃ (l' l2:List Oper) (vs:List AV) (xs:List (List AObj)) (as:List (Option Nat)),l=l' ++ l2 /\ vs.length=l'.length /\ xs.length=l'.length /\ as.length=l'.length /\ as.filterMap (fun x=>x)=ms /\ (∀ o ∈ l',fstOk fl o) /\
  (∀ (j:Nat) (o:Oper) (v:AV) (x:List AObj) (al:Option Nat),l'[j]?=some o -> vs[j]?=some v -> xs[j]?=some x -> as[j]?=some al -> StepE P ops (preE l' vs xs j st) o v x al) /\ (l2 ≠ [] -> seqOk ops (ops.size - l2.length)=true) /\ ∃ st2,Step0 (preE l' vs xs l'.length st) st2 /\ regQ P ops l2 st2 K

def DrawnB (fl:Bool) (br:Nat -> Bool) (P:Program) (ops:Array Oper) (l:List Oper) (st:St) (ms:List Nat) (K:St -> Prop):Prop:=∃ (l' l2:List Oper) (vs:List AV) (xs:List (List AObj)) (as:List (Option Nat)),l=l' ++ l2 /\ vs.length=l'.length /\ xs.length=l'.length /\ as.length=l'.length /\ as.filterMap (fun x=>x)=ms /\ (∀ o ∈ l',fstOk fl o) /\
  (∀ (j:Nat) (o:Oper) (v:AV) (x:List AObj) (al:Option Nat),l'[j]?=some o -> vs[j]?=some v -> xs[j]?=some x -> as[j]?=some al -> StepB P ops (preE l' vs xs j st) o v x al (br (ops.size - l.length + j))) /\ (l2 ≠ [] -> seqOk ops (ops.size - l2.length)=true) /\ ∃ st2,Step0 (preE l' vs xs l'.length st) st2 /\ regQ P ops l2 st2 K
def brOf (ops:Array Oper) (j:Nat):Bool:=match ops[j]? with
 | some o=>bringV o.op
 | none=>false
theorem DrawnEff.toB {fl:Bool} {ops:Array Oper} {st:St} {ms:List Nat} {K:St -> Prop} (h:DrawnEff fl P ops ops.toList st ms K):DrawnB fl (brOf ops) P ops ops.toList st ms K:=by
 obtain ⟨l',l2,vs,xs,as,e,g1,g2,ga,gm,g0,g3,g4,g5⟩:=h
 refine ⟨l',l2,vs,xs,as,e,g1,g2,ga,gm,g0,fun j o v x al hj hv hx ha=>?_,g4,g5⟩
 have hb:brOf ops (ops.size - ops.toList.length + j)=bringV o.op:=by
  rw [Array.length_toList,Nat.sub_self,Nat.zero_add]
  unfold brOf
  have hl:=(List.getElem?_eq_some_iff.1 hj).1
  rw [<- Array.getElem?_toList,e,List.getElem?_append_left hl,hj]
 rw [hb]
 exact g3 j o v x al hj hv hx ha
theorem DrawnB.cons {fl:Bool} {br:Nat -> Bool} {ops:Array Oper} {K:St -> Prop} {o:Oper} {l:List Oper} {st:St} {v:AV} {x:List AObj} {al:Option Nat} {ms:List Nat} (hlen:l.length + 1 <= ops.size) (hne:fstOk fl o) (h1:StepB P ops st o v x al (br (ops.size - (l.length + 1)))) (h2:DrawnB fl br P ops l ((st.after [] x).putO o.dst (some v)) ms K):DrawnB fl br P ops (o :: l) st (al.toList ++ ms) K:=by
 obtain ⟨l',l2,vs,xs,as,rfl,g1,g2,ga,gm,g0,g3,g4,g5⟩:=h2
 refine ⟨o :: l',l2,v :: vs,x :: xs,al :: as,rfl,by simp [g1],by simp [g2],by simp [ga],by cases al <;> simp [gm],fun p hp=>by
  rcases List.mem_cons.1 hp with rfl | hp
  ·exact hne
  ·exact g0 p hp,fun j o' v' x' al' hj hv hx ha=>?_,g4,g5⟩
 cases j with
 | zero =>
  simp at hj hv hx ha
  subst hj;subst hv;subst hx;subst ha
  exact h1
 | succ j =>
  simp at hj hv hx ha
  have:=g3 j o' v' x' al' hj hv hx ha
  rw [show ops.size - (o :: (l' ++ l2)).length + (j + 1)=ops.size - (l' ++ l2).length + j from by rw [List.length_cons];omega]
  exact this
theorem DrawnB.nil {fl:Bool} {br:Nat -> Bool} {ops:Array Oper} {K:St -> Prop} {st:St} {st2:St} (h0:Step0 st st2) (h2:K st2):DrawnB fl br P ops [] st [] K :=
 ⟨[],[],[],[],[],rfl,rfl,rfl,rfl,rfl,by simp,fun j o v x al hj=>by simp at hj,fun h=>absurd rfl h,st2,h0,h2⟩
theorem DrawnEff.cons {fl:Bool} {ops:Array Oper} {K:St -> Prop} {o:Oper} {l:List Oper} {st:St} {v:AV} {x:List AObj} {al:Option Nat} {ms:List Nat} (hne:fstOk fl o) (h1:StepE P ops st o v x al) (h2:DrawnEff fl P ops l ((st.after [] x).putO o.dst (some v)) ms K):DrawnEff fl P ops (o :: l) st (al.toList ++ ms) K:=by
 obtain ⟨l',l2,vs,xs,as,rfl,g1,g2,ga,gm,g0,g3,g4,g5⟩:=h2
 refine ⟨o :: l',l2,v :: vs,x :: xs,al :: as,rfl,by simp [g1],by simp [g2],by simp [ga],by cases al <;> simp [gm],fun p hp=>by
  rcases List.mem_cons.1 hp with rfl | hp
  ·exact hne
  ·exact g0 p hp,fun j o' v' x' al' hj hv hx ha=>?_,g4,g5⟩
 cases j with
 | zero =>
  simp at hj hv hx ha
  subst hj;subst hv;subst hx;subst ha
  exact h1
 | succ j =>
  simp at hj hv hx ha
  exact g3 j o' v' x' al' hj hv hx ha

theorem DrawnEff.nil {fl:Bool} {ops:Array Oper} {K:St -> Prop} {st:St} {l:List Oper} (h1:l ≠ [] -> seqOk ops (ops.size - l.length)=true) {st2:St} (h0:Step0 st st2) (h2:regQ P ops l st2 K):DrawnEff fl P ops l st [] K :=
 ⟨[],l,[],[],[],rfl,rfl,rfl,rfl,rfl,by simp,fun j o v x al hj=>by simp at hj,h1,st2,h0,h2⟩

theorem drawE_ex {ops:Array Oper} {K:St -> Prop}:∀ (l:List Oper) (st:St) (ms:List Nat),drawE P ops l st ms K -> DrawnEff false P ops l st ms K
 | [],st,ms,h=>by
  obtain ⟨rfl,h⟩:=h
  exact .nil (by simp) step0_refl h
 | o :: l,st,ms,h=>by
  have pure:∀ {K':AV -> Prop},effOp o.op=false -> stepD P ops st o K' -> (∀ v,K' v -> drawE P ops l (st.putO o.dst (some v)) ms K) -> DrawnEff false P ops (o :: l) st ms K:=fun {K'} hne hs hk=>by
   obtain ⟨v,h1,h2⟩:=stepD_ex hs
   exact .cons (al:=none) (show effT o.op=false by unfold effT;rw [hne];rfl) (x:=[]) (.inl ⟨rfl,rfl,h1⟩) (by rw [after_nil];exact drawE_ex l _ ms (hk v h2))
  simp only [drawE] at h
  split at h
  ·rename_i hc
   cases ms with
   | nil=>simp at hc
   | cons m ms =>
    simp only [List.headD_cons,List.tail_cons] at h
    unfold allocQ at h
    split at h
    ·rename_i t eo
     split at h
     ·rename_i ds hz
      obtain ⟨hg,hb,hk⟩:=h
      refine DrawnEff.cons (al:=some m) (x:=[]) (v:=.one (.ptr (.own m 0 0))) (show effT o.op=false by rw [eo];rfl) (.inr (.inr ⟨m,_,rfl,rfl,by rw [eo];rfl,by simpa using hg,place_alloc eo hz m,hb⟩)) ?_
      rw [after_nil]
      exact drawE_ex l _ ms hk
     ·exact h.elim
    ·exact h.elim
  ·split at h
   ·obtain ⟨h1,rfl,h2⟩:=h
    exact .nil (fun _=>h1) step0_refl h2
   ·rename_i hne
    have hne':effOp o.op=false:=by simpa using hne
    split at h
    ·rename_i hc
     simp only [Bool.and_eq_true] at hc
     rcases h with h | h
     ·exact pure hne' (condCall_stepD hc.1 hc.2 h) fun v hv=>hv
     ·obtain ⟨v,x,h1,h2⟩:=effQ_ex h
      exact .cons (al:=none) (show effT o.op=false by unfold effT;rw [hne'];rfl) (.inr (.inl ⟨rfl,by unfold bringV;rw [hc.1];rfl,by simpa using hc.2,.inl h1⟩)) (drawE_ex l _ ms h2)
    ·exact pure hne' h fun v hv=>hv

theorem drawQ_ex {ops:Array Oper} {K:St -> Prop}:∀ (l:List Oper) (st:St),drawQ P ops l st K -> DrawnAll P ops l st K \/ (effOk ops=true /\ DrawnEff false P ops l st [] K)
 | [],st,h=>.inl ⟨[],rfl,by simp,fun j o v hj=>by simp at hj,h⟩
 | o :: l,st,h=>by
  have pure:∀ {K':AV -> Prop},effOp o.op=false -> stepD P ops st o K' -> (∀ v,K' v -> drawQ P ops l (st.putO o.dst (some v)) K) -> DrawnAll P ops (o :: l) st K \/ (effOk ops=true /\ DrawnEff false P ops (o :: l) st [] K):=fun {K'} hne hs hk=>by
   obtain ⟨v,h1,h2⟩:=stepD_ex hs
   rcases drawQ_ex l _ (hk v h2) with ⟨vs,g1,g0,g2,g3⟩ | ⟨he,hd⟩
   ·refine .inl ⟨v :: vs,by simp [g1],fun p hp=>by
     rcases List.mem_cons.1 hp with rfl | hp
     ·exact hne
     ·exact g0 p hp,fun j o' v' hj hv=>?_,g3⟩
    cases j with
    | zero =>
     simp at hj hv
     subst hj
     subst hv
     exact h1
    | succ j =>
     simp at hj hv
     exact g2 j o' v' hj hv
   ·exact .inr ⟨he,.cons (al:=none) (show effT o.op=false by unfold effT;rw [hne];rfl) (x:=[]) (.inl ⟨rfl,rfl,h1⟩) (by rw [after_nil];exact hd)⟩
  simp only [drawQ] at h
  split at h
  ·exact .inr ⟨h.2.1,.nil (fun _=>h.1) step0_refl h.2.2⟩
  ·rename_i hne
   have hne':effOp o.op=false:=by simpa using hne
   split at h
   ·rename_i hc
    simp only [Bool.and_eq_true] at hc
    rcases h with h | ⟨he,h⟩
    ·exact pure hne' (condCall_stepD hc.1 hc.2 h) fun v hv=>hv
    ·obtain ⟨v,x,h1,h2⟩:=effQ_ex h
     exact .inr ⟨he,.cons (al:=none) (show effT o.op=false by unfold effT;rw [hne'];rfl) (.inr (.inl ⟨rfl,by unfold bringV;rw [hc.1];rfl,by simpa using hc.2,.inl h1⟩)) (drawE_ex l _ [] h2)⟩
   ·exact pure hne' h fun v hv=>hv

theorem find_pre:∀ (l:List Oper) (vs:List AV) (j:Nat) (st:St),vs.length=l.length -> (∀ (i:Nat) (o:Oper),l[i]?=some o -> ∃ d,o.dst=some d) ->
  (∀ (i i':Nat) (o o':Oper),l[i]?=some o -> l[i']?=some o' -> o.dst=o'.dst -> i=i') -> j <= l.length ->
  (∀ (i:Nat) (o:Oper) (d:Nat) (v:AV),i < j -> l[i]?=some o -> o.dst=some d -> vs[i]?=some v -> find (pre l vs j st).env d=some v) /\
  (∀ t,(∀ (i:Nat) (o:Oper),i < j -> l[i]?=some o -> o.dst ≠ some t) -> find (pre l vs j st).env t=find st.env t)
 | [],vs,j,st,hl,hd,hu,hj=>by
  have:j=0:=by simpa using hj
  subst this
  exact ⟨fun i o d v hi=>by omega,fun t _=>rfl⟩
 | o :: l,[],j,st,hl,hd,hu,hj=>by simp at hl
 | o :: l,v :: vs,0,st,hl,hd,hu,hj=>⟨fun i o d v hi=>by omega,fun t _=>rfl⟩
 | o :: l,v :: vs,j + 1,st,hl,hd,hu,hj=>by
  obtain ⟨d0,hd0⟩:=hd 0 o rfl
  obtain ⟨g1,g2⟩:=find_pre l vs j (st.putO o.dst (some v)) (by simpa using hl) (fun i o' hi=>hd (i + 1) o' (by simpa using hi))
   (fun i i' o1 o2 h1 h2 he=>by have:=hu (i + 1) (i' + 1) o1 o2 (by simpa using h1) (by simpa using h2) he;omega) (by simpa using hj)
  have hput:∀ t,find (st.putO o.dst (some v)).env t=if t=d0 then some v else find st.env t:=fun t=>by
   rw [hd0]
   rfl
  refine ⟨fun i o' d v' hi ho' hd' hv'=>?_,fun t ht=>?_⟩
  ·cases i with
   | zero =>
    simp at ho' hv'
    subst ho'
    subst hv'
    rw [hd0] at hd'
    cases hd'
    show find (pre l vs j _).env d0=_
    rw [g2 d0 (fun i o1 hi h1 he=>by have:=hu 0 (i + 1) o o1 rfl (by simpa using h1) (by rw [hd0,he]);omega),hput,if_pos rfl]
   | succ i=>exact g1 i o' d v' (by omega) (by simpa using ho') hd' (by simpa using hv')
  ·show find (pre l vs j _).env t=_
   rw [g2 t (fun i o1 hi h1=>ht (i + 1) o1 (by omega) (by simpa using h1)),hput,if_neg (fun e=>ht 0 o (by omega) rfl (by rw [hd0,e]))]

theorem drawOk_spec {ops:Array Oper} (h:drawOk ops N=true):(∀ (j:Nat) (o:Oper),ops[j]?=some o -> ((∀ d,o.dst=some d -> d < N) /\ (o.dst=none -> ∃ i p,i <= j /\ ops[i]?=some p /\ effT p.op=true)) /\ (∀ e ∈ o.after,Region.binds .any e=true -> e.on < j)) /\
  (∀ (i j:Nat) (p o:Oper),ops[i]?=some p -> ops[j]?=some o -> (p.dst=o.dst -> p.dst=none \/ i=j) /\ ∀ d,p.dst=some d -> d ∈ Oper.looks ops o -> (∃ e ∈ o.after,Region.binds .any e=true /\ e.on=i) \/ (j < i /\ ∃ e ∈ p.after,Region.binds .any e=true /\ e.on=j)):=by
 unfold drawOk at h
 rw [List.all_eq_true] at h
 have key:∀ (j:Nat) (o:Oper),ops[j]?=some o -> (o,j) ∈ ops.toList.zipIdx:=fun j o hj=>by
  rw [List.mem_zipIdx_iff_getElem?]
  simpa using hj
 refine ⟨fun j o hj=>?_,fun i j p o hi hj=>?_⟩
 ·have h1:=h _ (key j o hj)
  simp only [Bool.and_eq_true] at h1
  obtain ⟨⟨h1,h2⟩,_⟩:=h1
  refine ⟨?_,fun e he hb=>?_⟩
  ·cases hd:o.dst with
   | some d =>
    rw [hd] at h1
    exact ⟨fun d' hd'=>by cases hd';simpa using h1,fun hn=>by cases hn⟩
   | none =>
    rw [hd] at h1
    refine ⟨fun d' hd'=>(by cases hd'),fun _=>?_⟩
    obtain ⟨⟨p,i⟩,hpi,h3⟩:=List.any_eq_true.1 h1
    simp only [Bool.and_eq_true,decide_eq_true_eq] at h3
    exact ⟨i,p,h3.1,by have:=List.mem_zipIdx_iff_getElem?.1 hpi;simpa using this,h3.2⟩
  ·have:=(Array.all_eq_true_iff_forall_mem.1 h2) e he
   simp [hb] at this
   exact this
 ·have h1:=h _ (key j o hj)
  simp only [Bool.and_eq_true] at h1
  have h2:=(List.all_eq_true.1 h1.2) _ (key i p hi)
  simp only [Bool.and_eq_true] at h2
  refine ⟨fun he=>?_,fun d hd hl=>?_⟩
  ·have:=h2.1
   rw [he] at this ⊢
   cases ho:o.dst with
   | none=>exact .inl rfl
   | some d=>rw [ho] at this;exact .inr (by simpa using this)
  ·have h3:=h2.2
   rw [hd] at h3
   have hcn:(Oper.looks ops o).contains d=true:=List.contains_iff_mem.2 hl
   simp only [hcn,Bool.not_true,Bool.false_or,Bool.or_eq_true,Bool.and_eq_true,decide_eq_true_eq] at h3
   rcases h3 with h3 | ⟨hji,h3⟩
   ·obtain ⟨k,hk,h4⟩:=Array.any_eq_true.1 h3
    simp only [Bool.and_eq_true] at h4
    exact .inl ⟨o.after[k],Array.getElem_mem hk,h4.1,by simpa using h4.2⟩
   ·obtain ⟨k,hk,h4⟩:=Array.any_eq_true.1 h3
    simp only [Bool.and_eq_true] at h4
    exact .inr ⟨hji,p.after[k],Array.getElem_mem hk,h4.1,by simpa using h4.2⟩

theorem dst_of {ops:Array Oper} (h:drawOk ops N=true) {n:Nat} (hne:∀ i p,i < n -> ops[i]?=some p -> effT p.op=false) {j:Nat} {o:Oper} (hj:j < n) (ho:ops[j]?=some o):∃ d,o.dst=some d /\ d < N:=by
 obtain ⟨⟨h1,h2⟩,_⟩:=(drawOk_spec h).1 j o ho
 cases hd:o.dst with
 | some d=>exact ⟨d,rfl,h1 d hd⟩
 | none =>
  obtain ⟨i,p,hi,hp,he⟩:=h2 hd
  rw [hne i p (by omega) hp] at he
  cases he

theorem uniq_of {ops:Array Oper} (h:drawOk ops N=true) {i j:Nat} {p o:Oper} (hp:ops[i]?=some p) (ho:ops[j]?=some o) {d:Nat} (hd:p.dst=some d) (he:p.dst=o.dst):i=j:=by
 rcases ((drawOk_spec h).2 i j p o hp ho).1 he with h1 | h1
 ·rw [hd] at h1;cases h1
 ·exact h1

def Drawn (B:Base) (N:Nat) (st:St) (ops:Array Oper) (vs:List AV) (listed:Array Bool) (a:Act) (w:World):Prop :=
 ∃ β φ env,SR B N { st with env:=env } β φ a w /\
  (∀ (j:Nat) (o:Oper) (d:Nat) (v:AV),ops[j]?=some o -> o.dst=some d -> vs[j]?=some v -> listed.getD j false=true -> find env d=some v) /\
  (∀ t,(∀ (j:Nat) (o:Oper),ops[j]?=some o -> listed.getD j false=true -> o.dst ≠ some t) -> find env t=find st.env t)

theorem getD_tf {listed:Array Bool} {n k:Nat} (hsz:listed.size=n) (hk:k < n) (x y:Bool):listed.getD k x=listed.getD k y:=by
 rw [Array.getD_eq_getD_getElem?,Array.getD_eq_getD_getElem?,Array.getElem?_eq_getElem (by omega)]
 rfl

theorem closed_set {ops:Array Oper} {listed:Array Bool} (hsz:listed.size=ops.size) {i:Nat} {o:Oper} (ho:ops[i]?=some o) (hin:i < ops.size) (hedge:∀ e ∈ o.after,Region.binds .any e=true -> listed.getD e.on true=true)
  (hcl:∀ (j:Nat) (o:Oper),ops[j]?=some o -> listed.getD j true=true -> ∀ e ∈ o.after,Region.binds .any e=true -> listed.getD e.on true=true) :
  ∀ (j:Nat) (o:Oper),ops[j]?=some o -> (listed.setIfInBounds i true).getD j true=true -> ∀ e ∈ o.after,Region.binds .any e=true -> (listed.setIfInBounds i true).getD e.on true=true:=fun j p hp hj e hem hb=>by
 by_cases ee:e.on=i
 ·rw [ee,Array.getD_eq_getD_getElem?,Array.getElem?_setIfInBounds_self]
  simp [hsz,hin]
 ·rw [getD_set_ne true (Ne.symm ee)]
  by_cases ej:j=i
  ·subst ej
   rw [ho] at hp
   cases hp
   exact hedge e hem hb
  ·rw [getD_set_ne true (Ne.symm ej)] at hj
   exact hcl j p hp hj e hem hb

theorem any_wp {ops:Array Oper} {Q:Exit -> Act -> World -> Prop} {K:St -> Prop} (hok:drawOk ops N=true) {vs:List AV} (hvs:vs.length=ops.toList.length) (hne:∀ o ∈ ops.toList,effOp o.op=false)
  (hst:∀ (j:Nat) (o:Oper) (v:AV),ops.toList[j]?=some o -> vs[j]?=some v -> stepD P ops (pre ops.toList vs j st) o (·=v)) (hK:K (pre ops.toList vs ops.toList.length st))
  (hQ:∀ st' β φ a w,SR B N st' β φ a w -> K st' -> Q .normal a w):∀ (fuel:Nat) (listed:Array Bool),listed.size=ops.size -> cnt listed ops.size=fuel -> (∀ (j:Nat) (o:Oper),ops[j]?=some o -> listed.getD j true=true -> ∀ e ∈ o.after,Region.binds .any e=true -> listed.getD e.on true=true) -> ∀ {a:Act} {w:World},Drawn B N st ops vs listed a w -> wpAny P .any ops Q fuel listed a w:=by
 obtain ⟨hs1',hs2'⟩:=drawOk_spec hok
 have hs1:∀ (j:Nat) (o:Oper),ops[j]?=some o -> (∃ d,o.dst=some d /\ d < N) /\ (∀ e ∈ o.after,Region.binds .any e=true -> e.on < j):=fun j o ho =>
  ⟨dst_of hok (n:=ops.size) (fun i p _ hp=>by unfold effT;rw [hne p (List.mem_of_getElem? (i:=i) (by simpa using hp))];rfl) (Array.getElem?_eq_some_iff.1 ho).1 ho,(hs1' j o ho).2⟩
 have hs2:∀ (i j:Nat) (p o:Oper),ops[i]?=some p -> ops[j]?=some o -> (p.dst=o.dst -> i=j) /\ ∀ d,p.dst=some d -> d ∈ Oper.looks ops o -> (∃ e ∈ o.after,Region.binds .any e=true /\ e.on=i) \/ (j < i /\ ∃ e ∈ p.after,Region.binds .any e=true /\ e.on=j):=fun i j p o hp ho =>
  ⟨fun he=>by obtain ⟨⟨d,hd,_⟩,_⟩:=hs1 i p hp;exact uniq_of hok hp ho hd he,(hs2' i j p o hp ho).2⟩
 have hdst:∀ (i:Nat) (o:Oper),ops.toList[i]?=some o -> ∃ d,o.dst=some d:=fun i o hi=>by
  obtain ⟨⟨d,hd,_⟩,_⟩:=hs1 i o (by simpa using hi)
  exact ⟨d,hd⟩
 have huniq:∀ (i i':Nat) (o o':Oper),ops.toList[i]?=some o -> ops.toList[i']?=some o' -> o.dst=o'.dst -> i=i':=fun i i' o o' h1 h2 he =>
  (hs2 i i' o o' (by simpa using h1) (by simpa using h2)).1 he
 have hfp:=fun j hj=>find_pre ops.toList vs j st hvs hdst huniq hj
 have hready:∀ listed:Array Bool,listed.size=ops.size -> Region.ready .any ops listed=[] -> ∀ k,k < ops.size -> listed.getD k true=true:=fun listed hsz hr k=>by
  induction k using Nat.strongRecOn with
  | _ k ih =>
   intro hk
   apply Classical.byContradiction
   intro hn
   have hn':listed.getD k true=false:=by simpa using hn
   have hmem:k ∈ Region.ready .any ops listed:=mem_ready.2 ⟨hn',ops[k],Array.getElem?_eq_getElem hk,fun e he hb=>by
    have hlt:=(hs1 k ops[k] (Array.getElem?_eq_getElem hk)).2 e he hb
    have:=ih e.on hlt (by omega)
    rw [Array.getD_eq_getD_getElem?,Array.getElem?_eq_getElem (by omega)] at this ⊢
    exact this⟩
   rw [hr] at hmem
   cases hmem
 have hall:∀ (listed:Array Bool) {a:Act} {w:World},listed.size=ops.size -> (∀ k,k < ops.size -> listed.getD k true=true) -> Drawn B N st ops vs listed a w -> Q .normal a w:=fun listed a w hsz hl hD=>by
  obtain ⟨β,φ,env,sr,d1,d2⟩:=hD
  obtain ⟨env',he⟩:=pre_objs ops.toList vs ops.toList.length st
  rw [he] at hK
  refine hQ _ β φ a w (sr.forget env' fun t v hv=>?_) hK
  obtain ⟨f1,f2⟩:=hfp ops.toList.length (Nat.le_refl _)
  rw [he] at f1 f2
  by_cases hex:∃ (j:Nat) (o:Oper),ops[j]?=some o /\ o.dst=some t
  ·obtain ⟨j,o,ho,hd⟩:=hex
   have hj:j < ops.size:=(Array.getElem?_eq_some_iff.1 ho).1
   have hjv:vs[j]?=some (vs[j]'(by rw [hvs];simpa using hj)):=List.getElem?_eq_getElem _
   have h1:=f1 j o t _ (by simpa using hj) (by simpa using ho) hd hjv
   have h2:=d1 j o t _ ho hd hjv (by
    have:=hl j hj
    rw [Array.getD_eq_getD_getElem?,Array.getElem?_eq_getElem (by omega)] at this ⊢
    exact this)
   have hv':find env' t=some v:=hv
   rw [h1] at hv'
   cases hv'
   exact h2
  ·have hno:∀ (j:Nat) (o:Oper),ops[j]?=some o -> o.dst ≠ some t:=fun j o ho hd=>hex ⟨j,o,ho,hd⟩
   have h1:=f2 t (fun i o _ ho=>hno i o (by simpa using ho))
   have hv':find env' t=some v:=hv
   rw [h1] at hv'
   rw [<- d2 t (fun j o ho _=>hno j o ho)] at hv'
   exact hv'
 intro fuel
 induction fuel with
 | zero =>
  intro listed hsz hc hcl a w hD
  have hl:=cnt_zero hc
  refine ⟨?_,hall listed hsz hl hD⟩
  refine List.eq_nil_iff_forall_not_mem.2 fun k hk=>?_
  obtain ⟨h1,o,ho,_⟩:=mem_ready.1 hk
  rw [hl k (Array.getElem?_eq_some_iff.1 ho).1] at h1
  cases h1
 | succ fuel ih =>
  intro listed hsz hc hcl a w hD
  refine ⟨fun hr=>hall listed hsz (hready listed hsz hr) hD,fun i hi=>?_⟩
  obtain ⟨hun,o,ho,hedge⟩:=mem_ready.1 hi
  have hin:i < ops.size:=(Array.getElem?_eq_some_iff.1 ho).1
  obtain ⟨β,φ,env,sr,d1,d2⟩:=hD
  obtain ⟨⟨d,hd,hdN⟩,hfor⟩:=hs1 i o ho
  have hiv:vs[i]?=some (vs[i]'(by rw [hvs];simpa using hin)):=List.getElem?_eq_getElem _
  generalize vs[i]'(by rw [hvs];simpa using hin)=v at hiv
  obtain ⟨env',he⟩:=pre_objs ops.toList vs i st
  obtain ⟨f1,f2⟩:=hfp i (by simp;omega)
  have hs:=hst i o v (by simpa using ho) hiv
  rw [he] at hs f1 f2
  have hs':stepD P ops { st with env:=env } o (·=v):=by
   refine stepD_env (st:={ st with env:=env' }) (fun t ht=>?_) hs
   by_cases hex:∃ (j:Nat) (p:Oper),ops[j]?=some p /\ p.dst=some t
   ·obtain ⟨j,p,hp,hpd⟩:=hex
    have hj:j < ops.size:=(Array.getElem?_eq_some_iff.1 hp).1
    rcases (hs2 j i p o hp ho).2 t hpd ht with ⟨e,hem,hb,hon⟩ | ⟨hij,e,hem,hb,hon⟩
    ·have hlt:j < i:=by have:=hfor e hem hb;omega
     have hjv:vs[j]?=some (vs[j]'(by rw [hvs];simpa using hj)):=List.getElem?_eq_getElem _
     have h1:find env' t=_:=f1 j p t _ hlt (by simpa using hp) hpd hjv
     have h2:=d1 j p t _ hp hpd hjv (by rw [<- hon];exact hedge e hem hb)
     show find env t=find env' t
     rw [h1,h2]
    ·have h1:find env' t=find st.env t:=f2 t (fun k p' hk hp' hd'=>by
      have:=(hs2 k j p' p (by simpa using hp') hp).1 (by rw [hd',hpd])
      omega)
     have h2:find env t=find st.env t:=d2 t (fun k p' hp' hl hd'=>by
      have hkj:=(hs2 k j p' p hp' hp).1 (by rw [hd',hpd])
      subst hkj
      rw [hp] at hp'
      cases hp'
      have:=hcl k p hp (by rw [getD_tf hsz hj true false];exact hl) e hem hb
      rw [hon,hun] at this
      cases this)
     show find env t=find env' t
     rw [h1,h2]
   ·have hno:∀ (j:Nat) (p:Oper),ops[j]?=some p -> p.dst ≠ some t:=fun j p hp hpd=>hex ⟨j,p,hp,hpd⟩
    have h1:find env' t=_:=f2 t (fun k p _ hp=>hno k p (by simpa using hp))
    show find env t=find env' t
    rw [h1,d2 t (fun j p hp _=>hno j p hp)]
  have hwp:=stepD_wp (Q:=Q) (next:=wpAny P .any ops Q fuel (listed.setIfInBounds i true)) sr hs' (fun β' φ' w' x sr' hv=>by
   refine ih (listed.setIfInBounds i true) (by simpa using hsz) (by have:=cnt_set listed i hun ops.size hin;omega) (closed_set hsz ho hin (fun e he hb=>by have:=hedge e he hb;rw [Array.getD_eq_getD_getElem?] at this ⊢;cases hx:listed[e.on]? with | none=>rfl | some x=>rw [hx] at this;exact this) hcl) ⟨β',φ',(d,v) :: env,?_,fun j p t u hp hpd hju hlj=>?_,fun t ht=>?_⟩
   ·rw [hd]
    exact sr'.put (st:={ st with env:=env }) hdN hv
   ·by_cases e:j=i
    ·subst e
     rw [ho] at hp
     cases hp
     rw [hd] at hpd
     cases hpd
     rw [hiv] at hju
     cases hju
     exact find_cons_self ..
    ·have hne:t ≠ d:=fun et=>e ((hs2 j i p o hp ho).1 (by rw [hpd,hd,et]))
     rw [find_cons_ne _ _ hne]
     refine d1 j p t u hp hpd hju ?_
     rwa [getD_set_ne false (Ne.symm e)] at hlj
   ·have hne:t ≠ d:=fun et=>ht i o ho (by rw [Array.getD_eq_getD_getElem?,Array.getElem?_setIfInBounds_self];simp [hsz,hin]) (by rw [hd,et])
    rw [find_cons_ne _ _ hne]
    exact d2 t (fun j p hp hl=>ht j p hp (by
     by_cases e:j=i
     ·subst e;rw [Array.getD_eq_getD_getElem?,Array.getElem?_setIfInBounds_self];simp [hsz,hin]
     ·rw [getD_set_ne false (Ne.symm e)];exact hl)))
  unfold wpOp
  rw [ho]
  simp only
  split at hwp
  ·rename_i hw
   rw [if_pos hw]
   exact .inl hwp
  ·rename_i hw
   rw [if_neg hw]
   exact hwp
end
end Go.Abs
