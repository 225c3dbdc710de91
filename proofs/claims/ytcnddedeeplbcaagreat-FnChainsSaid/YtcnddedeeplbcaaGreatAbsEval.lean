/- The forms in which abstract code is evaluated by simp: calls and loops stay closed, continuations are not visited. -/
import Derived.Test.YtcnddedeeplbcaaGreatAbsShareB
namespace Go.Abs
set_option linter.unusedVariables false

def CallK (P:Program) (st:St) (fid:FuncId) (avs:List AV) (K:AV -> St -> Prop):Prop :=
 (∃ os vs r objs',viewAs st os avs=some vs /\ osOk st os /\ enters P fid=true /\ Ctr P fid vs (os.map st.obj) r objs' /\ K (r.ren (idsOf os st.next objs'.length)) (st.after os objs')) \/
   (isOverlaps P fid /\ apart st avs /\ K (.one (.dat (.bool false))) st) \/
   (∃ os vs r objs',datAs (frzAll st os) avs=some vs /\ enters P fid=true /\ CtrB P fid vs r objs' /\ K (r.ren (idsOf [] st.next objs'.length)) ((frzAll st os).after [] objs')) \/
   (∃ R,enters P fid=true /\ CtrW P fid avs st.whole R /\ (∃ r objs',R r objs') /\ ∀ r objs',R r objs' -> K r (st.behind objs'))

theorem CallK_apart {P:Program} {st:St} {fid:FuncId} {avs:List AV} {K:AV -> St -> Prop} (h1:isOverlaps P fid) (h2:apart st avs) (h3:K (.one (.dat (.bool false))) st):CallK P st fid avs K:=.inr (.inl ⟨h1,h2,h3⟩)

theorem CallK_share {P:Program} {st:St} {fid:FuncId} {avs:List AV} {K:AV -> St -> Prop} (os:List Nat) {vs:List AV} {r:AV} {objs':List AObj} (he:enters P fid=true) (hc:CtrB P fid vs r objs') (hd:datAs (frzAll st os) avs=some vs)
  (hK:K (r.ren (idsOf [] st.next objs'.length)) ((frzAll st os).after [] objs')):CallK P st fid avs K:=.inr (.inr (.inl ⟨os,vs,r,objs',hd,he,hc,hK⟩))

theorem CallK_whole {P:Program} {st:St} {fid:FuncId} {avs:List AV} {K:AV -> St -> Prop} {objs:List AObj} {R:AV -> List AObj -> Prop} (he:enters P fid=true) (hc:CtrW P fid avs objs R) (ho:st.whole=objs) (hi:∃ r objs',R r objs') (hK:∀ r objs',R r objs' -> K r (st.behind objs')):CallK P st fid avs K:=.inr (.inr (.inr ⟨R,he,ho ▸ hc,hi,hK⟩))

theorem callQ_eq (P:Program) (st:St) (o:Oper) (K:AV -> St -> Prop):callQ P st o K=match callee st o with
  | some (q,fid,avs)=>q /\ CallK P st fid avs K
  | none=>False:=rfl

def LoopK (P:Program) (nf:Nat) (b:Code) (Q:Exit -> St -> Prop) (st:St):Prop :=
 ∃ (I:Nat -> St -> Prop) (n:Nat) (s0:St),Ent nf st s0 /\ I n s0 /\
   ∀ n s,I n s -> wpA P nf b (fun e s'=>match e with | .normal=>∃ n' s'',n' < n /\ Ent nf s' s'' /\ I n' s'' | e=>Q e s') s

def CCallK (P:Program) (st:St) (g:Bool) (q:Prop) (fid:FuncId) (avs:List AV) (K:AV -> Prop):Prop :=
 ∃ r,r.plain=true /\ (g=true -> q /\ ∃ vs,viewAs st [] avs=some vs /\ enters P fid=true /\ CtrV P fid vs r) /\ K r

theorem condCall_eq (P:Program) (st:St) (o:Oper) (g:Bool) (K:AV -> Prop):condCall P st o g K=match callee st o with
 | some (q,fid,avs)=>CCallK P st g q fid avs K
 | none=>False:=rfl

theorem CCallK_intro {P:Program} {st:St} {g:Bool} {q:Prop} {fid:FuncId} {avs vs:List AV} {K:AV -> Prop} {r:AV} (he:enters P fid=true) (hc:g=true -> q /\ Ctr P fid vs [] r []) (hv:viewAs st [] avs=some vs) (hp:r.plain=true) (hK:K r) :
  CCallK P st g q fid avs K:=⟨r,hp,fun hg=>⟨(hc hg).1,vs,hv,he,.inl (hc hg).2⟩,hK⟩
theorem CCallK_vec {P:Program} {st:St} {g:Bool} {q:Prop} {fid:FuncId} {avs vs:List AV} {K:AV -> Prop} {sz:Nat} {rows:List (List D)} (he:enters P fid=true) (hc:g=true -> q /\ Ctr P fid vs [] (.one (.own 0)) [.vec sz true rows]) (hv:viewAs st [] avs=some vs) (hK:K (.one (.dat (.sl sz rows)))) :
  CCallK P st g q fid avs K:=⟨_,rfl,fun hg=>⟨(hc hg).1,vs,hv,he,.inr ⟨sz,rows,rfl,(hc hg).2⟩⟩,hK⟩

def Then (P:Program) (nf:Nat) (y:Code) (Q:Exit -> St -> Prop):Exit -> St -> Prop:=fun e s=>match e with | .normal=>wpA P nf y Q s | e=>Q e s
def Blk (id:Nat) (Q:Exit -> St -> Prop):Exit -> St -> Prop:=fun e s=>match e with | .exit i=>if i=id then Q .normal s else Q (.exit i) s | e=>Q e s
def Nrm (Q:Exit -> St -> Prop):St -> Prop:=fun s=>Q .normal s
def RegK (P:Program) (ops:Array Oper) (r:List Oper) (K:St -> Prop):St -> Prop:=fun s=>regQ P ops r s K
def PutK (d:Option Tmp) (K:St -> Prop):Option AV -> St -> Prop:=fun r s=>K (s.putO d r)
def SomeK (K:Option AV -> St -> Prop):AV -> St -> Prop:=fun r s=>K (some r) s
def CondK (st:St) (d:Option Tmp) (g:Bool) (K:St -> Prop):AV -> Prop:=fun r=>K (st.putO d (some (.ifg g r)))
def DrawK (P:Program) (ops:Array Oper) (r:List Oper) (st:St) (d:Option Tmp) (K:St -> Prop):AV -> Prop:=fun v=>drawQ P ops r (st.putO d (some v)) K
def DrawEK (P:Program) (ops:Array Oper) (r:List Oper) (d:Option Tmp) (ms:List Nat) (K:St -> Prop):AV -> St -> Prop:=fun v st=>drawE P ops r (st.putO d (some v)) ms K
def DrawAK (P:Program) (ops:Array Oper) (r:List Oper) (ms:List Nat) (K:St -> Prop):St -> Prop:=fun st=>drawE P ops r st ms K
def DrawFK (P:Program) (ops:Array Oper) (r:List Oper) (st:St) (d:Option Tmp) (ms:List Nat) (K:St -> Prop):AV -> Prop:=fun v=>drawE P ops r (st.putO d (some v)) ms K
def IfgK (g:Bool) (K:AV -> Prop):AV -> Prop:=fun r=>K (.ifg g r)

section
variable {P:Program} {nf:Nat} {Q:Exit -> St -> Prop} {st st':St}
theorem Then_normal {y:Code} {s:St}:Then P nf y Q .normal s=wpA P nf y Q s:=rfl
theorem Then_ret {y:Code} {s:St}:Then P nf y Q .ret s=Q .ret s:=rfl
theorem Then_exit {y:Code} {i:Nat} {s:St}:Then P nf y Q (.exit i) s=Q (.exit i) s:=rfl
theorem Blk_normal {i:Nat} {s:St}:Blk i Q .normal s=Q .normal s:=rfl
theorem Blk_ret {i:Nat} {s:St}:Blk i Q .ret s=Q .ret s:=rfl
theorem Blk_exit {i j:Nat} {s:St}:Blk i Q (.exit j) s=if j=i then Q .normal s else Q (.exit j) s:=rfl
theorem Nrm_app {s:St}:Nrm Q s=Q .normal s:=rfl
theorem RegK_app {ops:Array Oper} {r:List Oper} {K:St -> Prop} {s:St}:RegK P ops r K s=regQ P ops r s K:=rfl
theorem PutK_app {d:Option Tmp} {K:St -> Prop} {r:Option AV} {s:St}:PutK d K r s=K (s.putO d r):=rfl
theorem SomeK_app {K:Option AV -> St -> Prop} {r:AV} {s:St}:SomeK K r s=K (some r) s:=rfl
theorem CondK_app {d:Option Tmp} {g:Bool} {K:St -> Prop} {r:AV}:CondK st d g K r=K (st.putO d (some (.ifg g r))):=rfl
theorem DrawK_app {ops:Array Oper} {r:List Oper} {d:Option Tmp} {K:St -> Prop} {v:AV}:DrawK P ops r st d K v=drawQ P ops r (st.putO d (some v)) K:=rfl
theorem IfgK_app {g:Bool} {K:AV -> Prop} {r:AV}:IfgK g K r=K (.ifg g r):=rfl

theorem wpA_skip:wpA P nf .skip Q st=Q .normal st:=rfl
theorem wpA_label {l:Nat}:wpA P nf (.label l) Q st=Q .normal st:=rfl
theorem wpA_exit {id:Nat}:wpA P nf (.exit id) Q st=Q (.exit id) st:=rfl
theorem wpA_ret:wpA P nf .ret Q st=Q .ret st:=rfl
theorem wpA_seq {x y:Code}:wpA P nf (.seq x y) Q st=wpA P nf x (Then P nf y Q) st:=rfl
theorem wpA_cond {c:Operand} {x y:Code}:wpA P nf (.cond c x y) Q st=match opA st c with
  | some (p,.one (.dat (.bool b)))=>p /\ if b=true then wpA P nf x Q st else wpA P nf y Q st
  | _=>False:=by
 show (match opA st c with | some (p,.one (.dat (.bool b)))=>p /\ (b=true -> wpA P nf x Q st) /\ (b=false -> wpA P nf y Q st) | _=>False)=_
 generalize opA st c=z
 cases z with
 | none=>rfl
 | some pv =>
  obtain ⟨p,v⟩:=pv
  cases v with
  | one l =>
   cases l with
   | dat d =>
    cases d with
    | bool b=>cases b <;> simp
    | int k n=>rfl
    | str s=>rfl
    | sl sz rows=>rfl
    | hdr v=>rfl
   | emp=>rfl
   | own o=>rfl
   | part o i n=>rfl
   | ptr p=>rfl
   | fn f c=>rfl
  | agg ls=>rfl
  | tup vs=>rfl
  | ifg b v=>rfl
theorem wpA_block {id:Nat} {b:Code}:wpA P nf (.block id b) Q st=wpA P nf b (Blk id Q) st:=rfl
theorem wpA_loop {b:Code}:wpA P nf (.loop b) Q st=LoopK P nf b Q st:=rfl
theorem wpA_range {g:Operand} {ps:Array Tmp} {assign body:Code}:wpA P nf (.rangeFunc g ps assign body) Q st=RangeP P nf g ps assign (wpA P nf body) (dsts body) Q st:=rfl
theorem wpA_region {id:Nat} {ops:Array Oper}:wpA P nf (.region id ops false) Q st=regQ P ops ops.toList st (Nrm Q):=rfl
theorem wpA_draw {k:Nat} {ops:Array Oper}:wpA P nf (.region k ops true) Q st=drawZ P ops st (Nrm Q):=id rfl
theorem planL_nil:planL []=false:=rfl
theorem planL_cons {o:Oper} {r:List Oper}:planL (o :: r)=bif isCopy o.op then true else planL r:=rfl
theorem regT_done {ops:Array Oper} {K:St -> Prop}:regT P ops .done st K=K st:=rfl
def PlnK (P:Program) (ops:Array Oper) (p:Plan) (K:St -> Prop):St -> Prop:=fun s=>regT P ops p s K
theorem PlnK_app {ops:Array Oper} {p:Plan} {K:St -> Prop} {s:St}:PlnK P ops p K s=regT P ops p s K:=rfl
theorem regT_step {ops:Array Oper} {i:Nat} {p:Plan} {K:St -> Prop}:regT P ops (.step i p) st K=match ops[i]? with
 | some o=>stepQ P ops st o (PlnK P ops p K)
 | none=>False:=rfl
theorem regT_two {ops:Array Oper} {i j:Nat} {p q:Plan} {K:St -> Prop}:regT P ops (.two i p j q) st K=((match ops[i]? with
 | some o=>stepQ P ops st o (PlnK P ops p K)
 | none=>False) /\ (match ops[j]? with
 | some o=>stepQ P ops st o (PlnK P ops q K)
 | none=>False)):=rfl
theorem PlanP_intro {ops:Array Oper} {K:St -> Prop} (p:Plan) (h:planOk ops p=true) (hq:regT P ops p st K):PlanP P ops st K:=⟨p,h,hq⟩
def DrawPK (P:Program) (ops:Array Oper) (r:List Oper) (st:St) (d:Option Tmp) (K:St -> Prop):AV -> Prop:=fun v=>drawP P ops r (st.putO d (some v)) K
def DrawPE (P:Program) (ops:Array Oper) (r:List Oper) (d:Option Tmp) (K:St -> Prop):AV -> St -> Prop:=fun v st=>drawP P ops r (st.putO d (some v)) K
def NoLit:LitAt -> AV -> St -> Prop:=fun _ _ _=>False
theorem DrawPK_app {ops:Array Oper} {r:List Oper} {d:Option Tmp} {K:St -> Prop} {v:AV}:DrawPK P ops r st d K v=drawP P ops r (st.putO d (some v)) K:=rfl
theorem DrawPE_app {ops:Array Oper} {r:List Oper} {d:Option Tmp} {K:St -> Prop} {v:AV}:DrawPE P ops r d K v st=drawP P ops r (st.putO d (some v)) K:=rfl
theorem drawP_nil {ops:Array Oper} {K:St -> Prop}:drawP P ops [] st K=K st:=rfl
theorem drawP_cons {ops:Array Oper} {o:Oper} {r:List Oper} {K:St -> Prop}:drawP P ops (o :: r) st K=(match litV o.op && o.guard.isNone with
  | true=>o.dst.isSome=true /\ vlitQ P st o (DrawPE P ops r o.dst K) NoLit
  | false=>match callV o.op && o.guard.isNone with
   | true=>o.dst.isSome=true /\ condCall P st o true (DrawPK P ops r st o.dst K)
   | false=>o.dst.isSome=true /\ stepD P ops st o (DrawPK P ops r st o.dst K)):=by
 simp only [drawP]
 cases (litV o.op && o.guard.isNone) <;> cases (callV o.op && o.guard.isNone) <;> rfl
theorem drawZ_eq {ops:Array Oper} {K:St -> Prop}:drawZ P ops st K=(match planL ops.toList with
 | true=>PlanP P ops st K
 | false=>match onceL ops.toList 0 with
 | true=>onceOk ops=true /\ drawP P ops ops.toList st K
 | false=>match (bif floatL ops.toList [] [] false false false 0 false then true else lentL ops.toList [] []) with
 | true=>FloatE P ops st K
 | false=>match quietL ops.toList 0 with
  | true=>quietOk ops=true /\ regQ P ops ops.toList st K
  | false=>match chainL ops.toList 0 with
   | true=>seqOk ops 0=true /\ regQ P ops ops.toList st K
   | false=>match (bif hasMake ops.toList then twoMake ops.toList 0 else false) with
    | true=>bringOk ops=true /\ drawM P ops ops.toList (resvM P ops.toList st) [] (resvMIds ops.toList st.next) K
    | false=>match (bif freeL ops.toList then true else cellL P ops.toList) with
     | true=>FloatE P ops st K
     | false=>drawY P ops st K):=by
 unfold drawZ
 cases planL ops.toList <;> cases onceL ops.toList 0 <;> cases (bif floatL ops.toList [] [] false false false 0 false then true else lentL ops.toList [] []) <;> cases quietL ops.toList 0 <;> cases chainL ops.toList 0 <;> cases (bif hasMake ops.toList then twoMake ops.toList 0 else false) <;> cases (bif freeL ops.toList then true else cellL P ops.toList) <;> rfl
theorem cellL_nil:cellL P []=false:=rfl
theorem cellL_cons {o:Oper} {r:List Oper}:cellL P (o :: r)=match cellV P o.op with
 | true=>true
 | false=>cellL P r:=by
 simp only [cellL]
 cases cellV P o.op <;> rfl
theorem floatL_cons {o:Oper} {r:List Oper} {ls es:List Nat} {c n s a:Bool} {x:Nat}:floatL (o :: r) ls es c n s x a=(match (appOf ls o.op && c) || (appOf es o.op && (!c || n)) || (callV o.op && c && !ls.isEmpty && decide (o.type=0)) || (isStore o.op && (s || decide (2 <= x)) && !ls.isEmpty) || (isMake o.op && c) || isGlob o.op with
  | true=>true
  | false=>floatL r (match isLoad o.op && !c with
   | true=>putD o.dst ls
   | false=>ls) (match lit0 o.op && !ls.isEmpty with
   | true=>putD o.dst es
   | false=>es) (c || callV o.op) (n || appOf es o.op) (s || isStore o.op) (match isExt o.op with
   | true=>x + 1
   | false=>x) (a || isAlloc o.op)):=rfl
theorem floatL_nil {ls es:List Nat} {c n s a:Bool} {x:Nat}:floatL [] ls es c n s x a=false:=rfl
theorem onL_nil {i:Nat}:onL i []=false:=rfl
theorem onL_cons {i:Nat} {e:Edge} {r:List Edge}:onL i (e :: r)=match (decide (e.on=i) && bindsG e.ground) with
 | true=>true
 | false=>onL i r:=by
 simp only [onL]
 cases (decide (e.on=i) && bindsG e.ground) <;> rfl
theorem looseL_nil {k:Nat} {s:Option Nat}:looseL [] k s=false:=by cases s <;> rfl
theorem looseL_none {o:Oper} {r:List Oper} {k:Nat}:looseL (o :: r) k none=match (isStore o.op && decide (0 < k) && !onL (k - 1) o.after.toList) with
 | true=>true
 | false=>looseL r (k + 1) (match isStore o.op with
  | true=>some k
  | false=>none):=by
 simp only [looseL]
 cases (isStore o.op && decide (0 < k) && !onL (k - 1) o.after.toList) <;> cases isStore o.op <;> rfl
theorem looseL_some {o:Oper} {r:List Oper} {k i:Nat}:looseL (o :: r) k (some i)=match (!isStore o.op && !onL i o.after.toList) with
 | true=>true
 | false=>looseL r (k + 1) (some i):=by
 simp only [looseL]
 cases (!isStore o.op && !onL i o.after.toList) <;> rfl
theorem giveL_nil {ls ws:List Nat} {c:Bool}:giveL [] ls c ws=false:=rfl
theorem giveL_cons {o:Oper} {r:List Oper} {ls ws:List Nat} {c:Bool}:giveL (o :: r) ls c ws=match storeOf ws o.op with
  | true=>true
  | false=>giveL r (match isLoad o.op with
   | true=>putD o.dst ls
   | false=>ls) (c || callV o.op) (match (c && giveOf ls o.op) with
   | true=>putD o.dst ws
   | false=>ws):=by
 simp only [giveL]
 cases storeOf ws o.op <;> cases isLoad o.op <;> cases (c && giveOf ls o.op) <;> rfl
theorem freeL_eq {ops:List Oper}:freeL ops=match hardL ops 0 with
  | true=>false
  | false=>match looseL ops 0 none with
   | true=>true
   | false=>giveL ops [] false []:=by
 unfold freeL
 cases hardL ops 0 <;> cases looseL ops 0 none <;> rfl
theorem lentL_nil {as ls:List Nat}:lentL [] as ls=false:=rfl
theorem lentL_cons {o:Oper} {r:List Oper} {as ls:List Nat}:lentL (o :: r) as ls=match appOf ls o.op with
  | true=>true
  | false=>lentL r (match idxOf as o.op with
   | true=>putD o.dst as
   | false=>as) (match loadOf as o.op with
   | true=>putD o.dst ls
   | false=>ls):=by
 simp only [lentL]
 cases appOf ls o.op <;> cases idxOf as o.op <;> cases loadOf as o.op <;> rfl
theorem FloatR_intro {ops:Array Oper} {K:St -> Prop} (pi:List (Nat × List Nat)) (h:floatOkE P ops pi []=true) (hq:regF P ops pi st K):FloatE P ops st K:=.inl ⟨pi,[],h,by cases pi <;> simpa only [numsB,roomN,List.length_nil,regE] using hq⟩
theorem FloatE_intro {ops:Array Oper} {K:St -> Prop} (pi:List (Nat × List Nat)) (al:List Nat) (h:floatOkE P ops pi al=true) (hq:regE P ops pi (numsB al st.next) [] (roomN al.length st) K):FloatE P ops st K:=.inl ⟨pi,al,h,hq⟩
theorem FloatO_intro {ops:Array Oper} {K:St -> Prop} (k i j:Nat) {sz:Nat} {rows:List (List D)} {s2:Nat} {rs:List (List D)} (pi:List (Nat × List Nat)) (al:List Nat) (hk:st.obj k=.vec sz true rows) (hd:(rows.getD i []).getD j default=.sl s2 rs) (hi:i < rows.length) (hj:j < sz)
  (h:floatOkE P ops pi al=true) (hq:∀ v:Value,regE P ops pi (numsB al (openSt st k i j sz rows s2 rs v).next) [] (roomN al.length (openSt st k i j sz rows s2 rs v)) K):FloatE P ops st K:=.inr ⟨k,i,j,sz,rows,s2,rs,hk,hi,hj,hd,fun v=>⟨pi,al,h,hq v⟩⟩
theorem pinK_nil:pinK []=none:=rfl
theorem pinK_dead {k:Nat} {r:List (Nat × AObj)}:pinK ((k,.dead) :: r)=pinK r:=rfl
theorem pinK_hole {k:Nat} {r:List (Nat × AObj)}:pinK ((k,.hole) :: r)=pinK r:=rfl
theorem pinK_box {k:Nat} {ls:List Leaf} {r:List (Nat × AObj)}:pinK ((k,.box ls) :: r)=pinK r:=rfl
theorem pinK_vec {k s:Nat} {b:Bool} {rs:List (List D)} {r:List (Nat × AObj)}:pinK ((k,.vec s b rs) :: r)=pinK r:=rfl
theorem pinK_lent {k s:Nat} {rs:List (List D)} {r:List (Nat × AObj)}:pinK ((k,lent s rs) :: r)=pinK r:=rfl
theorem pinK_frz {k s:Nat} {rs:List (List D)} {r:List (Nat × AObj)}:pinK ((k,.frz s rs) :: r)=pinK r:=rfl
theorem pinK_wide {k s n:Nat} {rs:List (List D)} {r:List (Nat × AObj)}:pinK ((k,.wide s n rs) :: r)=pinK r:=rfl
theorem pinK_pin {k o:Nat} {v:Value} {r:List (Nat × AObj)}:pinK ((k,.pin o v) :: r)=some k:=rfl
theorem pinK_ballast {k:Nat} {l:List (Nat × Obj)} {r:List (Nat × AObj)}:pinK ((k,.ballast l) :: r)=pinK r:=rfl
theorem pinK_nop {k:Nat} {x:AObj} {r:List (Nat × AObj)}:pinK ((k,nop x) :: r)=pinK r:=by cases x <;> rfl
def FltE (P:Program) (ops:Array Oper) (cs:List Nat) (r:List (Nat × List Nat)) (pn:List (Nat × Nat)) (ks:List Nat) (f:Nat -> AObj) (d:Option Tmp) (K:St -> Prop):Option AV -> St -> Prop:=fun v s=>keepB s f pn /\ chk P ops cs (s.putO d v) /\ regE P ops r pn ks (s.putO d v) K
theorem FltE_app {ops:Array Oper} {cs:List Nat} {r:List (Nat × List Nat)} {pn:List (Nat × Nat)} {ks:List Nat} {f:Nat -> AObj} {d:Option Tmp} {K:St -> Prop} {v:Option AV} {s:St}:FltE P ops cs r pn ks f d K v s=(keepB s f pn /\ chk P ops cs (s.putO d v) /\ regE P ops r pn ks (s.putO d v) K):=rfl
theorem regE_none {ops:Array Oper} {r:List (Nat × List Nat)} {ks:List Nat} {K:St -> Prop}:regE P ops r [] ks st K=regF P ops r st K:=by cases r <;> simp only [regE]
theorem regE_cons {ops:Array Oper} {i:Nat} {cs:List Nat} {r:List (Nat × List Nat)} {p:Nat × Nat} {pn:List (Nat × Nat)} {ks:List Nat} {K:St -> Prop}:regE P ops ((i,cs) :: r) (p :: pn) ks st K=match ops[i]? with
  | none=>False
  | some o=>match readV o with
   | true=>match opR P st o with
    | some (q,some v,_)=>q /\ regE P ops r (p :: pn) (i :: ks) (st.putO o.dst (some v)) K
    | _=>False
   | false=>match numB i (p :: pn) with
    | some m=>match earlyOf P o.op with
      | some (t,ds)=>∀ f,chk P ops ks (setB st (nopF f) (p :: pn)) /\ chk P ops cs (((setB st (nopF f) (p :: pn)).setObj m t).putO o.dst (some (ds m))) /\
        regE P ops r (dropB i (p :: pn)) ks (((setB st (nopF f) (p :: pn)).setObj m t).putO o.dst (some (ds m))) K
      | none=>False
    | none=>∀ f,chk P ops ks (setB st (nopF f) (p :: pn)) /\ opQ P (setB st (nopF f) (p :: pn)) o (FltE P ops cs r (p :: pn) ks (nopF f) o.dst K):=by
 simp only [regE]
 rfl
theorem nopF_app {f:Nat -> AObj} {k:Nat}:nopF f k=nop (f k):=rfl
theorem setB_nil {f:Nat -> AObj}:setB st f []=st:=rfl
theorem setB_cons {f:Nat -> AObj} {i m:Nat} {r:List (Nat × Nat)}:setB st f ((i,m) :: r)=(setB st f r).setObj m (f m):=rfl
theorem keepB_nil {f:Nat -> AObj}:keepB st f []=True:=rfl
theorem keepB_cons {f:Nat -> AObj} {i m:Nat} {r:List (Nat × Nat)}:keepB st f ((i,m) :: r)=(st.obj m=f m /\ keepB st f r):=rfl
theorem numB_nil {i:Nat}:numB i []=none:=rfl
theorem numB_cons {i j m:Nat} {r:List (Nat × Nat)}:numB i ((j,m) :: r)=match decide (i=j) with
  | true=>some m
  | false=>numB i r:=rfl
theorem dropB_nil {i:Nat}:dropB i []=[]:=rfl
theorem dropB_cons {i j m:Nat} {r:List (Nat × Nat)}:dropB i ((j,m) :: r)=match decide (i=j) with
  | true=>r
  | false=>(j,m) :: dropB i r:=rfl
theorem numsB_nil {n:Nat}:numsB [] n=[]:=rfl
theorem numsB_cons {i n:Nat} {r:List Nat}:numsB (i :: r) n=(i,n) :: numsB r (n + 1):=rfl
theorem roomN_zero:roomN 0 st=st:=rfl
theorem roomN_succ {k:Nat}:roomN (k + 1) st=roomN k (st.addObj .hole):=rfl
def FltK (P:Program) (ops:Array Oper) (cs:List Nat) (r:List (Nat × List Nat)) (d:Option Tmp) (K:St -> Prop):Option AV -> St -> Prop:=fun v s=>chk P ops cs (s.putO d v) /\ regF P ops r (s.putO d v) K
theorem FltK_app {ops:Array Oper} {cs:List Nat} {r:List (Nat × List Nat)} {d:Option Tmp} {K:St -> Prop} {v:Option AV} {s:St}:FltK P ops cs r d K v s=(chk P ops cs (s.putO d v) /\ regF P ops r (s.putO d v) K):=rfl
theorem regF_nil {ops:Array Oper} {K:St -> Prop}:regF P ops [] st K=K st:=rfl
theorem regF_cons {ops:Array Oper} {i:Nat} {cs:List Nat} {r:List (Nat × List Nat)} {K:St -> Prop}:regF P ops ((i,cs) :: r) st K=match ops[i]? with
  | none=>False
  | some o=>match readV o with
   | true=>match opR P st o with
    | some (q,some v,_)=>q /\ regF P ops r (st.putO o.dst (some v)) K
    | _=>False
   | false=>opQ P st o (FltK P ops cs r o.dst K):=by
 simp only [regF]
 rfl
theorem chk_nil {ops:Array Oper}:chk P ops [] st=True:=rfl
theorem chk_cons {ops:Array Oper} {i:Nat} {cs:List Nat}:chk P ops (i :: cs) st=(keptV P st (ops[i]?) /\ chk P ops cs st):=rfl
theorem keptV_some {x:Oper}:keptV P st (some x)=match x.dst with
  | some d=>match find st.env d with
   | some v=>sameV P st x v
   | none=>False
  | none=>False:=rfl
theorem sameV_eq {x:Oper} {v:AV}:sameV P st x v=match opR P st x with
 | some (q,some u,_)=>q /\ Same u v
 | _=>False:=rfl
theorem drawY_eq {ops:Array Oper} {K:St -> Prop}:drawY P ops st K=(match hardL ops.toList 0 with
  | true=>bringOk ops=true /\ drawL P ops ops.toList st [] K
  | false=>drawX P ops st K):=by
 unfold drawY
 cases hardL ops.toList 0 <;> rfl
def DrawLK (P:Program) (ops:Array Oper) (r:List Oper) (st:St) (d:Option Tmp) (lits:List LitAt) (K:St -> Prop):AV -> Prop:=fun v=>drawL P ops r (st.putO d (some v)) lits K
def DrawLE (P:Program) (ops:Array Oper) (r:List Oper) (d:Option Tmp) (lits:List LitAt) (K:St -> Prop):AV -> St -> Prop:=fun v st=>drawL P ops r (st.putO d (some v)) lits K
def DrawLX (P:Program) (ops:Array Oper) (r:List Oper) (d:Option Tmp) (lits:List LitAt) (K:St -> Prop):LitAt -> AV -> St -> Prop:=fun x v st=>drawL P ops r (st.putO d (some v)) (x :: lits) K
theorem DrawLK_app {ops:Array Oper} {r:List Oper} {d:Option Tmp} {lits:List LitAt} {K:St -> Prop} {v:AV}:DrawLK P ops r st d lits K v=drawL P ops r (st.putO d (some v)) lits K:=rfl
theorem DrawLE_app {ops:Array Oper} {r:List Oper} {d:Option Tmp} {lits:List LitAt} {K:St -> Prop} {v:AV}:DrawLE P ops r d lits K v st=drawL P ops r (st.putO d (some v)) lits K:=rfl
theorem DrawLX_app {ops:Array Oper} {r:List Oper} {d:Option Tmp} {lits:List LitAt} {K:St -> Prop} {x:LitAt} {v:AV}:DrawLX P ops r d lits K x v st=drawL P ops r (st.putO d (some v)) (x :: lits) K:=rfl
def DrawMK (P:Program) (ops:Array Oper) (r:List Oper) (st:St) (d:Option Tmp) (lits:List LitAt) (ms:List Nat) (K:St -> Prop):AV -> Prop:=fun v=>drawM P ops r (st.putO d (some v)) lits ms K
def DrawME (P:Program) (ops:Array Oper) (r:List Oper) (d:Option Tmp) (lits:List LitAt) (ms:List Nat) (K:St -> Prop):AV -> St -> Prop:=fun v st=>drawM P ops r (st.putO d (some v)) lits ms K
def DrawMX (P:Program) (ops:Array Oper) (r:List Oper) (d:Option Tmp) (lits:List LitAt) (ms:List Nat) (K:St -> Prop):LitAt -> AV -> St -> Prop:=fun x v st=>drawM P ops r (st.putO d (some v)) (x :: lits) ms K
def DrawMA (P:Program) (ops:Array Oper) (r:List Oper) (lits:List LitAt) (ms:List Nat) (K:St -> Prop):St -> Prop:=fun st=>drawM P ops r st lits ms K
theorem DrawMK_app {ops:Array Oper} {r:List Oper} {d:Option Tmp} {lits:List LitAt} {ms:List Nat} {K:St -> Prop} {v:AV}:DrawMK P ops r st d lits ms K v=drawM P ops r (st.putO d (some v)) lits ms K:=rfl
theorem DrawME_app {ops:Array Oper} {r:List Oper} {d:Option Tmp} {lits:List LitAt} {ms:List Nat} {K:St -> Prop} {v:AV}:DrawME P ops r d lits ms K v st=drawM P ops r (st.putO d (some v)) lits ms K:=rfl
theorem DrawMX_app {ops:Array Oper} {r:List Oper} {d:Option Tmp} {lits:List LitAt} {ms:List Nat} {K:St -> Prop} {x:LitAt} {v:AV}:DrawMX P ops r d lits ms K x v st=drawM P ops r (st.putO d (some v)) (x :: lits) ms K:=rfl
theorem DrawMA_app {ops:Array Oper} {r:List Oper} {lits:List LitAt} {ms:List Nat} {K:St -> Prop}:DrawMA P ops r lits ms K st=drawM P ops r st lits ms K:=rfl
theorem drawM_nil {ops:Array Oper} {lits:List LitAt} {ms:List Nat} {K:St -> Prop}:drawM P ops [] st lits ms K=(ms=[] /\ unlitQ lits st K):=rfl
theorem drawM_cons {ops:Array Oper} {o:Oper} {r:List Oper} {lits:List LitAt} {ms:List Nat} {K:St -> Prop}:drawM P ops (o :: r) st lits ms K=(match placeV o.op && !ms.isEmpty with
  | true=>o.dst.isSome=true /\ placeQ P st o (ms.headD 0) (DrawMA P ops r lits ms.tail K)
  | false=>match litV o.op && o.guard.isNone with
   | true=>o.dst.isSome=true /\ vlitQ P st o (DrawME P ops r o.dst lits ms K) (DrawMX P ops r o.dst lits ms K)
   | false=>match effOp o.op with
    | true=>seqOk ops (ops.size - (r.length + 1))=true /\ ms=[] /\ unlitQ lits st (RegK P ops (o :: r) K)
    | false=>match callV o.op && o.guard.isNone with
     | true=>o.dst.isSome=true /\ (condCall P st o true (DrawMK P ops r st o.dst lits ms K) \/ effQ P st o (DrawME P ops r o.dst lits ms K))
     | false=>o.dst.isSome=true /\ stepD P ops st o (DrawMK P ops r st o.dst lits ms K)):=by
 simp only [drawM]
 cases (placeV o.op && !ms.isEmpty) <;> cases (litV o.op && o.guard.isNone) <;> cases effOp o.op <;> cases (callV o.op && o.guard.isNone) <;> rfl
theorem drawL_nil {ops:Array Oper} {lits:List LitAt} {K:St -> Prop}:drawL P ops [] st lits K=unlitQ lits st K:=rfl
theorem drawL_cons {ops:Array Oper} {o:Oper} {r:List Oper} {lits:List LitAt} {K:St -> Prop}:drawL P ops (o :: r) st lits K=(match litV o.op && o.guard.isNone with
  | true=>o.dst.isSome=true /\ litQ P st o (DrawLX P ops r o.dst lits K)
  | false=>match effOp o.op with
   | true=>seqOk ops (ops.size - (r.length + 1))=true /\ unlitQ lits st (RegK P ops (o :: r) K)
   | false=>match callV o.op && o.guard.isNone with
    | true=>o.dst.isSome=true /\ (condCall P st o true (DrawLK P ops r st o.dst lits K) \/ effQ P st o (DrawLE P ops r o.dst lits K))
    | false=>o.dst.isSome=true /\ stepD P ops st o (DrawLK P ops r st o.dst lits K)):=by
 simp only [drawL]
 cases (litV o.op && o.guard.isNone) <;> cases effOp o.op <;> cases (callV o.op && o.guard.isNone) <;> rfl
theorem unlitQ_nil {K:St -> Prop}:unlitQ [] st K=K st:=rfl
theorem drawX_eq {ops:Array Oper} {K:St -> Prop}:drawX P ops st K=(match (resvIds ops.toList st.next).isEmpty with
  | true=>drawQ P ops ops.toList st K
  | false=>effOk ops=true /\ drawE P ops ops.toList (resv P ops.toList st) (resvIds ops.toList st.next) K):=by
 unfold drawX
 cases (resvIds ops.toList st.next).isEmpty <;> rfl
theorem regQ_nil {ops:Array Oper} {K:St -> Prop}:regQ P ops [] st K=K st:=rfl
theorem regQ_cons {ops:Array Oper} {o:Oper} {r:List Oper} {K:St -> Prop}:regQ P ops (o :: r) st K=stepQ P ops st o (RegK P ops r K):=rfl
theorem drawQ_nil {ops:Array Oper} {K:St -> Prop}:drawQ P ops [] st K=K st:=rfl
theorem drawQ_cons {ops:Array Oper} {o:Oper} {r:List Oper} {K:St -> Prop}:drawQ P ops (o :: r) st K=(match effOp o.op with
  | true=>seqOk ops (ops.size - (r.length + 1))=true /\ effOk ops=true /\ regQ P ops (o :: r) st K
  | false=>match callV o.op && o.guard.isNone with
   | true=>condCall P st o true (DrawK P ops r st o.dst K) \/ (effOk ops=true /\ effQ P st o (DrawEK P ops r o.dst [] K))
   | false=>stepD P ops st o (DrawK P ops r st o.dst K)):=by
 simp only [drawQ]
 cases effOp o.op <;> cases (callV o.op && o.guard.isNone) <;> rfl
theorem drawE_nil {ops:Array Oper} {ms:List Nat} {K:St -> Prop}:drawE P ops [] st ms K=(ms=[] /\ K st):=rfl
theorem drawE_cons {ops:Array Oper} {o:Oper} {r:List Oper} {ms:List Nat} {K:St -> Prop}:drawE P ops (o :: r) st ms K=(match isAlloc o.op && !ms.isEmpty with
  | true=>allocQ P st o (ms.headD 0) (DrawAK P ops r ms.tail K)
  | false=>match effOp o.op with
   | true=>seqOk ops (ops.size - (r.length + 1))=true /\ ms=[] /\ regQ P ops (o :: r) st K
   | false=>match callV o.op && o.guard.isNone with
    | true=>condCall P st o true (DrawFK P ops r st o.dst ms K) \/ effQ P st o (DrawEK P ops r o.dst ms K)
    | false=>stepD P ops st o (DrawFK P ops r st o.dst ms K)):=by
 simp only [drawE]
 cases (isAlloc o.op && !ms.isEmpty) <;> cases effOp o.op <;> cases (callV o.op && o.guard.isNone) <;> rfl
theorem effQ_eq {o:Oper} {K:AV -> St -> Prop}:effQ P st o K=match callee st o with
 | some (q,fid,avs)=>q /\ EffK P st fid avs K
 | none=>False:=rfl
theorem DrawEK_app {ops:Array Oper} {r:List Oper} {d:Option Tmp} {ms:List Nat} {K:St -> Prop} {v:AV}:DrawEK P ops r d ms K v st=drawE P ops r (st.putO d (some v)) ms K:=rfl
theorem DrawFK_app {ops:Array Oper} {r:List Oper} {d:Option Tmp} {ms:List Nat} {K:St -> Prop} {v:AV}:DrawFK P ops r st d ms K v=drawE P ops r (st.putO d (some v)) ms K:=rfl
theorem DrawAK_app {ops:Array Oper} {r:List Oper} {ms:List Nat} {K:St -> Prop}:DrawAK P ops r ms K st=drawE P ops r st ms K:=rfl
theorem EffK_pure {fid:FuncId} {avs vs:List AV} {K:AV -> St -> Prop} {r:AV} {objs':List AObj} (he:enters P fid=true) (hc:Ctr P fid vs [] r objs') (hv:viewAs st [] avs=some vs) (hK:K (r.ren (fresh st.next objs'.length)) (st.after [] objs')):EffK P st fid avs K :=
 ⟨vs,r,objs',hv,he,hc,hK⟩
theorem stepQ_eq {ops:Array Oper} {o:Oper} {K:St -> Prop}:stepQ P ops st o K=match o.guard with
 | none=>opQ P st o (PutK o.dst K)
 | some (j,want)=>match guardA ops st j want with
  | none=>False
  | some g=>match pureOp o.op with
   | true =>
    match opS P st o with
    | some (q,some r,_)=>r.isPV=true /\ (g=true -> q) /\ K (st.putO o.dst (some (.ifg g r)))
    | _=>False
   | false=>condCall P st o g (CondK st o.dst g K) \/ (g=true /\ opQ P st o (PutK o.dst K)) \/ (g=false /\ K (st.putO o.dst none)):=by
 unfold stepQ
 cases pureOp o.op <;> rfl
theorem stepD_eq {ops:Array Oper} {o:Oper} {K:AV -> Prop}:stepD P ops st o K=match o.guard with
 | none=>match pureOp o.op with
  | true =>
   match opS P st o with
   | some (q,some r,_)=>q /\ K r
   | _=>False
  | false=>condCall P st o true K
 | some (j,want)=>match guardA ops st j want with
  | none=>False
  | some g=>match pureOp o.op with
   | true =>
    match opS P st o with
    | some (q,some r,_)=>r.isPV=true /\ (g=true -> q) /\ K (.ifg g r)
    | _=>False
   | false=>condCall P st o g (IfgK g K):=by
 unfold stepD
 cases pureOp o.op <;> rfl
theorem opQ_eq {o:Oper} {K:Option AV -> St -> Prop}:opQ P st o K=match opS P st o with
 | some (q,r,st')=>q /\ K r st'
 | none=>match nilArg P st o with
  | some (q,s,rows)=>q /\ ∀ b:Bool,(b=true -> rows=[]) -> K (some (.one (.dat (.bool (b == s))))) st
  | none=>match capArg P st o with
   | some (q,k,sz,_,rows)=>q /\ ∀ sp:List (List D),(∀ r ∈ sp,r.length=sz) -> K (some (.one (.dat (.int .i64 ((rows.length + sp.length:Nat):Int))))) (st.setObj k (.wide sz rows.length (rows ++ sp)))
   | none=>match openArg P st o with
    | some (q,agg,k,i,j,sz,rows)=>q /\ openK st agg k i j sz rows ((rows.getD i []).getD j default) K
    | none=>callQ P st o (SomeK K):=rfl

theorem CallK_pure {fid:FuncId} {avs vs:List AV} {K:AV -> St -> Prop} {r:AV} {objs':List AObj} (he:enters P fid=true) (hc:Ctr P fid vs [] r objs') (hv:viewAs st [] avs=some vs) (hK:K (r.ren (fresh st.next objs'.length)) (st.after [] objs')):CallK P st fid avs K :=
 .inl ⟨[],vs,r,objs',hv,trivial,he,hc,by simpa [idsOf] using hK⟩

theorem CallK_os {fid:FuncId} {avs vs:List AV} {K:AV -> St -> Prop} {r:AV} {objs':List AObj} (os:List Nat) (he:enters P fid=true) (hos:osOk st os) (hc:Ctr P fid vs (os.map st.obj) r objs') (hv:viewAs st os avs=some vs)
  (hK:K (r.ren (idsOf os st.next objs'.length)) (st.after os objs')):CallK P st fid avs K :=
 .inl ⟨os,vs,r,objs',hv,hos,he,hc,hK⟩

theorem LoopK_intro {b:Code} (I:Nat -> St -> Prop) (n:Nat) (s0:St) (h0:Ent nf st s0) (hI:I n s0)
  (hr:∀ n s,I n s -> ∀ K:Exit -> St -> Prop,(∀ e s',(match e with | .normal=>∃ n' s'',n' < n /\ Ent nf s' s'' /\ I n' s'' | e=>Q e s') -> K e s') -> wpA P nf b K s):LoopK P nf b Q st :=
 ⟨I,n,s0,h0,hI,fun n s h=>hr n s h _ fun _ _ h=>h⟩

theorem Ent.weak {ids:List Nat} {env:List (Nat × AV)} {xs:List AObj} (h1:nf <= ids.length) (h2:ids.take nf=List.range nf) (h3:ids.Nodup) (h4:objsLe st ids ids xs) (h5:envLe st ids env) (h6:LowAll env xs):Ent nf st (mkSt env xs) :=
 Ent.weaker ⟨h1,h2,h3,h4,h5⟩ h6

theorem LoopK_ent {b:Code} {s1:St} (h:Ent nf st s1) (hl:LoopK P nf b Q s1):LoopK P nf b Q st:=by
 obtain ⟨I,n,s0,h1,h2⟩:=hl
 exact ⟨I,n,s0,h.trans h1,h2⟩
theorem Fin.intro {fn:Func} {r:AV} {objs':List AObj} {rvs:Array ResultVar} {q:Prop} {rs:List AV} (h1:fn.results=rvs) (ids:List Nat) (h2:resA P st rvs.toList=some (q,rs)) (hq:q) (h3:packA rs=r.renF ids)
  (h4:nf <= ids.length) (h5:ids.take nf=List.range nf) (h6:ids.Nodup) (h7:objsLe st ids ids objs'):Fin P fn nf r objs' st :=
 ⟨st,Ent.refl nf st,q,rs,ids,by rw [h1];exact h2,hq,h3,h4,h5,h6,h7,trivial⟩

theorem Fin.ent {fn:Func} {r:AV} {objs':List AObj} {st1:St} (h:Ent nf st st1) (hf:Fin P fn nf r objs' st1):Fin P fn nf r objs' st :=
 let ⟨s,h',k⟩:=hf
 ⟨s,h.trans h',k⟩
end

theorem ite_two {b:Bool} [Decidable (b=true)] {A B:Prop}:(if b=true then A else B)=((b=true -> A) /\ (b=false -> B)):=by
 cases b <;> simp

def FinQ (P:Program) (fn:Func) (nf:Nat) (r:AV) (objs':List AObj):Exit -> St -> Prop:=fun e st=>(e=.normal \/ e=.ret) /\ Fin P fn nf r objs' st
theorem FinQ_normal {P:Program} {fn:Func} {nf:Nat} {r:AV} {objs':List AObj} {st:St}:FinQ P fn nf r objs' .normal st=Fin P fn nf r objs' st:=by simp [FinQ]
theorem FinQ_ret {P:Program} {fn:Func} {nf:Nat} {r:AV} {objs':List AObj} {st:St}:FinQ P fn nf r objs' .ret st=Fin P fn nf r objs' st:=by simp [FinQ]

theorem Ctr.body {P:Program} {f:FuncId} {fn:Func} {c:Code} {as:List AV} {r:AV} {objs':List AObj} (hm:P.follows .mixedOrders=true) (hf:P.funcs[f]?=some fn) (hb:fn.body=some c) (hok:codeOk fn.ntmps c=true)
  (hn:as.length <= fn.ntmps) (hclean:r.Clean) (hsep:∀ x ∈ objs',x.Sep) (hlow:r.Low objs'.length)
  (hbody:wpA P 0 c (FinQ P fn 0 r objs') (mkSt (argEnv 0 as) [])):Ctr P f as [] r objs' :=
 Ctr.of_body hm hf hb hok hn hclean hsep (Nat.zero_le _) (by simp) hlow hbody

theorem CtrB.body {P:Program} {f:FuncId} {fn:Func} {c:Code} {as:List AV} {r:AV} {objs':List AObj} (hm:P.follows .mixedOrders=true) (hf:P.funcs[f]?=some fn) (hb:fn.body=some c) (hok:codeOk fn.ntmps c=true)
  (hn:as.length <= fn.ntmps) (hdat:∀ a ∈ as,a.isDat=true) (hsh:r.Sh) (hvec:∀ x ∈ objs',x.IsVec) (hlowr:r.up.Low (objs'.length + 1))
  (hbody:∀ l:List (Nat × Obj),wpA P 1 c (FinQ P fn 1 r.up (.ballast l :: objs')) (mkSt (argEnv 0 as) [.ballast l])):CtrB P f as r objs' :=
 CtrB.of_body hm hf hb hok hn hdat hsh hvec hlowr hbody

theorem getD_map {α:Type} {f:α -> List D} {l:List α} {i:Nat} (h:i < l.length):(l.map f).getD i []=f l[i]:=by
 simp [List.getD_eq_getElem?_getD,List.getElem?_eq_getElem h]
theorem beq_tt (b:Bool):(b == true)=b:=by cases b <;> rfl
theorem beq_ff (b:Bool):(b == false)=!b:=by cases b <;> rfl
theorem CCallK_plain {P:Program} {st:St} {g:Bool} {q:Prop} {fid:FuncId} {avs vs:List AV} {K:AV -> Prop} {r:AV} (he:enters P fid=true) (hc:Ctr P fid vs [] r []) (hv:viewAs st [] avs=some vs) (hp:r.plain=true) (hK:K r)
  (hq:g=true -> q):CCallK P st g q fid avs K:=CCallK_intro he (fun hg=>⟨hq hg,hc⟩) hv hp hK
theorem openK_sl {st:St} {agg:Bool} {k i j sz:Nat} {rows:List (List D)} {s2:Nat} {rs:List (List D)} {K:Option AV -> St -> Prop}:openK st agg k i j sz rows (.sl s2 rs) K =
 ∀ v:Value,K (some (openV agg st.next)) (openSt st k i j sz rows s2 rs v):=rfl

theorem flatDs_nil:flatDs []=some []:=rfl
theorem flatDs_int (k:IntKind) (z:Int) (r:List Leaf):flatDs (.dat (.int k z) :: r)=(flatDs r).map (.int k z :: ·):=rfl
theorem flatDs_bool (z:Bool) (r:List Leaf):flatDs (.dat (.bool z) :: r)=(flatDs r).map (.bool z :: ·):=rfl
theorem flatDs_str (z:ByteArray) (r:List Leaf):flatDs (.dat (.str z) :: r)=(flatDs r).map (.str z :: ·):=rfl
theorem flatDs_sl (n:Nat) (z:List (List D)) (r:List Leaf):flatDs (.dat (.sl n z) :: r)=none:=rfl

attribute [go_sem] openK_sl frzAll
attribute [go_sem] ite_two wpA_skip wpA_label wpA_exit wpA_ret wpA_seq wpA_cond wpA_block wpA_loop wpA_range wpA_region wpA_draw Then_normal Then_ret Then_exit Blk_normal Blk_ret
 Blk_exit Nrm_app RegK_app PutK_app SomeK_app CondK_app DrawK_app IfgK_app FinQ_normal FinQ_ret regQ_nil regQ_cons drawQ_nil drawQ_cons drawX_eq drawE_nil drawZ_eq floatL_nil floatL_cons isGlob onceL isAddV isLitC isIdxT allC drawP_nil drawP_cons DrawPK_app DrawPE_app appOf memN putD regF_nil regF_cons FltK_app regE_none regE_cons FltE_app setB_nil setB_cons keepB_nil keepB_cons numB_nil numB_cons dropB_nil dropB_cons numsB_nil numsB_cons roomN_zero roomN_succ chk_nil chk_cons keptV_some sameV_eq Same_self giveOf storeOf giveL_nil giveL_cons freeL_eq cellL_nil cellL_cons cellV bindsG onL_nil onL_cons looseL_nil looseL_none looseL_some lentL_nil lentL_cons idxOf loadOf readV lit0 opR opL pinN pinK_nil pinK_dead pinK_hole pinK_box pinK_vec pinK_lent pinK_frz pinK_wide pinK_pin pinK_ballast pinK_nop nopF_app pinF pinA loadR isStore isExt isCopy planL_nil planL_cons regT_done regT_step regT_two PlnK_app earlyOf earlyLit constP quietL chainL hasMake twoMake bringV isMake placeV placeObj resvM resvMIds placeQ vlitQ flatDs_nil flatDs_int flatDs_bool flatDs_str flatDs_sl drawM_nil drawM_cons DrawMK_app DrawME_app DrawMX_app DrawMA_app okV quietV drawY_eq drawL_nil drawL_cons DrawLK_app DrawLE_app DrawLX_app unlitQ litQ hardL isLoad litV isApp
 drawE_cons effQ_eq DrawEK_app DrawFK_app DrawAK_app isAlloc allocQ resv resvIds resvObj List.headD_cons List.tail_cons callV stepQ_eq stepD_eq condCall_eq
 opQ_eq nilArg opS un un? opA find constAV constLeaf constLeaves mkSt numbered argEnv boxS allocS AV.leaves
 zleaf St.putO St.put St.addObj faddrS St.obj loadS storeS St.setObj splice ldp ldD iaddrS indexS fieldS extractS nilS
 binS binD eqD eqLeaves Option.getD_none unS St.behind convS tbs byteNs byteNs_rows Option.map_some pickS lenS builtinS minmaxS makeS appendS clearS copyS copyP appMakeS capArg openArg openV sepSl oneSl openSt effOp
 srcS sliceS boundS buildS buildSliceS evP fillL chunks looseLeaves sepLeaves sepLeaf Leaf.isSl killAll callQ_eq callee evAs
 capsA drop capS guardA pureOp AV.isPV AV.ren AV.ren1 Leaf.ren fresh St.after idsOf
attribute [go_sem] List.map_cons List.map_nil Option.map_some Option.getD_some Option.isNone_none Option.isNone_some Option.isSome_some Option.bind_some if_true if_false List.take_succ_cons List.take_zero
 List.take_nil List.drop_succ_cons List.drop_zero List.drop_nil List.length_cons List.length_nil List.cons_append List.nil_append List.append_nil List.getD_cons_zero List.getD_cons_succ Nat.zero_add
 Nat.add_zero Nat.sub_zero Nat.sub_self true_and and_true false_and and_false List.zip_cons_cons List.zip_nil_left List.zip_nil_right decide_true decide_false
 Bool.or_true Bool.true_or Bool.or_false Bool.false_or Bool.and_true Bool.true_and Bool.and_false Bool.false_and Bool.not_true Bool.not_false bne_self_eq_false false_implies
 List.isEmpty_cons List.isEmpty_nil List.any_cons List.any_nil List.flatten_cons List.flatten_nil List.replicate_succ List.replicate_zero List.set_cons_zero List.set_cons_succ forall_const implies_true
 Bool.false_eq_true List.size_toArray Int.toNat_natCast Int.toNat_zero Array.isEmpty_empty cond_true cond_false beq_self_eq_true List.length_map beq_tt beq_ff List.getElem?_toArray
 List.getElem?_cons_zero List.getElem?_cons_succ

end Go.Abs
