/- Abstract operations that leave memory alone. -/
import Derived.Test.YtcnddedeeplbcaaGreatAbsBytes
import Derived.Test.YtcnddedeeplbcaaGreatAbsEq
namespace Go.Abs
set_option linter.unusedVariables false

abbrev Out:=Option (Prop × Option AV × St)

def un (st:St) (x:Operand) (k:AV -> Out):Out :=
 match opA st x with
 | some (p,v)=>match k v with
  | some (q,r,s)=>some (p /\ q,r,s)
  | none=>none
 | none=>none

theorem un_inv {st:St} {x:Operand} {k:AV -> Out} {q:Prop} {r:Option AV} {s:St} (h:un st x k=some (q,r,s)) (hq:q) :
  ∃ (p:Prop) (v:AV) (q':Prop),opA st x=some (p,v) /\ k v=some (q',r,s) /\ p /\ q':=by
 unfold un at h
 cases e:opA st x with
 | none=>rw [e] at h;cases h
 | some pv =>
  obtain ⟨p,v⟩:=pv
  rw [e] at h
  simp only at h
  cases e':k v with
  | none=>rw [e'] at h;cases h
  | some qrs =>
   obtain ⟨q',r',s'⟩:=qrs
   rw [e'] at h
   simp only [Option.some.injEq,Prod.mk.injEq] at h
   obtain ⟨rfl,rfl,rfl⟩:=h
   exact ⟨p,v,q',rfl,e',hq.1,hq.2⟩

def tbool (P:Program) (t:TypeId):Bool:=match P.underlying t with | some .bool=>true | _=>false
def tkind (P:Program) (t:TypeId):Option IntKind:=match P.underlying t with | some (.int k)=>some k | _=>none
def tstr (P:Program) (t:TypeId):Bool:=match P.underlying t with | some .string=>true | _=>false

theorem tbool_spec {P:Program} {t:TypeId} (h:tbool P t=true):P.underlying t=some .bool:=by
 unfold tbool at h;split at h <;> first | assumption | cases h
theorem tkind_spec {P:Program} {t:TypeId} {k:IntKind} (h:tkind P t=some k):P.underlying t=some (.int k):=by
 unfold tkind at h;split at h <;> first | (cases h;assumption) | cases h
theorem tstr_spec {P:Program} {t:TypeId} (h:tstr P t=true):P.underlying t=some .string:=by
 unfold tstr at h;split at h <;> first | assumption | cases h

def bitsD (op:BinOp) (k:IntKind) (a b:Int):Int :=
 let x:=BitVec.ofInt k.bits a
 let y:=BitVec.ofInt k.bits b
 k.wrap (match op with | .and=>x &&& y | .or=>x ||| y | .xor=>x ^^^ y | _=>x &&& ~~~y).toNat
def shrD (k:IntKind) (a b:Int):Int:=a.fdiv (2 ^ (min b.toNat k.bits))
def shlD (k:IntKind) (a b:Int):Int:=k.wrap (a * 2 ^ (min b.toNat k.bits))

def binD (op:BinOp) (isb:Bool):D -> D -> Option (Prop × D)
 | .int k a,.int k' b =>
  match op with
  | .add=>some (k=k',.int k (k.wrap (a + b)))
  | .sub=>some (k=k',.int k (k.wrap (a - b)))
  | .mul=>some (k=k',.int k (k.wrap (a * b)))
  | .quo=>some (k=k' /\ b ≠ 0,.int k (k.wrap (a.tdiv b)))
  | .rem=>some (k=k' /\ b ≠ 0,.int k (a.tmod b))
  | .and=>some (k=k',.int k (bitsD .and k a b))
  | .or=>some (k=k',.int k (bitsD .or k a b))
  | .xor=>some (k=k',.int k (bitsD .xor k a b))
  | .andNot=>some (k=k',.int k (bitsD .andNot k a b))
  | .shl=>some (0 <= b,.int k (shlD k a b))
  | .shr=>some (0 <= b,.int k (shrD k a b))
  | .eql=>some (k=k',.bool (a == b))
  | .neq=>some (k=k',.bool (a != b))
  | .lss=>some (k=k',.bool (decide (a < b)))
  | .leq=>some (k=k',.bool (decide (a <= b)))
  | .gtr=>some (k=k',.bool (decide (b < a)))
  | .geq=>some (k=k',.bool (decide (b <= a)))
 | .bool a,.bool b =>
  match op with
  | .eql=>some (isb=true,.bool (a == b))
  | .neq=>some (isb=true,.bool (a != b))
  | _=>none
 | .str a,.str b =>
  match op with
  | .add=>some (((a.size + b.size:Nat):Int) <= 9223372036854775807,.str (a ++ b))
  | .eql=>some (True,.bool (a.toList == b.toList))
  | .neq=>some (True,.bool (!(a.toList == b.toList)))
  | .lss=>some (True,.bool (Op.bytesLess a.toList b.toList))
  | .gtr=>some (True,.bool (!(Op.bytesLess a.toList b.toList || a.toList == b.toList)))
  | _=>none
 | _,_=>none

theorem binD_sound {P:Program} {w:World} {op:BinOp} {t:TypeId} {x y:Operand} {d e r:D} {q:Prop} {u v:Value} {S S':List Nat} (h:binD op (tbool P t) d e=some (q,r)) (hq:q) (hd:Rep w d u S) (he:Rep w e v S') :
  ∃ z,(do eqGuard op t x y u v;binOp op t u v:Sem Value).run P w=.ok z w /\ Rep w r z []:=by
 cases hd <;> cases he <;> simp only [binD] at h <;> try (cases h;done)
 case int.int k a k' b =>
  have hg:(eqGuard op t x y (.int k a) (.int k' b)).run P w=.ok () w:=by
   simp only [eqGuard];split <;> simp
  cases op <;> simp only [Option.some.injEq,Prod.mk.injEq] at h <;> obtain ⟨rfl,rfl⟩:=h
  case shl=>exact ⟨_,by simp [hg,binOp,Op.shift,shlD,show ¬ b < 0 by omega],.int _ _⟩
  case shr=>exact ⟨_,by simp [hg,binOp,Op.shift,shrD,show ¬ b < 0 by omega],.int _ _⟩
  case quo=>obtain ⟨rfl,h0⟩:=hq;refine ⟨_,?_,.int _ _⟩;simp [hg,binOp,Op.intDiv,h0]
  case rem=>obtain ⟨rfl,h0⟩:=hq;refine ⟨_,?_,.int _ _⟩;simp [hg,binOp,Op.intDiv,h0]
  case add | sub | mul=>subst hq;refine ⟨_,?_,.int _ _⟩;simp [hg,binOp,Op.intArith]
  case and | or | xor | andNot=>subst hq;refine ⟨_,?_,.int _ _⟩;simp [hg,binOp,Op.intBits,bitsD]
  all_goals subst hq;refine ⟨_,?_,.bool _⟩;simp [hg,binOp,Op.intCmp]
 case bool.bool a b =>
  have hg:(eqGuard op t x y (.bool a) (.bool b)).run P w=.ok () w:=by
   simp only [eqGuard];split <;> simp
  cases op <;> simp only [Option.some.injEq,Prod.mk.injEq,reduceCtorEq] at h <;> obtain ⟨rfl,rfl⟩:=h
  ·refine ⟨_,?_,.bool _⟩;simp [hg,binOp,run_equal_bool w t a b (tbool_spec hq)]
  ·refine ⟨_,?_,.bool _⟩;simp [hg,binOp,run_equal_bool w t a b (tbool_spec hq),bne]
 case str.str a b =>
  have hg:(eqGuard op t x y (.string a) (.string b)).run P w=.ok () w:=by
   simp only [eqGuard];split <;> simp
  cases op <;> simp only [Option.some.injEq,Prod.mk.injEq,reduceCtorEq] at h <;> obtain ⟨rfl,rfl⟩:=h
  case add =>
   have:¬ ((a.size + b.size:Nat):Int) > IntKind.i64.max:=by
    have h1:IntKind.i64.max=9223372036854775807:=by decide
    rw [h1];omega
   exact ⟨_,by simp only [Sem.run_bind,hg,Result.andThen,binOp,Op.stringOp,if_neg this];rfl,.str _⟩
  all_goals refine ⟨_,?_,.bool _⟩;simp [hg,binOp,Op.stringOp]

def eqD (ks:List Nat) (ls ms:List Leaf):Option (Prop × Bool):=some (((eqLeaves ks ls ms).getD (False,false)).1,((eqLeaves ks ls ms).getD (False,false)).2)
theorem eqD_some {ks:List Nat} {ls ms:List Leaf} {q:Prop} {b:Bool} (h:eqD ks ls ms=some (q,b)) (hq:q):eqLeaves ks ls ms=some (q,b):=by
 unfold eqD at h
 cases e:eqLeaves ks ls ms with
 | none=>rw [e] at h;simp only [Option.getD_none,Option.some.injEq,Prod.mk.injEq] at h;exact absurd (h.1 ▸ hq) id
 | some p =>
  rw [e] at h
  simp only [Option.getD_some,Option.some.injEq,Prod.mk.injEq] at h
  obtain ⟨h1,h2⟩:=h
  rw [<- h1,<- h2]

def binS (P:Program) (st:St) (op:BinOp) (t:TypeId):AV -> AV -> Out
 | .one (.dat a),.one (.dat b)=>match binD op (tbool P t) a b with
  | some (q,r)=>some (q,some (.one (.dat r)),st)
  | none=>none
 | .agg ls,.agg ms=>match op,teq P t with
  | .eql,some ks=>match eqD ks ls ms with
   | some (q,b)=>some (q,some (.one (.dat (.bool b))),st)
   | none=>none
  | .neq,some ks=>match eqD ks ls ms with
   | some (q,b)=>some (q,some (.one (.dat (.bool (!b)))),st)
   | none=>none
  | _,_=>none
 | _,_=>none

def unS (st:St) (op:UnOp):AV -> Out
 | .one (.dat (.bool b))=>match op with
  | .not=>some (True,some (.one (.dat (.bool (!b)))),st)
  | _=>none
 | .one (.dat (.int k n))=>match op with
  | .neg=>some (True,some (.one (.dat (.int k (k.wrap (0 - n))))),st)
  | _=>none
 | _=>none

def tbs (P:Program) (src dst:TypeId):Bool:=tstr P dst && match te P src with
 | some (e,_,_)=>(match tkind P e with
  | some .u8=>true
  | _=>false)
 | none=>false
theorem tbs_spec {P:Program} {src dst:TypeId} (h:tbs P src dst=true):tstr P dst=true /\ ∃ e,P.underlying src=some (.slice e) /\ P.underlying e=some (.int .u8):=by
 unfold tbs at h
 simp only [Bool.and_eq_true] at h
 obtain ⟨h1,h2⟩:=h
 split at h2
 ·rename_i e s y he
  split at h2
  ·rename_i hk
   exact ⟨h1,e,(te_spec he).1,tkind_spec hk⟩
  ·cases h2
 ·cases h2

def convS (P:Program) (st:St) (src dst:TypeId):AV -> Out
 | .one (.dat (.int _ n))=>match tkind P src,tkind P dst with
  | some _,some k=>some (True,some (.one (.dat (.int k (k.wrap n)))),st)
  | _,_=>none
 | .one (.dat (.str s))=>if tstr P src && tstr P dst then some (True,some (.one (.dat (.str s))),st) else none
 | .one (.dat (.sl sz rows))=>if decide (sz=1) && tbs P src dst then (byteNs rows).map fun ns=>(True,some (.one (.dat (.str (bytesOf ns)))),st) else none
 | .one (.own o)=>match st.obj o with
  | .vec sz _ rows=>if decide (sz=1) && tbs P src dst then (byteNs rows).map fun ns=>(True,some (.one (.dat (.str (bytesOf ns)))),st) else none
  | _=>none
 | _=>none

def pickS (st:St) (c a b:Operand):Out :=
 match opA st c,opA st a,opA st b with
 | some (pc,.one (.dat (.bool x))),some (pa,.one (.dat (.bool y))),some (pb,.one (.dat (.bool z))) =>
  some (pc /\ (x=true -> pa) /\ (x=false -> pb),some (.one (.dat (.bool (cond x y z)))),st)
 | _,_,_=>none

def faddrS (P:Program) (st:St) (t:TypeId) (f:Nat):AV -> Out
 | .one (.ptr (.own o i j))=>match st.obj o with
  | .dead=>none
  | _=>(tf P t f).map fun x=>(True,some (.one (.ptr (.own o i (j + x.1)))),st)
 | .one (.ptr (.ro sz rows i j))=>(tf P t f).map fun x=>(True,some (.one (.ptr (.ro sz rows i (j + x.1)))),st)
 | _=>none

def iaddrS (P:Program) (st:St) (t:TypeId):AV -> AV -> Out
 | .one (.own o),.one (.dat (.int _ n))=>match te P t with
  | some (_,s,_)=>match st.obj o with
   | .vec sz _ rows=>some (sz=s /\ 0 <= n /\ n < rows.length,some (.one (.ptr (.own o n.toNat 0))),st)
   | .frz sz rows=>some (sz=s /\ 0 <= n /\ n < rows.length,some (.one (.ptr (.own o n.toNat 0))),st)
   | _=>none
  | none=>none
 | .one (.part o i m),.one (.dat (.int _ n))=>match te P t with
  | some (_,s,_)=>match st.obj o with
   | .vec sz _ rows=>some (sz=s /\ 0 <= n /\ n < m,some (.one (.ptr (.own o (i + n.toNat) 0))),st)
   | _=>none
  | none=>none
 | .one (.dat (.sl sz rows)),.one (.dat (.int _ n))=>match te P t with
  | some (_,s,_)=>some (sz=s /\ 0 <= n /\ n < rows.length,some (.one (.ptr (.ro sz rows n.toNat 0))),st)
  | none=>none
 | .one (.ptr (.own o i j)),.one (.dat (.int _ n))=>match ta P t with
  | some (len,_,s)=>match st.obj o with
   | .dead=>none
   | _=>some (0 <= n /\ n < len,some (.one (.ptr (.own o i (j + n.toNat * s)))),st)
  | none=>none
 | .one (.ptr (.ro sz rows i j)),.one (.dat (.int _ n))=>match ta P t with
  | some (len,_,s)=>some (0 <= n /\ n < len,some (.one (.ptr (.ro sz rows i (j + n.toNat * s)))),st)
  | none=>none
 | _,_=>none

def indexS (P:Program) (st:St) (t:TypeId):AV -> AV -> Out
 | .one (.dat (.str s)),.one (.dat (.int _ n))=>if tstr P t then some (0 <= n /\ n < s.size,some (.one (.dat (.int .u8 ((s.data.toList.getD n.toNat 0).toNat:Nat)))),st) else none
 | .agg ls,.one (.dat (.int _ n))=>match ta P t with
  | some (len,e,1)=>match tl P e with
   | some (false,1)=>some (0 <= n /\ n < len /\ len=ls.length,some (.one (ls.getD n.toNat .emp)),st)
   | _=>none
  | _=>none
 | _,_=>none

def fieldS (P:Program) (st:St) (t:TypeId) (f:Nat):AV -> Out
 | .agg ls=>match tf P t f with
  | some (off,false,1)=>some (off < ls.length,some (.one (ls.getD off .emp)),st)
  | some (off,true,s)=>some (off + s <= ls.length,some (.agg ((ls.drop off).take s)),st)
  | _=>none
 | _=>none

def extractS (st:St) (k:Nat):AV -> Out
 | .tup vs=>match vs[k]? with
  | some (.one l)=>some (True,some (.one l),st)
  | some (.agg ls)=>some (True,some (.agg ls),st)
  | _=>none
 | _=>none

def oneSl (P:Program) (t:TypeId):Bool:=match te P t with
 | some _=>true
 | none=>match tl P t with
  | some (true,1)=>match tz P t with
   | some [.sl _ _]=>true
   | _=>false
  | _=>false
def sepSl (P:Program) (st:St) (t:TypeId):Ptr -> Bool
 | .own k _ _=>match oneSl P t with
  | true=>match st.obj k with
   | .vec _ true _=>true
   | _=>false
  | false=>false
 | _=>false

def loadS (P:Program) (st:St) (t:TypeId):AV -> Out
 | .one (.ptr p)=>if sepSl P st t p then none else match tl P t with
  | some (agg,s)=>if agg || decide (s=1) then (ldp st agg s p).map fun x=>(x.1,some x.2,st) else none
  | none=>none
 | _=>none

def lenS (st:St):AV -> Out
 | .one (.own o)=>match st.obj o with
  | .vec _ _ rows=>some (True,some (.one (.dat (.int .i64 rows.length))),st)
  | .frz _ rows=>some (True,some (.one (.dat (.int .i64 rows.length))),st)
  | .wide _ n _=>some (True,some (.one (.dat (.int .i64 n))),st)
  | _=>none
 | .one (.part o i n)=>match st.obj o with
  | .vec _ _ _=>some (True,some (.one (.dat (.int .i64 n))),st)
  | .wide _ _ _=>some (True,some (.one (.dat (.int .i64 n))),st)
  | _=>none
 | .one .emp=>some (True,some (.one (.dat (.int .i64 0))),st)
 | .one (.dat (.sl _ rows))=>some (True,some (.one (.dat (.int .i64 rows.length))),st)
 | .one (.dat (.str s))=>some (True,some (.one (.dat (.int .i64 s.size))),st)
 | _=>none

end Go.Abs
