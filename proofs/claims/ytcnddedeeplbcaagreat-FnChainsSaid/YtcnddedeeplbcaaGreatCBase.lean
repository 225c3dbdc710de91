/- Contracts: Base. -/
import Derived.Test.YtcnddedeeplbcaaGreatRows
import Derived.Test.YtcnddedeeplbcaaGreatCTy
import Derived.Test.YtcnddedeeplbcaaGreatAbsTac
import Derived.Test.YtcnddedeeplbcaaGreatAbsData
import Derived.WalkKit
import Derived.ProofKit
import Derived.OpenShut
namespace Go.Proofs.YtcnddedeeplbcaaGreat.Mod
open Go.Proofs.Tryz Go.Abs Go.Proofs.YtcnddedeeplbcaaGreat.Ty Go.ChangeShapes Go.WideShapes Go.ChangeAt Go.RowKit
set_option linter.unusedSimpArgs false
set_option linter.unusedVariables false
set_option maxHeartbeats 8000000
set_option maxRecDepth 100000
theorem wrap_id {n:Int} (h1:-9223372036854775808 <= n) (h2:n <= 9223372036854775807):IntKind.i64.wrap n=n:=by
 rw [IntKind.wrap_i64];omega
theorem wrap_succ {i n:Nat} (h:i < n) (hn:n <= maxLen):IntKind.i64.wrap ((i:Int) + 1)=((i + 1:Nat):Int):=by
 unfold maxLen at hn
 rw [IntKind.wrap_i64];omega
theorem wrap_pred {i n:Nat} (h:i < n) (hn:n <= maxLen):IntKind.i64.wrap ((i:Int) - 1)=(i:Int) - 1:=by
 unfold maxLen at hn
 rw [IntKind.wrap_i64];omega
theorem pred_toNat {i n:Nat} (h:i < n) (hn:n <= maxLen):(IntKind.i64.wrap ((i:Int) - 1)).toNat=i - 1:=by
 rw [wrap_pred h hn];omega
theorem le20 {n:Nat} (h:n <= 1048576):n <= maxLen:=Nat.le_trans h (by decide)
theorem take_set {α β:Type} (f:α -> β) (l:List α) (z:β) {i:Nat} (h:i < l.length) :
  (List.map f (l.take i) ++ List.replicate (l.length - i) z).set i (f l[i])=List.map f (l.take (i + 1)) ++ List.replicate (l.length - (i + 1)) z:=by
 rw [List.set_append_right _ _ (by simp;omega),List.length_map,List.length_take,Nat.min_eq_left (Nat.le_of_lt h),Nat.sub_self,
  show l.length - i=(l.length - (i + 1)) + 1 by omega,List.replicate_succ,List.set_cons_zero,List.take_succ_eq_append_getElem h,List.map_append,List.append_assoc]
 rfl
theorem decRows {α:Type} {enc:α -> List D} {q:α -> Prop} {p:List D -> Prop} (h:∀ r,p r -> ∃ x,r=enc x /\ q x):∀ {rows:List (List D)},(∀ r ∈ rows,p r) -> ∃ l:List α,rows=l.map enc /\ ∀ x ∈ l,q x
 | [],_=>⟨[],rfl,by simp⟩
 | r :: rows,hr=>by
  obtain ⟨x,rfl,hx⟩:=h r (hr r (by simp))
  obtain ⟨l,rfl,hl⟩:=decRows h (rows:=rows) (fun r' h'=>hr r' (by simp [h']))
  exact ⟨x :: l,rfl,fun y hy=>(List.mem_cons.1 hy).elim (fun e=>e ▸ hx) (hl y)⟩
theorem set_mid {α:Type} {A B:List α} {i:Nat} {x y:α} (h:A.length=i):(A ++ x :: B).set i y=A ++ y :: B:=by
 subst h;simp
theorem getD_mid {α:Type} {A B:List (List α)} {i:Nat} {x:List α} (h:A.length=i):(A ++ x :: B).getD i []=x:=by
 subst h;simp
theorem getD_range {α:Type} {f:Nat -> List α} {n i:Nat} (h:i < n):((List.range n).map f).getD i []=f i:=by
 simp [List.getD_eq_getElem?_getD,h]
def szL (left:Int) (n:Nat):Int:=if left - n < 0 then -1 else left - n
theorem szL_le {left:Int} {n:Nat} (h1:left <= 1048576) (h:decide (szL left n < 0)=false):n <= 1048576 /\ szL left n=left - n /\ 0 <= szL left n /\ szL left n <= 1048576:=by
 unfold szL at h ⊢
 split
 ·rename_i h';rw [if_pos h'] at h;simp at h
 ·omega
theorem szL_wrap {left:Int} {n:Nat} (h0:0 <= left) (h1:left <= 1048576) (hl:n <= maxLen):IntKind.i64.wrap (left - n)=left - n:=by
 unfold maxLen at hl
 rw [IntKind.wrap_i64];omega
theorem decInt {P:Program} {t:TypeId} (ht:P.underlying t=some (.int .i64)):∀ {n:Nat} {ds:List D},WT P n t ds -> ∃ x,ds=[.int .i64 x] /\ (Lit.int .i64 x).wf=true
 | 0,_,h=>h.elim
 | n + 1,ds,h=>by
  unfold WT at h
  rw [ht] at h
  exact h
theorem decBool {P:Program} {t:TypeId} (ht:P.underlying t=some .bool):∀ {n:Nat} {ds:List D},WT P n t ds -> ∃ b,ds=[.bool b]
 | 0,_,h=>h.elim
 | n + 1,ds,h=>by
  unfold WT at h
  rw [ht] at h
  exact h
theorem decStr {P:Program} {t:TypeId} (ht:P.underlying t=some .string):∀ {n:Nat} {ds:List D},WT P n t ds -> ∃ s:ByteArray,ds=[.str s] /\ s.size <= maxLen
 | 0,_,h=>h.elim
 | n + 1,ds,h=>by
  unfold WT at h
  rw [ht] at h
  exact h
theorem decSl {P:Program} {t e:TypeId} {T:Type} {enc:T -> List D} {q:T -> Prop} {sz:Nat} (ht:P.underlying t=some (.slice e)) (hsz:P.cellsOf e=sz) (he:∀ n ds,WT P n e ds -> ∃ x,ds=enc x /\ q x) :
  ∀ {n:Nat} {ds:List D},WT P n t ds -> ∃ l:List T,ds=[.sl sz (l.map enc)] /\ l.length <= maxLen /\ ∀ x ∈ l,q x
 | 0,_,h=>h.elim
 | n + 1,ds,h=>by
  unfold WT at h
  rw [ht] at h
  obtain ⟨rows,rfl,hl,hr⟩:=h
  obtain ⟨l,rfl,hq⟩:=decRows (enc:=enc) (q:=q) (fun r h=>he n r h) hr
  exact ⟨l,by rw [hsz],by simpa using hl,hq⟩
theorem all_drop {α:Type} {p:α -> Bool} {l:List α} {i:Nat} {b:Bool} (h:i < l.length) (hb:b=(l.drop i).all p):b=(p l[i] && (l.drop (i + 1)).all p):=by
 rw [List.drop_eq_getElem_cons h,List.all_cons] at hb;exact hb
theorem any_not_all {α:Type} (p:α -> Bool) (l:List α):(!l.any fun x=>!p x)=l.all p:=by
 rw [List.not_any_eq_all_not];simp
theorem sdE {a b q:Prop} (hp:a) (h:b=q):(a /\ b)=q:=by rw [<- h];simp [hp]
theorem scs {p q:Prop} (k:q) (h:p=q:=by (repeat (with_reducible apply sdE;next=>((intros;repeat' apply And.intro) <;> first | (with_reducible assumption) | omega | exact trivial | exact List.nodup_nil | exact List.not_mem_nil | (with_reducible rfl) | exact rfl | decide | (simp only [List.length_map,List.length_append,List.length_cons,List.length_nil];omega) | (simp [D.flat];done) | (simp_all only [Bool.not_false,Bool.not_true];done) | ((try clear hK);simp_all [D.flat];done) | ((try clear hK);simp_all [D.flat,encI];done) | fail)));rfl):p:=h ▸ k
theorem sv0 {p q:Prop} (k:q) (h:p=q:=by simp (maxSteps:=2000000) only [go_sem,seval,hdi,hw,getD_map hlt,encI];rfl):p:=h ▸ k
theorem sv1 {p q:Prop} (k:q) (h:p=q:=by simp (maxSteps:=2000000) only [go_sem,seval,hdi];rfl):p:=h ▸ k
theorem sv2 {p q:Prop} (k:q) (h:p=q:=by simp (maxSteps:=2000000) only [go_sem,seval,hw];rfl):p:=h ▸ k
theorem sv3 {p q:Prop} (k:q) (h:p=q:=by simp (maxSteps:=2000000) only [go_sem,seval];rfl):p:=h ▸ k
theorem sv4 {p q:Prop} (k:q) (h:p=q:=by simp (maxSteps:=2000000) only [go_sem,seval,hd6,hw,getD_map hic,encI];rfl):p:=h ▸ k
theorem sv5 {p q:Prop} (k:q) (h:p=q:=by simp (maxSteps:=2000000) only [go_sem,seval,hd6];rfl):p:=h ▸ k
theorem sv6 {p q:Prop} (k:q) (h:p=q:=by simp (maxSteps:=2000000) only [go_sem,seval,hdi,hw,getD_map hlt,encSList];rfl):p:=h ▸ k
theorem sv7 {p q:Prop} (k:q) (h:p=q:=by simp (maxSteps:=2000000) only [go_sem,seval,hdi,hw,ht,hit,hi8];rfl):p:=h ▸ k
theorem sv8 {p q:Prop} (k:q) (h:p=q:=by simp (maxSteps:=2000000) only [go_sem,seval,hdi,hw,hk];rfl):p:=h ▸ k
theorem sv9 {p q:Prop} (k:q) (h:p=q:=by simp (maxSteps:=2000000) only [go_sem,seval,hd6,hw];rfl):p:=h ▸ k
theorem sv10 {p q:Prop} (k:q) (h:p=q:=by simp (maxSteps:=2000000) only [go_sem,seval,hdn,Int.toNat_natCast,cls_get hlc (show n / 4 < 6 by omega),hlc];rfl):p:=h ▸ k
theorem sv11 {p q:Prop} (k:q) (h:p=q:=by simp (maxSteps:=2000000) only [go_sem,seval,cls_get hlc (show 0 < 6 by decide)];rfl):p:=h ▸ k
theorem sv12 {p q:Prop} (k:q) (h:p=q:=by simp (maxSteps:=2000000) only [go_sem,seval,hdi2,hw2,getD_map hlt2,encI];rfl):p:=h ▸ k
theorem sv13 {p q:Prop} (k:q) (h:p=q:=by simp (maxSteps:=2000000) only [go_sem,seval,hdi2];rfl):p:=h ▸ k
theorem sv14 {p q:Prop} (k:q) (h:p=q:=by simp (maxSteps:=2000000) only [go_sem,seval,hd3,hw,getD_map hgi,encSList];rfl):p:=h ▸ k
theorem sv15 {p q:Prop} (k:q) (h:p=q:=by simp (maxSteps:=2000000) only [go_sem,seval,hd4,hw2,hti,getD_map hoi,encSList];rfl):p:=h ▸ k
theorem sv16 {p q:Prop} (k:q) (h:p=q:=by simp (maxSteps:=2000000) only [go_sem,seval,hd3];rfl):p:=h ▸ k
theorem sv17 {p q:Prop} (k:q) (h:p=q:=by simp (maxSteps:=2000000) only [go_sem,seval,hh];rfl):p:=h ▸ k
theorem sv18 {p q:Prop} (k:q) (h:p=q:=by simp (maxSteps:=2000000) only [go_sem,seval,hh,ht,hd,hw];rfl):p:=h ▸ k
theorem sv19 {p q:Prop} (k:q) (h:p=q:=by simp (maxSteps:=2000000) only [go_sem,seval,hh,e1];rfl):p:=h ▸ k
theorem sv20 {p q:Prop} (k:q) (h:p=q:=by simp (maxSteps:=2000000) only [go_sem,seval,hw2,hw6];rfl):p:=h ▸ k
theorem sv21 {p q:Prop} (k:q) (h:p=q:=by simp (maxSteps:=2000000) only [go_sem,seval,hh,hc];rfl):p:=h ▸ k
theorem sv22 {p q:Prop} (k:q) (h:p=q:=by simp (maxSteps:=2000000) only [go_sem,seval,hn];rfl):p:=h ▸ k
theorem sv23 {p q:Prop} (k:q) (h:p=q:=by simp (maxSteps:=2000000) only [go_sem,seval,hdi,hw,getD_map hlt,getD_map hlt',encSList];rfl):p:=h ▸ k
theorem sv24 {p q:Prop} (k:q) (h:p=q:=by simp (maxSteps:=2000000) only [go_sem,seval,hm];rfl):p:=h ▸ k
theorem sv25 {p q:Prop} (k:q) (h:p=q:=by simp (maxSteps:=2000000) only [go_sem,seval,hb];rfl):p:=h ▸ k
theorem sv26 {p q:Prop} (k:q) (h:p=q:=by simp (maxSteps:=2000000) only [go_sem,seval,ht];rfl):p:=h ▸ k
theorem sv27 {p q:Prop} (k:q) (h:p=q:=by simp (maxSteps:=2000000) only [go_sem,seval,hb0];rfl):p:=h ▸ k
theorem sv28 {p q:Prop} (k:q) (h:p=q:=by simp (maxSteps:=2000000) only [go_sem,seval,hdi2,hw2,getD_map hlt2,encSList];rfl):p:=h ▸ k
theorem sv29 {p q:Prop} (k:q) (h:p=q:=by simp (maxSteps:=2000000) only [go_sem,seval,h1];rfl):p:=h ▸ k
theorem sv30 {p q:Prop} (k:q) (h:p=q:=by simp (maxSteps:=2000000) only [go_sem,seval,packA];rfl):p:=h ▸ k
theorem sv31 {p q:Prop} (k:q) (h:p=q:=by simp (maxSteps:=2000000) only [go_sem,seval,hd];rfl):p:=h ▸ k
theorem sv32 {p q:Prop} (k:q) (h:p=q:=by simp (maxSteps:=2000000) only [go_sem,seval,hlv];rfl):p:=h ▸ k
theorem sv33 {p q:Prop} (k:q) (h:p=q:=by simp (maxSteps:=2000000) only [go_sem,seval,hw2];rfl):p:=h ▸ k
theorem sv34 {p q:Prop} (k:q) (h:p=q:=by simp (maxSteps:=2000000) only [go_sem,seval,hn0];rfl):p:=h ▸ k
theorem sv35 {p q:Prop} (k:q) (h:p=q:=by simp (maxSteps:=2000000) only [go_sem,seval,hn0,ht];rfl):p:=h ▸ k
theorem sv36 {p q:Prop} (k:q) (h:p=q:=by simp (maxSteps:=2000000) only [go_sem,seval,hk0];rfl):p:=h ▸ k
theorem sv37 {p q:Prop} (k:q) (h:p=q:=by simp (maxSteps:=2000000) only [go_sem,seval,hk0,getD_map hkl,hX,encSList,List.length_set];rfl):p:=h ▸ k
theorem sv38 {p q:Prop} (k:q) (h:p=q:=by simp (maxSteps:=2000000) only [go_sem,seval,h1,h2];rfl):p:=h ▸ k
theorem sv39 {p q:Prop} (k:q) (h:p=q:=by simp (maxSteps:=2000000) only [go_sem,seval,hd3,hw];rfl):p:=h ▸ k
theorem sv40 {p q:Prop} (k:q) (h:p=q:=by simp (maxSteps:=2000000) only [go_sem,seval,hdi2,hw2];rfl):p:=h ▸ k
theorem sv41 {p q:Prop} (k:q) (h:p=q:=by simp (maxSteps:=2000000) only [go_sem,seval,hwg];rfl):p:=h ▸ k
theorem sv42 {p q:Prop} (k:q) (h:p=q:=by simp (maxSteps:=2000000) only [go_sem,seval,hww];rfl):p:=h ▸ k
theorem sv43 {p q:Prop} (k:q) (h:p=q:=by simp (maxSteps:=2000000) only [go_sem,seval,hww,hcn];rfl):p:=h ▸ k
theorem sv44 {p q:Prop} (k:q) (h:p=q:=by simp (maxSteps:=2000000) only [go_sem,seval,hw1];rfl):p:=h ▸ k
theorem sv45 {p q:Prop} (k:q) (h:p=q:=by simp (maxSteps:=2000000) only [go_sem,seval,hi];rfl):p:=h ▸ k
theorem sv46 {p q:Prop} (k:q) (h:p=q:=by simp (maxSteps:=2000000) only [go_sem,seval,hg];rfl):p:=h ▸ k
theorem sv47 {p q:Prop} (k:q) (h:p=q:=by simp (maxSteps:=2000000) only [go_sem,seval,getD_map hyl,encI];rfl):p:=h ▸ k
theorem sv48 {p q:Prop} (k:q) (h:p=q:=by simp (maxSteps:=2000000) only [go_sem,seval,getD_map hlt2,encI,hw2];rfl):p:=h ▸ k
theorem sv49 {p q:Prop} (k:q) (h:p=q:=by simp (maxSteps:=2000000) only [go_sem,seval,chunks,encI];rfl):p:=h ▸ k
theorem sv50 {p q:Prop} (k:q) (h:p=q:=by simp (maxSteps:=2000000) only [go_sem,seval,hin,hk0];rfl):p:=h ▸ k
theorem sv51 {p q:Prop} (k:q) (h:p=q:=by simp (maxSteps:=2000000) only [go_sem,seval,encBkt];rfl):p:=h ▸ k
theorem sv52 {p q:Prop} (k:q) (h:p=q:=by simp (maxSteps:=2000000) only [go_sem,seval,bne_self_eq_false];rfl):p:=h ▸ k
theorem sv53 {p q:Prop} (k:q) (h:p=q:=by simp (maxSteps:=2000000) only [go_sem,seval,bne_self_eq_false,hpb];rfl):p:=h ▸ k
theorem sv54 {p q:Prop} (k:q) (h:p=q:=by simp (maxSteps:=2000000) only [go_sem,seval,beq_self_eq_true,hdt];rfl):p:=h ▸ k
end Go.Proofs.YtcnddedeeplbcaaGreat.Mod
