/- Short forms: closing steps that repeat, as arguments with a default. -/
import Derived.Test.YtomcobpfejdnoaaAbsEval
import Derived.ProofKit
import Derived.WalkKit
namespace Go.Abs
set_option linter.unusedVariables false

theorem evl {p q : Prop} (k : q) (h : p = q := by simp (maxSteps := 2000000) only [go_sem, ↓reduceIte, reduceCtorEq, Nat.reduceAdd, Nat.reduceMul, Nat.reduceSub, Nat.reduceLT, Nat.reduceLeDiff, Nat.reduceEqDiff, Int.reduceToNat, Int.reduceLT, Int.reduceLE, Int.reduceNeg]; rfl) : p := h ▸ k

theorem wrapI {n : Int} (h1 : -9223372036854775808 ≤ n) (h2 : n ≤ 9223372036854775807) : IntKind.i64.wrap n = n := by
  rw [IntKind.wrap_i64]; omega

theorem evw {p q : Prop} (k : q) (h : p = q := by simp (maxSteps := 2000000) (disch := omega) only [go_sem, ↓reduceIte, reduceCtorEq, Nat.reduceAdd, Nat.reduceMul, Nat.reduceSub, Nat.reduceLT, Nat.reduceLeDiff, Nat.reduceEqDiff, Int.reduceToNat, Int.reduceLT, Int.reduceLE, Int.reduceNeg, Int.reduceEq, Int.reduceNe, Int.reduceBEq, Int.reduceBNe, Int.reduceAdd, Int.reduceMul, Int.reduceSub, Int.reduceTDiv, Int.reduceTMod, Nat.reduceBEq, Int.tmod_eq_emod_of_nonneg, Int.tdiv_eq_ediv_of_nonneg, not_false_eq_true, ne_eq, List.length_map, wrapI]; rfl) : p := h ▸ k

theorem rsl {p q : Prop} (k : q) (h : p = q := by simp only [packA, AV.renF, AV.renF1, Leaf.renF, AV.one.injEq, Leaf.dat.injEq, D.bool.injEq, D.int.injEq, D.str.injEq, AV.agg.injEq, AV.tup.injEq, List.cons.injEq, and_true, true_and, List.map_cons, List.map_nil]; rfl) : p := h ▸ k

theorem scA {p q : Prop} (hq : q) (hp : p := by (intros; repeat' apply And.intro) <;> first | (with_reducible assumption) | omega | exact trivial | exact List.nodup_nil | exact List.not_mem_nil | (with_reducible rfl) | exact rfl | decide | (simp only [List.length_map, List.length_append, List.length_cons, List.length_nil]; omega) | (simp [D.flat]; done) | (simp_all only [Bool.not_false, Bool.not_true]; done) | ((try clear hK); simp_all [D.flat]; done) | ((try clear hK); simp_all [D.flat, encI]; done) | fail) : p ∧ q := ⟨hp, hq⟩

section
variable {P : Program} {nf : Nat} {st : St}
theorem Ent.wk (ids : List Nat) {env : List (Nat × AV)} {xs : List AObj} (h1 : nf ≤ ids.length := by simp) (h2 : ids.take nf = List.range nf := by rfl) (h3 : ids.Nodup := by simp)
    (h4 : objsLe st ids ids xs := by simp [objsLe, envLe, find, St.obj, AObj.renF, AV.renF, AV.renF1, Leaf.renF, LowAll, AV.Low, AV.Low1, Leaf.Low, AObj.Low, Ptr.renF, Ptr.Low] <;> try rfl)
    (h5 : envLe st ids env := by simp [objsLe, envLe, find, St.obj, AObj.renF, AV.renF, AV.renF1, Leaf.renF, LowAll, AV.Low, AV.Low1, Leaf.Low, AObj.Low, Ptr.renF, Ptr.Low] <;> try rfl)
    (h6 : LowAll env xs := by simp [objsLe, envLe, find, St.obj, AObj.renF, AV.renF, AV.renF1, Leaf.renF, LowAll, AV.Low, AV.Low1, Leaf.Low, AObj.Low, Ptr.renF, Ptr.Low]) : Ent nf st (mkSt env xs) := Ent.weak h1 h2 h3 h4 h5 h6

theorem CallK_pu {fid : FuncId} {avs vs : List AV} {K : AV → St → Prop} {r : AV} {objs' : List AObj} (he : enters P fid = true) (hc : Ctr P fid vs [] r objs') (hv : viewAs st [] avs = some vs) (hK : K (r.ren (fresh st.next objs'.length)) (st.after [] objs')) : CallK P st fid avs K :=
  CallK_pure he hc hv hK

section
variable {g : Bool} {q : Prop} {fid : FuncId} {avs vs : List AV} {K : AV → Prop} {r : AV} {X : Prop}
theorem CCallK_pl (he : enters P fid = true) (hc : Ctr P fid vs [] r []) (hv : viewAs st [] avs = some vs) (hp : r.plain = true) (hK : K r)
    (hq : g = true → q := by intro h; first | exact trivial | exact h | exact ⟨h, h⟩ | (cases h; done) | (simp; done) | (simp_all only [Bool.not_false, Bool.not_true, and_self]; done) | fail) : CCallK P st g q fid avs K := CCallK_plain he hc hv hp hK hq
theorem CCallK_pm (he : enters P fid = true) (hc : Ctr P fid vs [] r []) (hv : viewAs st [] avs = some vs) (hp : r.plain = true) (hK : K r)
    (hq : g = true → q := by intro h; first | exact trivial | exact h | exact ⟨h, h⟩ | (cases h; done) | (simp; done) | (simp_all only [Bool.not_false, Bool.not_true, and_self]; done) | fail) : CCallK P st g q fid avs K ∨ X := .inl (CCallK_plain he hc hv hp hK hq)
theorem CCallK_of (r : AV) (hK : K r) (hp : r.plain = true := by rfl) : CCallK P st false q fid avs K := ⟨r, hp, fun h => Bool.noConfusion h, hK⟩
theorem CCallK_og (r : AV) (hK : K r) (hp : r.plain = true := by rfl) : CCallK P st false q fid avs K ∨ X := .inl ⟨r, hp, fun h => Bool.noConfusion h, hK⟩
end
theorem EffK_pu {fid : FuncId} {avs vs : List AV} {K : AV → St → Prop} {r : AV} {objs' : List AObj} {X : Prop} (he : enters P fid = true) (hc : Ctr P fid vs [] r objs') (hv : viewAs st [] avs = some vs) (hK : K (r.ren (fresh st.next objs'.length)) (st.after [] objs')) : X ∨ EffK P st fid avs K :=
  .inr (EffK_pure he hc hv hK)
theorem EffK_pw {fid : FuncId} {avs vs : List AV} {K : AV → St → Prop} {r : AV} {objs' : List AObj} {X Y : Prop} (he : enters P fid = true) (hc : Ctr P fid vs [] r objs') (hv : viewAs st [] avs = some vs) (hK : K (r.ren (fresh st.next objs'.length)) (st.after [] objs')) (hy : Y := by kernel_rfl) : X ∨ Y ∧ EffK P st fid avs K :=
  .inr ⟨hy, EffK_pure he hc hv hK⟩

theorem Fin.nt {fn : Func} {r : AV} {objs' : List AObj} {rvs : Array ResultVar} {q : Prop} {rs : List AV} (h1 : fn.results = rvs) (ids : List Nat) (hq : q) (h3 : packA rs = r.renF ids) (h7 : objsLe st ids ids objs')
    (h2 : resA P st rvs.toList = some (q, rs) := by simp (maxSteps := 2000000) only [go_sem, ↓reduceIte, reduceCtorEq, Nat.reduceAdd, Nat.reduceMul, Nat.reduceSub, Nat.reduceLT, Nat.reduceLeDiff, Nat.reduceEqDiff, Int.reduceToNat, Int.reduceLT, Int.reduceLE, Int.reduceNeg, resA]; rfl)
    (h4 : nf ≤ ids.length := by simp) (h5 : ids.take nf = List.range nf := by rfl) (h6 : ids.Nodup := by simp) : Fin P fn nf r objs' st := Fin.intro h1 ids h2 hq h3 h4 h5 h6 h7

theorem Ctr.bd {f : FuncId} {fn : Func} {c : Code} {as : List AV} {r : AV} {objs' : List AObj} (hm : P.follows .mixedOrders = true) (hf : P.funcs[f]? = some fn) (hb : fn.body = some c) (hbody : wpA P 0 c (FinQ P fn 0 r objs') (mkSt (argEnv 0 as) []))
    (hok : codeOk fn.ntmps c = true := by kernel_rfl) (hn : as.length ≤ fn.ntmps := by exact Nat.le_of_ble_eq_true rfl) (hclean : r.Clean := by simp [AV.Clean, AV.Clean1, Leaf.Clean, D.flat]) (hsep : ∀ x ∈ objs', x.Sep := by simp [AObj.Sep])
    (hlow : r.Low objs'.length := by simp [AV.Low, AV.Low1, Leaf.Low]) : Ctr P f as [] r objs' := Ctr.body hm hf hb hok hn hclean hsep hlow hbody
end

end Go.Abs
