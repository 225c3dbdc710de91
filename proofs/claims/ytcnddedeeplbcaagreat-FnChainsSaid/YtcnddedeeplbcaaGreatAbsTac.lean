/- Short forms: closing steps that repeat, as arguments with a default. -/
import Derived.Test.YtcnddedeeplbcaaGreatAbsEval
import Derived.ProofKit
import Derived.WalkKit
namespace Go.Abs
set_option linter.unusedVariables false

theorem evl {p q:Prop} (k:q) (h:p=q:=by simp (maxSteps:=2000000) only [go_sem,↓reduceIte,reduceCtorEq,Nat.reduceAdd,Nat.reduceMul,Nat.reduceSub,Nat.reduceLT,Nat.reduceLeDiff,Nat.reduceEqDiff,Int.reduceToNat,Int.reduceLT,Int.reduceLE,Int.reduceNeg];rfl):p:=h ▸ k

theorem wrapI {n:Int} (h1:-9223372036854775808 <= n) (h2:n <= 9223372036854775807):IntKind.i64.wrap n=n:=by
 rw [IntKind.wrap_i64];omega

theorem evw {p q:Prop} (k:q) (h:p=q:=by simp (maxSteps:=2000000) (disch:=omega) only [go_sem,↓reduceIte,reduceCtorEq,Nat.reduceAdd,Nat.reduceMul,Nat.reduceSub,Nat.reduceLT,Nat.reduceLeDiff,Nat.reduceEqDiff,Int.reduceToNat,Int.reduceLT,Int.reduceLE,Int.reduceNeg,Int.reduceEq,Int.reduceNe,Int.reduceBEq,Int.reduceBNe,Int.reduceAdd,Int.reduceMul,Int.reduceSub,Int.reduceTDiv,Int.reduceTMod,Nat.reduceBEq,Int.tmod_eq_emod_of_nonneg,Int.tdiv_eq_ediv_of_nonneg,not_false_eq_true,ne_eq,List.length_map,wrapI];rfl):p:=h ▸ k

theorem rsl {p q:Prop} (k:q) (h:p=q   := by first | (simp only [packA,AV.renF,AV.renF1,Leaf.renF,AV.one.injEq,Leaf.dat.injEq,D.bool.injEq,D.int.injEq,D.str.injEq,AV.agg.injEq,AV.tup.injEq,List.cons.injEq,and_true,true_and,List.map_cons,List.map_nil];rfl) | rfl):p:=h ▸ k

theorem scA {p q:Prop} (hq:q) (hp:p:=by (intros;repeat' apply And.intro) <;> first | (with_reducible assumption) | omega | exact trivial | exact List.nodup_nil | exact List.not_mem_nil | (with_reducible rfl) | exact rfl | decide | (simp only [List.length_map,List.length_append,List.length_cons,List.length_nil];omega) | (simp [D.flat];done) | (simp_all only [Bool.not_false,Bool.not_true];done) | ((try clear hK);simp_all [D.flat];done) | ((try clear hK);simp_all [D.flat,encI];done) | fail):p /\ q:=⟨hp,hq⟩

theorem lent_given (sz:Nat) (rs:List (List D)):Given (lent sz rs):=Given_vec _ _

theorem lent_sep (sz:Nat) (rs:List (List D)):(lent sz rs).Sep:=rfl

theorem Ctr.drop {P:Program} {f:FuncId} {as:List AV} {x y:AObj} {r:AV} (h:Ctr P f as [x] r [y]) (hr:r.isDat=true):Ctr P f as [x] r [.dead] where
 clean:=h.clean
 sep:=by simp [AObj.Sep]
 len:=Nat.le_refl _
 comp:=fun o ho=>by
  have:o=0:=by simpa using ho
  subst this
  unfold Objs
  cases x <;> exact trivial
 calls:=fun w β φ vs h1 h2=>(h.calls w β φ vs h1 h2).mono fun e w' ⟨v,β',φ',he,hOR,hβ,hφ,hrr,hf⟩=>by
  refine ⟨v,β',fun _=>[],he,⟨fun o=>?_,fun _=>List.nodup_nil,fun _ _ _ _ hb=>absurd hb (by simp),fun _ _ hb=>absurd hb (by simp),hOR.glob.sub fun b ⟨_,hb⟩=>absurd hb (by simp)⟩,hβ,fun _ _ hb=>absurd hb (by simp),?_,hf⟩
  ·unfold ObjRel
   have:(lctx w' β' (fun _=>[]) [AObj.dead]).ob o=.dead:=by
    show Objs [AObj.dead] o=_
    unfold Objs
    cases o with
    | zero=>rfl
    | succ o=>rfl
   rw [this]
  ·exact dat_av (C:=lctx w' β' φ' [y]) (C':=lctx w' β' (fun _=>[]) [AObj.dead]) rfl (fun b ⟨o,hb⟩=>by have hb:b ∈ ([]:List Nat):=hb;cases hb) hr hrr

section
variable {P:Program} {nf:Nat} {st:St}
theorem Ent.wk (ids:List Nat) {env:List (Nat × AV)} {xs:List AObj} (h1:nf <= ids.length:=by simp) (h2:ids.take nf=List.range nf:=by rfl) (h3:ids.Nodup:=by simp)
  (h4:objsLe st ids ids xs:=by simp [objsLe,envLe,find,St.obj,AObj.renF,AV.renF,AV.renF1,Leaf.renF,LowAll,AV.Low,AV.Low1,Leaf.Low,AObj.Low,Ptr.renF,Ptr.Low] <;> try ((repeat' apply And.intro) <;> rfl))
  (h5:envLe st ids env:=by simp [objsLe,envLe,find,St.obj,AObj.renF,AV.renF,AV.renF1,Leaf.renF,LowAll,AV.Low,AV.Low1,Leaf.Low,AObj.Low,Ptr.renF,Ptr.Low] <;> try ((repeat' apply And.intro) <;> rfl))
  (h6:LowAll env xs:=by simp [objsLe,envLe,find,St.obj,AObj.renF,AV.renF,AV.renF1,Leaf.renF,LowAll,AV.Low,AV.Low1,Leaf.Low,AObj.Low,Ptr.renF,Ptr.Low]):Ent nf st (mkSt env xs):=Ent.weak h1 h2 h3 h4 h5 h6

theorem objsLe_one {x:AObj} (h1:0 < st.next) (h2:st.obj 0=x.renF [0]):objsLe st [0] [0] [x]:=⟨⟨h1,.inr h2⟩,trivial⟩

theorem CallK_pu {fid:FuncId} {avs vs:List AV} {K:AV -> St -> Prop} {r:AV} {objs':List AObj} (he:enters P fid=true) (hc:Ctr P fid vs [] r objs') (hv:viewAs st [] avs=some vs) (hK:K (r.ren (fresh st.next objs'.length)) (st.after [] objs')):CallK P st fid avs K :=
 CallK_pure he hc hv hK

section
variable {g:Bool} {q:Prop} {fid:FuncId} {avs vs:List AV} {K:AV -> Prop} {r:AV} {X:Prop}
theorem CCallK_pl (he:enters P fid=true) (hc:Ctr P fid vs [] r []) (hv:viewAs st [] avs=some vs) (hp:r.plain=true) (hK:K r)
  (hq:g=true -> q:=by intro h;first | exact trivial | exact h | exact ⟨h,h⟩ | (cases h;done) | (simp;done) | (simp_all only [Bool.not_false,Bool.not_true,and_self];done) | fail):CCallK P st g q fid avs K:=CCallK_plain he hc hv hp hK hq
theorem CCallK_pm (he:enters P fid=true) (hc:Ctr P fid vs [] r []) (hv:viewAs st [] avs=some vs) (hp:r.plain=true) (hK:K r)
  (hq:g=true -> q:=by intro h;first | exact trivial | exact h | exact ⟨h,h⟩ | (cases h;done) | (simp;done) | (simp_all only [Bool.not_false,Bool.not_true,and_self];done) | fail):CCallK P st g q fid avs K \/ X:=.inl (CCallK_plain he hc hv hp hK hq)
theorem CCallK_of (r:AV) (hK:K r) (hp:r.plain=true:=by rfl):CCallK P st false q fid avs K:=⟨r,hp,fun h=>Bool.noConfusion h,hK⟩
theorem CCallK_og (r:AV) (hK:K r) (hp:r.plain=true:=by rfl):CCallK P st false q fid avs K \/ X:=.inl ⟨r,hp,fun h=>Bool.noConfusion h,hK⟩
end
theorem EffK_pu {fid:FuncId} {avs vs:List AV} {K:AV -> St -> Prop} {r:AV} {objs':List AObj} {X:Prop} (he:enters P fid=true) (hc:Ctr P fid vs [] r objs') (hv:viewAs st [] avs=some vs) (hK:K (r.ren (fresh st.next objs'.length)) (st.after [] objs')):X \/ EffK P st fid avs K :=
 .inr (EffK_pure he hc hv hK)
theorem EffK_pw {fid:FuncId} {avs vs:List AV} {K:AV -> St -> Prop} {r:AV} {objs':List AObj} {X Y:Prop} (he:enters P fid=true) (hc:Ctr P fid vs [] r objs') (hv:viewAs st [] avs=some vs) (hK:K (r.ren (fresh st.next objs'.length)) (st.after [] objs')) (hy:Y:=by kernel_rfl):X \/ Y /\ EffK P st fid avs K :=
 .inr ⟨hy,EffK_pure he hc hv hK⟩

theorem Fin.nt {fn:Func} {r:AV} {objs':List AObj} {rvs:Array ResultVar} {q:Prop} {rs:List AV} (h1:fn.results=rvs) (ids:List Nat) (hq:q) (h3:packA rs=r.renF ids) (h7:objsLe st ids ids objs')
  (h2:resA P st rvs.toList=some (q,rs):=by simp (maxSteps:=2000000) only [go_sem,↓reduceIte,reduceCtorEq,Nat.reduceAdd,Nat.reduceMul,Nat.reduceSub,Nat.reduceLT,Nat.reduceLeDiff,Nat.reduceEqDiff,Int.reduceToNat,Int.reduceLT,Int.reduceLE,Int.reduceNeg,resA];rfl)
  (h4:nf <= ids.length:=by simp) (h5:ids.take nf=List.range nf:=by rfl) (h6:ids.Nodup:=by simp):Fin P fn nf r objs' st:=Fin.intro h1 ids h2 hq h3 h4 h5 h6 h7

theorem Ctr.bg {f:FuncId} {fn:Func} {c:Code} {as:List AV} {xs ys:List AObj} {r:AV} (hm:P.follows .mixedOrders=true) (hf:P.funcs[f]?=some fn) (hb:fn.body=some c) (hbody:wpA P xs.length c (FinQ P fn xs.length r ys) (mkSt (argEnv 0 as) xs))
  (hys:ys=xs.map fun _=>.dead:=by rfl) (hok:codeOk fn.ntmps c=true:=by kernel_rfl) (hn:as.length <= fn.ntmps:=by exact Nat.le_of_ble_eq_true rfl) (hclean:r.Clean:=by simp [AV.Clean,AV.Clean1,Leaf.Clean,D.flat]) (hlow:r.Low ys.length:=by simp [AV.Low,AV.Low1,Leaf.Low]):Ctr P f as xs r ys:=by
 refine Ctr.of_body hm hf hb hok hn hclean (fun x hx=>?_) (by rw [hys,List.length_map];exact Nat.le_refl _) (fun o ho=>?_) hlow hbody
 ·rw [hys] at hx
  obtain ⟨_,_,rfl⟩:=List.mem_map.1 hx
  trivial
 ·have:Objs ys o=.dead:=by
   unfold Objs
   rw [hys,List.getD_eq_getElem?_getD,List.getElem?_map,List.getElem?_eq_getElem ho]
   rfl
  rw [this]
  cases Objs xs o <;> exact trivial

theorem Ctr.bk {f:FuncId} {fn:Func} {c:Code} {as:List AV} {x:AObj} {ys:List AObj} {r:AV} (hm:P.follows .mixedOrders=true) (hf:P.funcs[f]?=some fn) (hb:fn.body=some c) (hbody:wpA P 1 c (FinQ P fn 1 r (x :: ys)) (mkSt (argEnv 0 as) [x]))
  (hok:codeOk fn.ntmps c=true:=by kernel_rfl) (hn:as.length <= fn.ntmps:=by exact Nat.le_of_ble_eq_true rfl) (hclean:r.Clean:=by simp [AV.Clean,AV.Clean1,Leaf.Clean,D.flat]) (hsep:∀ y ∈ x :: ys,y.Sep:=by simp [AObj.Sep])
  (hlow:r.Low (ys.length + 1):=by simp [AV.Low,AV.Low1,Leaf.Low]):Ctr P f as [x] r (x :: ys) :=
 Ctr.of_body hm hf hb hok hn hclean hsep (Nat.succ_le_succ (Nat.zero_le _)) (fun o ho=>by
  have:o=0:=by simpa using ho
  subst this
  exact Compat.refl _) hlow hbody

theorem Ctr.bd {f:FuncId} {fn:Func} {c:Code} {as:List AV} {r:AV} {objs':List AObj} (hm:P.follows .mixedOrders=true) (hf:P.funcs[f]?=some fn) (hb:fn.body=some c) (hbody:wpA P 0 c (FinQ P fn 0 r objs') (mkSt (argEnv 0 as) []))
  (hok:codeOk fn.ntmps c=true:=by kernel_rfl) (hn:as.length <= fn.ntmps:=by exact Nat.le_of_ble_eq_true rfl) (hclean:r.Clean:=by simp [AV.Clean,AV.Clean1,Leaf.Clean,D.flat]) (hsep:∀ x ∈ objs',x.Sep:=by simp [AObj.Sep])
  (hlow:r.Low objs'.length:=by simp [AV.Low,AV.Low1,Leaf.Low]):Ctr P f as [] r objs':=Ctr.body hm hf hb hok hn hclean hsep hlow hbody
end

class CallG (goal:Prop) (P:outParam Program) (st:outParam St) (fid:outParam FuncId) (avs:outParam (List AV)) (sd nx:outParam (AV -> List AObj -> Prop)):Prop where
 go:∀ {vs:List AV} {r:AV} {objs':List AObj},enters P fid=true -> Ctr P fid vs [] r objs' -> viewAs st [] avs=some vs -> nx r objs' -> sd r objs' -> goal
section
variable {P:Program} {st:St} {fid:FuncId} {avs:List AV} {X Y:Prop} {g:Bool} {q:Prop}
instance {K:AV -> St -> Prop}:CallG (CallK P st fid avs K) P st fid avs (fun _ _=>True) (fun r objs'=>K (r.ren (fresh st.next objs'.length)) (st.after [] objs')):=⟨fun he hc hv hk _=>CallK_pure he hc hv hk⟩
instance (priority:=1100) {K:AV -> St -> Prop}:CallG (X \/ Y /\ EffK P st fid avs K) P st fid avs (fun _ _=>Y) (fun r objs'=>K (r.ren (fresh st.next objs'.length)) (st.after [] objs')):=⟨fun he hc hv hk hy=>EffK_pw he hc hv hk hy⟩
instance (priority:=1050) {K:AV -> St -> Prop}:CallG (X \/ EffK P st fid avs K) P st fid avs (fun _ _=>True) (fun r objs'=>K (r.ren (fresh st.next objs'.length)) (st.after [] objs')):=⟨fun he hc hv hk _=>EffK_pu he hc hv hk⟩
instance {K:AV -> Prop}:CallG (CCallK P st g q fid avs K) P st fid avs (fun r objs'=>objs'=[] /\ r.plain=true /\ (g=true -> q)) (fun r _=>K r):=⟨fun he hc hv hk hs=>by
 obtain ⟨rfl,h1,h2⟩:=hs
 exact CCallK_plain he hc hv h1 hk h2⟩
instance (priority:=900) {K:AV -> Prop}:CallG (CCallK P st g q fid avs K \/ X) P st fid avs (fun r objs'=>objs'=[] /\ r.plain=true /\ (g=true -> q)) (fun r _=>K r):=⟨fun he hc hv hk hs=>by
 obtain ⟨rfl,h1,h2⟩:=hs
 exact .inl (CCallK_plain he hc hv h1 hk h2)⟩
theorem ck {goal:Prop} {sd nx:AV -> List AObj -> Prop} [CallG goal P st fid avs sd nx] {vs:List AV} {r:AV} {objs':List AObj} (he:enters P fid=true) (hc:Ctr P fid vs [] r objs') (hv:viewAs st [] avs=some vs) (hK:nx r objs')
  (hs:sd r objs':=by first | exact True.intro | exact ⟨rfl,rfl,by intro h;first | exact trivial | exact h | exact ⟨h,h⟩ | (cases h;done) | (simp;done) | (simp_all only [Bool.not_false,Bool.not_true,and_self];done) | fail⟩ | kernel_rfl):goal:=CallG.go he hc hv hK hs
end

theorem entd {p:Prop} (h:p:=by simp [objsLe,envLe,find,St.obj,AObj.renF,AV.renF,AV.renF1,Leaf.renF,LowAll,AV.Low,AV.Low1,Leaf.Low,AObj.Low,Ptr.renF,Ptr.Low]):p:=h

theorem Ent.toDat {nf:Nat} {st:St} {t o:Nat} {v v':AV} (ht:find st.env t=some v) (hv:datA (frzAll st [o]) v=some v'):Ent nf st ((frzAll st [o]).put t v'):=fun B N β φ a w hB h=>by
 obtain ⟨hN,hx⟩:=h.env t _ ht
 obtain ⟨φ',le,sr⟩:=SR.frzAll [o] h
 have hx':=(datA_sound sr hv).2 (hx.mono le)
 refine ⟨β,φ',sr.size,sr.defers,fun t' u hu=>?_,sr.dead,sr.objs,sr.nodup,sr.disj,sr.fp,sr.frame,sr.init⟩
 by_cases e:t'=t
 ·subst e
  rw [show find ((frzAll st [o]).put t' v').env t'=_ from find_cons_self ..] at hu
  cases hu
  exact ⟨hN,hx'⟩
 ·rw [show find ((frzAll st [o]).put t v').env t'=_ from find_cons_ne _ _ e] at hu
  exact sr.env t' u hu

theorem Ent.empDat {nf:Nat} {st:St} {t:Nat} (sz:Nat) (ht:find st.env t=some (.one .emp)):Ent nf st (st.put t (.one (.dat (.sl sz [])))):=fun B N β φ a w hB h=>by
 obtain ⟨hN,b,hb⟩:=h.env t _ ht
 refine ⟨β,φ,h.size,h.defers,fun t' u hu=>?_,h.dead,h.objs,h.nodup,h.disj,h.fp,h.frame,h.init⟩
 by_cases e:t'=t
 ·subst e
  rw [show find (st.put t' (.one (.dat (.sl sz [])))).env t'=_ from find_cons_self ..] at hu
  cases hu
  exact ⟨hN,by rw [hb];exact ⟨[],.nil _ _ _,by simp⟩⟩
 ·rw [show find (st.put t (.one (.dat (.sl sz [])))).env t'=_ from find_cons_ne _ _ e] at hu
  exact h.env t' u hu
end Go.Abs
