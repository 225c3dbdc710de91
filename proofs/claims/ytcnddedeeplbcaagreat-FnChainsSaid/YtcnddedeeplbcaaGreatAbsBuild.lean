/- Literals: structs, arrays, slices. -/
import Derived.Test.YtcnddedeeplbcaaGreatAbsVec
namespace Go.Abs
set_option linter.unusedVariables false

def tp (P:Program) (t:TypeId):Option (List (Nat × Nat)) :=
 match P.underlying t with
 | some (.array n e)=>(P.info? e).map fun i=>(List.range n).map fun k=>(k * i.size,i.size)
 | some (.struct fields)=>fields.toList.mapM (fun f=>(P.info? f.type).map fun i=>(f.offset,i.size))
 | _=>none

def evP (st:St):List (Nat × Operand) -> Option (Prop × List (Nat × List Leaf))
 | []=>some (True,[])
 | (i,x) :: r=>match opA st x with
  | some (p,v)=>match v.leaves,evP st r with
   | some ls,some (q,ps)=>some (p /\ q,(i,ls) :: ps)
   | _,_=>none
  | none=>none

def fillL (place:Nat -> Option (Nat × Nat)) (cells:List Leaf):List (Nat × List Leaf) -> Option (List Leaf)
 | []=>some cells
 | (i,us) :: rest=>match place i with
  | none=>none
  | some (off,size)=>if us.length=size /\ off + us.length <= cells.length then fillL place (splice cells off us) rest else none

def chunks {α:Type} (s:Nat):Nat -> List α -> List (List α)
 | 0,_=>[]
 | n + 1,l=>l.take s :: chunks s n (l.drop s)

def Leaf.isSl:Leaf -> Bool
 | .dat (.sl _ _)=>true
 | _=>false

def looseLeaves:List D -> List Leaf -> Option (List D)
 | [],[]=>some []
 | _ :: zs,.dat d :: ls=>(looseLeaves zs ls).map (d :: ·)
 | .sl sz _ :: zs,.emp :: ls=>(looseLeaves zs ls).map (.sl sz [] :: ·)
 | _,_=>none

def buildS (P:Program) (st:St) (t:TypeId) (parts:Array (Nat × Operand)):Out :=
 match tp P t,tz P t,evP st parts.toList with
 | some pl,some ds,some (q,ps)=>match fillL (fun i=>pl[i]?) (ds.map zleaf) ps with
  | some ls=>some (q,some (.agg ls),st)
  | none=>none
 | _,_,_=>none

def buildSliceS (P:Program) (st:St) (t:TypeId) (len:Nat) (parts:Array (Nat × Operand)):Out :=
 match te P t,evP st parts.toList with
 | some (e,s,_),some (q,ps)=>match tz P e with
  | some zs=>match fillL (fun i=>some (i * s,s)) ((List.replicate len (zs.map zleaf)).flatten) ps with
   | some ls =>
    if ls.any Leaf.isSl then
     match looseLeaves (List.replicate len zs).flatten ls with
     | some ds=>some (q /\ zs.length=s /\ len * s <= 16777216,some (.one (.own st.next)),st.addObj (.vec s false (chunks s len ds)))
     | none=>none
    else
     match sepLeaves st (List.replicate len zs).flatten ls with
     | some (q',ds,ks)=>some (q /\ q' /\ ks.Nodup /\ zs.length=s /\ len * s <= 16777216,some (.one (.own st.next)),(killAll st ks).addObj (.vec s true (chunks s len ds)))
     | none=>none
   | none=>none
  | none=>none
 | _,_=>none

theorem chunks_length {α:Type} (s:Nat):∀ (n:Nat) (l:List α),(chunks s n l).length=n
 | 0,_=>rfl
 | n + 1,l=>by simp [chunks,chunks_length s n]

theorem chunks_flatten {α:Type} (s:Nat):∀ (n:Nat) (l:List α),l.length=n * s -> (chunks s n l).flatten=l
 | 0,l,h=>by
  have:l=[]:=List.eq_nil_of_length_eq_zero (by simpa using h)
  subst this
  rfl
 | n + 1,l,h=>by
  rw [Nat.add_mul,Nat.one_mul] at h
  simp [chunks,chunks_flatten s n (l.drop s) (by simp [h])]

theorem chunks_mem {α:Type} (s:Nat):∀ (n:Nat) (l:List α),l.length=n * s -> ∀ r ∈ chunks s n l,r.length=s
 | 0,_,_,_,hr=>by cases hr
 | n + 1,l,h,r,hr=>by
  rw [Nat.add_mul,Nat.one_mul] at h
  cases hr with
  | head=>simp [h]
  | tail _ hr=>exact chunks_mem s n (l.drop s) (by simp [h]) r hr

section
variable {P:Program} {B:Base} {N:Nat} {st st':St} {β:Nat -> Info} {φ:Nat -> List Nat} {a:Act} {w w':World}

theorem foldl_set (off:Nat):∀ (us:List Value) (j:Nat) (cs:Array Value),off + j + us.length <= cs.size ->
  ((us.zipIdx j).foldl (fun cs (c,j)=>cs.setIfInBounds (off + j) c) cs).toList=splice cs.toList (off + j) us
 | [],j,cs,_=>by simp [splice]
 | u :: us,j,cs,h=>by
  simp only [List.zipIdx_cons,List.foldl_cons]
  simp only [List.length_cons] at h
  rw [foldl_set off us (j + 1) (cs.setIfInBounds (off + j) u) (by simp;omega)]
  apply List.ext_getElem?
  intro k
  have hl:off + j + (u :: us).length <= cs.toList.length:=by simp;omega
  rw [splice_get (by simp;omega),splice_get hl]
  simp only [Array.toList_setIfInBounds,List.length_cons]
  by_cases c1:k=off + j
  ·subst c1
   rw [if_neg (by omega),if_pos (by omega),List.getElem?_set_self (by simp;omega)]
   simp
  ·rw [List.getElem?_set_ne (by omega)]
   by_cases c2:off + (j + 1) <= k /\ k < off + (j + 1) + us.length
   ·rw [if_pos c2,if_pos (by omega)]
    rw [show k - (off + j)=(k - (off + (j + 1))) + 1 from by omega,List.getElem?_cons_succ]
   ·rw [if_neg c2,if_neg (by omega)]

theorem fill_sound {C:Ctx} {place:Nat -> Option (Nat × Nat)} {g:Nat -> Option (Nat × Nat)} (hg:∀ i x,place i=some x -> g i=some x) :
  ∀ (ps:List (Nat × List Leaf)) (ms:List (Nat × Value)) (ls ls':List Leaf) (cells:Array Value),
   (ms.length=ps.length /\ ∀ k:Nat,∀ p:Nat × List Leaf,ps[k]?=some p -> ∃ v,ms[k]?=some (p.1,v) /\ Leaves C p.2 v.cells.toList) ->
   Leaves C ls cells.toList -> fillL place ls ps=some ls' -> ∃ cells',Instr.fill g cells ms=some cells' /\ Leaves C ls' cells'.toList
 | [],ms,ls,ls',cells,hm,hl,hf=>by
  have:ms=[]:=List.eq_nil_of_length_eq_zero hm.1
  subst this
  simp only [fillL,Option.some.injEq] at hf
  subst hf
  exact ⟨cells,rfl,hl⟩
 | (i,us) :: ps,ms,ls,ls',cells,hm,hl,hf=>by
  cases ms with
  | nil=>have:=hm.1;simp at this
  | cons m ms =>
   obtain ⟨v,hv,hL⟩:=hm.2 0 _ rfl
   simp only [List.getElem?_cons_zero,Option.some.injEq] at hv
   subst hv
   simp only [fillL] at hf
   cases hp:place i with
   | none=>rw [hp] at hf;cases hf
   | some x =>
    obtain ⟨off,size⟩:=x
    rw [hp] at hf
    simp only at hf
    split at hf
    ·rename_i hc
     have hcs:v.cells.size=us.length:=by have:=hL.1;simpa using this
     have hlen:cells.size=ls.length:=by have:=hl.1;simpa using this
     have hfold:(Array.foldl (fun cs (x:Value × Nat)=>cs.setIfInBounds (off + x.2) x.1) cells v.cells.zipIdx).toList=splice cells.toList off v.cells.toList:=by
      rw [<- Array.foldl_toList,Array.toList_zipIdx]
      exact foldl_set off v.cells.toList 0 cells (by simp;omega)
     obtain ⟨cells',h1,h2⟩:=fill_sound hg ps ms (splice ls off us) ls' (Array.foldl (fun cs (x:Value × Nat)=>cs.setIfInBounds (off + x.2) x.1) cells v.cells.zipIdx)
      ⟨by have:=hm.1;simpa using this,fun k p hk=>by simpa using hm.2 (k + 1) p (by simpa using hk)⟩ (by rw [hfold];exact hl.splice hL hc.2) hf
     refine ⟨cells',?_,h2⟩
     have hc1:=hc.1
     have hc2:=hc.2
     have c1:(decide (v.cells.size ≠ size) || decide (off + v.cells.size > cells.size))=false:=by
      rw [Bool.or_eq_false_iff,decide_eq_false_iff_not,decide_eq_false_iff_not]
      omega
     simp only [Instr.fill,hg i _ hp]
     first
      | (rw [if_neg (by simpa using c1)];exact h1)
      | (simp only [c1];exact h1)
    ·cases hf

theorem evP_sound (h:SR B N st β φ a w):∀ (ps:List (Nat × Operand)) (q:Prop) (rs:List (Nat × List Leaf)),evP st ps=some (q,rs) -> q ->
  (ps.map fun (i,x)=>(i,a.eval x)).length=rs.length /\ ∀ k:Nat,∀ p:Nat × List Leaf,rs[k]?=some p -> ∃ v,(ps.map fun (i,x)=>(i,a.eval x))[k]?=some (p.1,v) /\ Leaves (st.ctx w β φ) p.2 v.cells.toList
 | [],q,rs,he,hq=>by
  simp only [evP,Option.some.injEq,Prod.mk.injEq] at he
  obtain ⟨rfl,rfl⟩:=he
  exact ⟨rfl,fun k p hk=>by simp at hk⟩
 | (i,x) :: ps,q,rs,he,hq=>by
  simp only [evP] at he
  cases e:opA st x with
  | none=>rw [e] at he;cases he
  | some pv =>
   obtain ⟨p,v⟩:=pv
   rw [e] at he
   simp only at he
   split at he
   ·rename_i ls q' rs' e1 e2
    simp only [Option.some.injEq,Prod.mk.injEq] at he
    obtain ⟨rfl,rfl⟩:=he
    have hv:=opA_sound h e hq.1
    obtain ⟨h1,h2⟩:=evP_sound h ps q' rs' e2 hq.2
    refine ⟨by simpa using h1,fun k p hk=>?_⟩
    cases k with
    | zero=>simp at hk;subst hk;exact ⟨_,rfl,(leaves_cells e1 hv).1⟩
    | succ k=>simp at hk;simpa using h2 k p (by simpa using hk)
   ·cases he

theorem zleaves_replicate {C:Ctx} {zs:List D} {vs:List Value} (h:zmatchL zs vs=true):∀ n:Nat,Leaves C (List.replicate n (zs.map zleaf)).flatten (List.replicate n vs).flatten
 | 0=>Leaves.nil
 | n + 1=>by
  have:=(zleaves (C:=C) h).append (zleaves_replicate h n)
  simpa [List.replicate_succ] using this

theorem buildS_sound (h:SR B N st β φ a w) {t:TypeId} {parts:Array (Nat × Operand)} {q:Prop} {r:Option AV} (hs:buildS P st t parts=some (q,r,st')) (hq:q) :
  Res P (st.ctx w β φ) st st' r (Instr.build t (parts.map fun (i,x)=>(i,a.eval x))):=by
 unfold buildS at hs
 split at hs
 ·rename_i pl ds q' ps e1 e2 e3
  split at hs
  ·rename_i ls e4
   simp only [Option.some.injEq,Prod.mk.injEq] at hs
   obtain ⟨rfl,rfl,rfl⟩:=hs
   obtain ⟨i,z,hi,hz,_,_,hm⟩:=tz_spec (w:=w) e2
   have hps:=evP_sound h _ _ _ e3 hq
   unfold tp at e1
   split at e1
   ·rename_i n e hu
    cases hie:P.info? e with
    | none=>rw [hie] at e1;cases e1
    | some ie =>
     rw [hie] at e1
     simp only [Option.map_some,Option.some.injEq] at e1
     obtain ⟨cells',f1,f2⟩:=fill_sound (C:=st.ctx w β φ) (place:=fun i=>pl[i]?) (g:=fun i=>some (i * ie.size,ie.size)) (fun k x hk=>by
      rw [<- e1] at hk
      simp only [List.getElem?_map,Option.map_eq_some_iff] at hk
      obtain ⟨k',hk',rfl⟩:=hk
      obtain ⟨hl,rfl⟩:=List.getElem?_eq_some_iff.1 hk'
      simp) ps _ _ ls z.cells hps (zleaves hm) e4
     refine ⟨rfl,_,.agg cells',rfl,run_build _ t _ cells' ?_,⟨cells',rfl,f2⟩⟩
     unfold Program.built
     rw [hi,hu]
     simp only [hz,hie,Array.toList_map]
     exact f1
   ·rename_i fields hu
    obtain ⟨cells',f1,f2⟩:=fill_sound (C:=st.ctx w β φ) (place:=fun i=>pl[i]?) (g:=fun i=>(pl.toArray)[i]?) (fun k x hk=>by simpa using hk) ps _ _ ls z.cells hps (zleaves hm) e4
    refine ⟨rfl,_,.agg cells',rfl,run_build _ t _ cells' ?_,⟨cells',rfl,f2⟩⟩
    unfold Program.built
    rw [hi,hu]
    simp only [hz,e1,Array.toList_map]
    exact f1
   ·cases e1
  ·cases hs
 ·cases hs

theorem looseLeaves_sound {C:Ctx}:∀ {zs:List D} {ls:List Leaf} {ds:List D},looseLeaves zs ls=some ds -> ∀ {vs:List Value},Leaves C ls vs ->
  ds.length=ls.length /\ ∃ S,RepL C.w ds vs S /\ ∀ x ∈ S,¬ C.M x
 | [],[],ds,h,vs,hl=>by
  simp only [looseLeaves,Option.some.injEq] at h
  subst h
  have:vs=[]:=List.eq_nil_of_length_eq_zero hl.1
  subst this
  exact ⟨rfl,[],.nil,by simp⟩
 | z :: zs,.dat d :: ls,ds,h,vs,hl=>by
  simp only [looseLeaves,Option.map_eq_some_iff] at h
  obtain ⟨ds',h1,rfl⟩:=h
  cases vs with
  | nil=>have:=hl.1;simp at this
  | cons v vs =>
   obtain ⟨v',hv',S1,r1,m1⟩:=hl.2 0 _ rfl
   cases hv'
   obtain ⟨hlen,S2,r2,m2⟩:=looseLeaves_sound h1 (vs:=vs) ⟨by have:=hl.1;simpa using this,fun j l' hj=>by simpa using hl.2 (j + 1) l' (by simpa using hj)⟩
   exact ⟨by simp [hlen],S1 ++ S2,.cons r1 r2,fun x hx=>(List.mem_append.1 hx).elim (m1 x) (m2 x)⟩
 | .sl sz rs :: zs,.emp :: ls,ds,h,vs,hl=>by
  simp only [looseLeaves,Option.map_eq_some_iff] at h
  obtain ⟨ds',h1,rfl⟩:=h
  cases vs with
  | nil=>have:=hl.1;simp at this
  | cons v vs =>
   obtain ⟨v',hv',b,rfl⟩:=hl.2 0 _ rfl
   cases hv'
   obtain ⟨hlen,S2,r2,m2⟩:=looseLeaves_sound h1 (vs:=vs) ⟨by have:=hl.1;simpa using this,fun j l' hj=>by simpa using hl.2 (j + 1) l' (by simpa using hj)⟩
   exact ⟨by simp [hlen],S2,by simpa using RepL.cons (.nil sz b 0) r2,m2⟩
 | [],_ :: _,_,h,_,_=>by simp [looseLeaves] at h
 | _ :: _,[],_,h,_,_=>by simp [looseLeaves] at h
 | _ :: _,.own _ :: _,_,h,_,_=>by simp [looseLeaves] at h
 | _ :: _,.ptr _ :: _,_,h,_,_=>by simp [looseLeaves] at h
 | _ :: _,.part _ _ _ :: _,_,h,_,_=>by simp [looseLeaves] at h
 | _ :: _,.fn _ _ :: _,_,h,_,_=>by simp [looseLeaves] at h
 | .int _ _ :: _,.emp :: _,_,h,_,_=>by simp [looseLeaves] at h
 | .bool _ :: _,.emp :: _,_,h,_,_=>by simp [looseLeaves] at h
 | .str _ :: _,.emp :: _,_,h,_,_=>by simp [looseLeaves] at h

theorem fillL_length {place:Nat -> Option (Nat × Nat)}:∀ (ps:List (Nat × List Leaf)) (ls ls':List Leaf),fillL place ls ps=some ls' -> ls'.length=ls.length
 | [],ls,ls',h=>by simp only [fillL,Option.some.injEq] at h;rw [h]
 | (i,us) :: ps,ls,ls',h=>by
  simp only [fillL] at h
  split at h
  ·cases h
  ·split at h
   ·rename_i hc
    rw [fillL_length ps _ _ h,splice_length hc.2]
   ·cases h

theorem lit_run (h:SR B N st β φ a w) {t e:TypeId} {s y len:Nat} {parts:Array (Nat × Operand)} {q:Prop} {ps:List (Nat × List Leaf)} {zs:List D} {ls:List Leaf} (ht:te P t=some (e,s,y)) (ep:evP st parts.toList=some (q,ps)) (hq:q)
  (hz:tz P e=some zs) (ef:fillL (fun i=>some (i * s,s)) ((List.replicate len (zs.map zleaf)).flatten) ps=some ls) (hzl:zs.length=s) (hle:len * s <= 16777216) :
  ∃ cells:Array Value,(Instr.buildSlice t len (parts.map fun (i,x)=>(i,a.eval x))).run P w=.ok (.slice (some ⟨w.heap.size,0,none⟩) len len) (w.alloc (.cells cells e)) /\ Leaves (st.ctx w β φ) ls cells.toList:=by
 obtain ⟨hte,i,hi,hsz,_⟩:=te_spec ht
 obtain ⟨i',z,hi',hzv,_,hzs,hm⟩:=tz_spec (w:=w) hz
 rw [hi] at hi'
 cases hi'
 have hrunk:∀ (cells:Array Value),len * s <= 16777216 -> Instr.fill (fun i=>some (i * s,s)) ((Array.range (len * s)).map ((if len * s=0 then #[] else z.cells)[· % (if len * s=0 then #[] else z.cells).size]!)) (parts.map fun (i,x)=>(i,a.eval x)).toList=some cells ->
   (Instr.buildSlice t len (parts.map fun (i,x)=>(i,a.eval x))).run P w=.ok (.slice (some ⟨w.heap.size,0,none⟩) len len) (w.alloc (.cells cells e)):=by
  intro cells hle hf
  by_cases h0:len * s=0
  ·simp only [h0,if_true] at hf
   simp [Instr.buildSlice,run_underlying hte,sizeOf,typeInfo,hi,hsz,h0,newRow]
   simp at hf
   simp [hf]
  ·simp only [h0,if_false] at hf
   have:¬ (len * s > 2 ^ 24):=by omega
   simp [Instr.buildSlice,run_underlying hte,sizeOf,typeInfo,hi,hsz,h0,newRow,zeroValue,hzv]
   simp at hf
   rw [if_neg (by omega)]
   simp [hf]
 have hzc:z.cells.size=s:=by omega
 have hcells0:((Array.range (len * s)).map ((if len * s=0 then #[] else z.cells)[· % (if len * s=0 then #[] else z.cells).size]!)).toList=(List.replicate len z.cells.toList).flatten:=by
  by_cases h0:len * s=0
  ·simp only [h0,if_true]
   rcases Nat.mul_eq_zero.1 h0 with h1 | h1
   ·simp [h1]
   ·have:z.cells.toList=[]:=List.eq_nil_of_length_eq_zero (by rw [Array.length_toList,hzc,h1])
    simp [this]
  ·simp only [h0,if_false]
   have:=replicate_range z.cells len
   rw [<- this,hzc]
   simp [madeCells,hzc]
 have hps:=evP_sound h _ _ _ ep hq
 obtain ⟨cells,f1,f2⟩:=fill_sound (C:=st.ctx w β φ) (place:=fun i=>some (i * s,s)) (g:=fun i=>some (i * s,s)) (fun _ _ hk=>hk) ps _ _ ls _ hps (by rw [hcells0];exact zleaves_replicate hm len) ef
 rw [<- Array.toList_map] at f1
 exact ⟨cells,hrunk cells hle f1,f2⟩

theorem buildSliceS_sound (h:SR B N st β φ a w) {t:TypeId} {len:Nat} {parts:Array (Nat × Operand)} {q:Prop} {r:Option AV} (hs:buildSliceS P st t len parts=some (q,r,st')) (hq:q) :
  ResM P B N st st' β φ a w r (Instr.buildSlice t len (parts.map fun (i,x)=>(i,a.eval x))):=by
 unfold buildSliceS at hs
 split at hs
 ·rename_i e s y q1 ps ht ep
  split at hs
  ·rename_i zs hz
   split at hs
   ·rename_i ls ef
    obtain ⟨hte,i,hi,hsz,_⟩:=te_spec ht
    obtain ⟨i',z,hi',hzv,_,hzs,hm⟩:=tz_spec (w:=w) hz
    rw [hi] at hi'
    cases hi'
    have hrunk:∀ (cells:Array Value),len * s <= 16777216 -> Instr.fill (fun i=>some (i * s,s)) ((Array.range (len * s)).map ((if len * s=0 then #[] else z.cells)[· % (if len * s=0 then #[] else z.cells).size]!)) (parts.map fun (i,x)=>(i,a.eval x)).toList=some cells ->
      (Instr.buildSlice t len (parts.map fun (i,x)=>(i,a.eval x))).run P w=.ok (.slice (some ⟨w.heap.size,0,none⟩) len len) (w.alloc (.cells cells e)):=by
     intro cells hle hf
     by_cases h0:len * s=0
     ·simp only [h0,if_true] at hf
      simp [Instr.buildSlice,run_underlying hte,sizeOf,typeInfo,hi,hsz,h0,newRow]
      simp at hf
      simp [hf]
     ·simp only [h0,if_false] at hf
      have:¬ (len * s > 2 ^ 24):=by omega
      simp [Instr.buildSlice,run_underlying hte,sizeOf,typeInfo,hi,hsz,h0,newRow,zeroValue,hzv]
      simp at hf
      rw [if_neg (by omega)]
      simp [hf]
    have hzc:z.cells.size=s:=by omega
    have hcells0:((Array.range (len * s)).map ((if len * s=0 then #[] else z.cells)[· % (if len * s=0 then #[] else z.cells).size]!)).toList=(List.replicate len z.cells.toList).flatten:=by
     by_cases h0:len * s=0
     ·simp only [h0,if_true]
      rcases Nat.mul_eq_zero.1 h0 with h1 | h1
      ·simp [h1]
      ·have:z.cells.toList=[]:=List.eq_nil_of_length_eq_zero (by rw [Array.length_toList,hzc,h1])
       simp [this]
     ·simp only [h0,if_false]
      have:=replicate_range z.cells len
      rw [<- this,hzc]
      simp [madeCells,hzc]
    have hlsl:zs.length=s -> ls.length=len * s:=fun hzl=>by
     rw [fillL_length _ _ _ ef]
     simp [hzl]
    split at hs
    ·split at hs
     ·rename_i ds el
      simp only [Option.some.injEq,Prod.mk.injEq] at hs
      obtain ⟨rfl,rfl,rfl⟩:=hs
      obtain ⟨hq1,hzl,hle⟩:=hq
      have hps:=evP_sound h _ _ _ ep hq1
      obtain ⟨cells,f1,f2⟩:=fill_sound (C:=st.ctx w β φ) (place:=fun i=>some (i * s,s)) (g:=fun i=>some (i * s,s)) (fun _ _ hk=>hk) ps _ _ ls _ hps (by rw [hcells0];exact zleaves_replicate hm len) ef
      rw [<- Array.toList_map] at f1
      obtain ⟨hdl,S,hr,hM⟩:=looseLeaves_sound el f2
      have hcs:cells.size=len * s:=by have:=f2.1;rw [hlsl hzl] at this;simpa using this
      have hdl':ds.length=len * s:=by rw [hdl,hlsl hzl]
      have hr':RepL w ds cells.toList S:=hr
      have hlt:=hr'.lt
      obtain ⟨β',φ',le,sr,hp⟩:=h.newVec (ks:=[]) (w':=w.alloc (.cells cells e)) (by simp) ((Frm.refl w _).alloc _) (sz:=s) (cap:=len) (b:=w.heap.size) (sep:=false)
       (rows:=chunks s len ds) (S:=S) (E:=[]) (T:=e) (vs:=cells) (chunks_mem s len ds hdl') (by rw [chunks_length];omega) (heap_alloc_new ..) ⟨hcs,[],by rw [chunks_length,List.drop_of_length_le (by rw [Array.length_toList,hcs];omega)];exact .nil⟩
       (by rw [chunks_length,chunks_flatten s len ds hdl',List.take_of_length_le (by rw [Array.length_toList,hcs];omega)];exact hr'.frm (by simp) (fun x hx=>heap_alloc_old _ _ (hlt x hx)))
       (by simp) (by simp) (by
         simp only [Bool.false_eq_true,if_false]
         exact fun x hx=>⟨by have:=hlt x hx;simp;omega,fun o ho=>absurd ⟨o,ho⟩ (hM x hx)⟩)
      rw [chunks_length] at hp
      exact ⟨β',φ',_,le,sr,rfl,_,_,rfl,hrunk cells hle f1,hp⟩
     ·cases hs
    ·split at hs
     ·rename_i q' ds ks el
      simp only [Option.some.injEq,Prod.mk.injEq] at hs
      obtain ⟨rfl,rfl,rfl⟩:=hs
      obtain ⟨hq1,hq2,hnd,hzl,hle⟩:=hq
      have hps:=evP_sound h _ _ _ ep hq1
      obtain ⟨cells,f1,f2⟩:=fill_sound (C:=st.ctx w β φ) (place:=fun i=>some (i * s,s)) (g:=fun i=>some (i * s,s)) (fun _ _ hk=>hk) ps _ _ ls _ hps (by rw [hcells0];exact zleaves_replicate hm len) ef
      rw [<- Array.toList_map] at f1
      obtain ⟨hdl,S,hr,hSn,hSm⟩:=sepLeaves_sound h el hq2 hnd f2
      have hcs:cells.size=len * s:=by have:=f2.1;rw [hlsl hzl] at this;simpa using this
      have hdl':ds.length=len * s:=by rw [hdl,hlsl hzl]
      have hr':OwnL w ds cells.toList S:=hr
      have hlt:=hr'.rep.lt
      obtain ⟨β',φ',le,sr,hp⟩:=h.newVec (ks:=ks) (w':=w.alloc (.cells cells e)) (sepKs_lt h el) ((Frm.refl w _).alloc _) (sz:=s) (cap:=len) (b:=w.heap.size) (sep:=true)
       (rows:=chunks s len ds) (S:=S) (E:=S) (T:=e) (vs:=cells) (chunks_mem s len ds hdl') (by rw [chunks_length];omega) (heap_alloc_new ..) ⟨hcs,[],by rw [chunks_length,List.drop_of_length_le (by rw [Array.length_toList,hcs];omega)];exact .nil⟩
       (by rw [chunks_length,chunks_flatten s len ds hdl',List.take_of_length_le (by rw [Array.length_toList,hcs];omega)];exact (hr'.frm (by simp) (fun x hx=>heap_alloc_old _ _ (hlt x hx))).rep)
       (fun x hx=>by
         cases hx with
         | head=>simp
         | tail _ hx =>
          refine ⟨by have:=hlt x hx;simp;omega,.inr ?_⟩
          obtain ⟨o,ho,hx⟩:=hSm x hx
          exact ⟨o,ho,hx⟩) (List.nodup_cons.2 ⟨fun hx=>by have:=hlt _ hx;omega,hSn⟩) (by
         simp only [if_true]
         refine ⟨hSn,fun x hx=>hx,?_⟩
         rw [chunks_length,chunks_flatten s len ds hdl',List.take_of_length_le (by rw [Array.length_toList,hcs];omega)];exact hr'.frm (by simp) (fun x hx=>heap_alloc_old _ _ (hlt x hx)))
      rw [chunks_length] at hp
      exact ⟨β',φ',_,le,sr,by show (killAll st ks).env=_;rw [killAll_env],_,_,rfl,hrunk cells hle f1,hp⟩
     ·cases hs
   ·cases hs
  ·cases hs
 ·cases hs
end
end Go.Abs
