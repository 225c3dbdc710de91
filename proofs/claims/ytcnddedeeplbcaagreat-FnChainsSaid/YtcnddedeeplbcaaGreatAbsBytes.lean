/- Bytes to a string: the conversion of a slice of bytes, by what lies in memory. -/
import Derived.Test.YtcnddedeeplbcaaGreatAbsMem
import Derived.Laws.BytesString
namespace Go.Abs
set_option linter.unusedVariables false

def byteRows (ns:List Int):List (List D):=ns.map fun n=>[D.int .u8 n]
def bytesOf (ns:List Int):ByteArray:=ns.foldl (fun r n=>r.push (UInt8.ofNat n.toNat)) ByteArray.empty

theorem repL_bytes {w:World}:∀ {ns:List Int} {vs:List Value} {S:List Nat},RepL w (byteRows ns).flatten vs S -> vs=ns.map (Value.int .u8)
 | [],vs,S,h=>by cases h;rfl
 | n :: ns,vs,S,h=>by
  have h:RepL w (D.int .u8 n :: (byteRows ns).flatten) vs S:=h
  cases h with
  | cons h1 h2 =>
   cases h1
   rw [repL_bytes h2]
   rfl

theorem conv_bytes {P:Program} {w:World} {ns:List Int} {v:Value} {S:List Nat} (hr:Rep w (.sl 1 (byteRows ns)) v S):(Conv.bytesToString v).run P w=.ok (.string (bytesOf ns)) w:=by
 generalize hR:byteRows ns=R at hr
 cases hr with
 | nil _ a cap =>
  have hn:ns=[]:=by
   have:=congrArg List.length hR
   simp [byteRows] at this
   exact this
  subst hn
  cases a with
  | none=>simp [Conv.bytesToString,bytesOf]
  | some a =>
   have:=run_bytesToString (P:=P) w a 0 cap [] (by simp [loadCells,loadCellsFrom])
   exact this
 | sl _ _ b off cap vs S' hb hsz hl hc hcap =>
  subst hR
  have hvs:=repL_bytes hl
  have hlen:(byteRows ns).length=vs.length:=by rw [hvs];simp [byteRows]
  have hload:(loadCells ⟨b,off,none⟩ (byteRows ns).length).run P w=.ok vs.toArray w:=by
   rw [hlen]
   exact run_loadCells_list (P:=P) w ⟨b,off,none⟩ vs (fun k u hk=>by
    rw [Addr.add_lit]
    exact hc k u hk)
  rw [hvs] at hload
  exact run_bytesToString (P:=P) w _ _ cap ns hload

def byteNs:List (List D) -> Option (List Int)
 | []=>some []
 | [.int .u8 n] :: r=>(byteNs r).map (n :: ·)
 | _=>none

@[simp] theorem byteNs_rows:∀ ns:List Int,byteNs (byteRows ns)=some ns
 | []=>rfl
 | n :: ns=>by
  show (byteNs (byteRows ns)).map (n :: ·)=_
  rw [byteNs_rows ns];rfl

theorem byteNs_eq:∀ {rows:List (List D)} {ns:List Int},byteNs rows=some ns -> rows=byteRows ns
 | [],ns,h=>by cases h;rfl
 | [.int .u8 n] :: r,ns,h=>by
  simp only [byteNs,Option.map_eq_some_iff] at h
  obtain ⟨m,h1,rfl⟩:=h
  rw [byteNs_eq h1];rfl
 | [] :: _,_,h=>by simp [byteNs] at h
 | (_ :: _ :: _) :: _,_,h=>by simp [byteNs] at h
 | [.bool _] :: _,_,h=>by simp [byteNs] at h
 | [.str _] :: _,_,h=>by simp [byteNs] at h
 | [.sl _ _] :: _,_,h=>by simp [byteNs] at h
 | [.hdr _] :: _,_,h=>by simp [byteNs] at h
 | [.int k n] :: r,ns,h=>by
  cases k <;> first | (simp [byteNs] at h;done) | skip
  simp only [byteNs,Option.map_eq_some_iff] at h
  obtain ⟨m,h1,rfl⟩:=h
  rw [byteNs_eq h1];rfl

theorem byteRows_len (ns:List Int):(byteRows ns).length=ns.length:=by simp [byteRows]
theorem byteRows_set (ns:List Int) (i:Nat) (x:Int):(byteRows ns).set i [.int .u8 x]=byteRows (ns.set i x):=by simp [byteRows,List.map_set]
theorem byteRows_app (ns ms:List Int):byteRows ns ++ byteRows ms=byteRows (ns ++ ms):=by simp [byteRows]
theorem byteRows_snoc (ns:List Int) (x:Int):byteRows ns ++ [[.int .u8 x]]=byteRows (ns ++ [x]):=by simp [byteRows]
theorem byteRows_rep (n:Nat):List.replicate n [D.int .u8 0]=byteRows (List.replicate n 0):=by simp [byteRows]
end Go.Abs
