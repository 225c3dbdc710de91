/- Contracts: Bytes. -/
import Derived.Test.YtcnddedeeplbcaaGreatRows
import Derived.Test.YtcnddedeeplbcaaGreatCTy
import Derived.Test.YtcnddedeeplbcaaGreatAbsTac
import Derived.Test.YtcnddedeeplbcaaGreatAbsData
import Derived.Test.YtcnddedeeplbcaaGreatCFam2
import Derived.Test.YtcnddedeeplbcaaGreatCNum
import Derived.WalkKit
import Derived.ProofKit
import Derived.OpenShut
namespace Go.Proofs.YtcnddedeeplbcaaGreat.Mod
open Go.Proofs.Tryz Go.Abs Go.Proofs.YtcnddedeeplbcaaGreat.Ty Go.ChangeShapes Go.WideShapes Go.ChangeAt Go.RowKit
set_option linter.unusedSimpArgs false
set_option linter.unusedVariables false
set_option maxHeartbeats 8000000
set_option maxRecDepth 100000
def fixNs:Nat -> Int -> List Int
 | 0,_=>[]
 | w + 1,n=>fixNs w (n / 256) ++ [n % 256]
theorem fixNs_len:∀ (w:Nat) (n:Int),(fixNs w n).length=w
 | 0,_=>rfl
 | w + 1,n=>by rw [fixNs,List.length_append,fixNs_len w];rfl
theorem fixNs_in:∀ (w:Nat) (n:Int),∀ x ∈ fixNs w n,0 <= x /\ x < 256
 | 0,_,x,h=>by cases h
 | w + 1,n,x,h=>by
  rw [fixNs,List.mem_append] at h
  rcases h with h | h
  ·exact fixNs_in w _ x h
  ·rw [List.mem_singleton.1 h];omega
def putL:List Int -> Nat -> List Int -> List Int
 | b,_,[]=>b
 | b,k,x :: r=>putL (b.set k x) (k + 1) r
theorem putL_len:∀ (l b:List Int) (k:Nat),(putL b k l).length=b.length
 | [],b,k=>rfl
 | x :: l,b,k=>by rw [putL,putL_len l,List.length_set]
theorem putL_set:∀ (l b:List Int) (k j:Nat) (x:Int),(j < k \/ k + l.length <= j) -> putL (b.set j x) k l=(putL b k l).set j x
 | [],b,k,j,x,_=>rfl
 | y :: l,b,k,j,x,h=>by
  rw [List.length_cons] at h
  rw [putL,putL,List.set_comm _ _ (by omega:j ≠ k),putL_set l _ (k + 1) j x (by omega)]
theorem putL_snoc:∀ (l b:List Int) (k:Nat) (x:Int),putL b k (l ++ [x])=(putL b k l).set (k + l.length) x
 | [],b,k,x=>rfl
 | y :: l,b,k,x=>by
  rw [List.cons_append,putL,putL_snoc l,putL,List.length_cons]
  congr 1;omega
theorem putL_app:∀ (l r b:List Int) (k:Nat),putL b k (l ++ r)=putL (putL b k l) (k + l.length) r
 | [],r,b,k=>rfl
 | y :: l,r,b,k=>by
  rw [List.cons_append,putL,putL_app l,putL,List.length_cons]
  congr 1;omega
theorem putL_all:∀ (l a b:List Int),b.length=l.length -> putL (a ++ b) a.length l=a ++ l
 | [],a,b,h=>by
  have h0:b=[]:=List.eq_nil_of_length_eq_zero (by simpa using h)
  rw [h0,putL]
 | x :: l,a,[],h=>by simp at h
 | x :: l,a,y :: b,h=>by
  have h1:=putL_all l (a ++ [x]) b (by simpa using h)
  rw [putL]
  have h2:(a ++ y :: b).set a.length x=(a ++ [x]) ++ b:=by simp
  rw [h2,show a.length + 1=(a ++ [x]).length by simp,h1]
  simp
theorem putL_all0 {l b:List Int} (h:b.length=l.length):putL b 0 l=l:=putL_all l [] b h
def stwGo (k0:Nat):List Int -> Nat -> Int -> List Int
 | b,0,_=>b
 | b,w + 1,n=>stwGo k0 (b.set (k0 + w) (n % 256)) w (n / 256)
theorem stwGo_eq (k0:Nat):∀ (w:Nat) (b:List Int) (n:Int),stwGo k0 b w n=putL b k0 (fixNs w n)
 | 0,b,n=>rfl
 | w + 1,b,n=>by
  rw [stwGo,stwGo_eq k0 w,putL_set _ _ _ _ _ (by rw [fixNs_len];omega),fixNs,putL_snoc,fixNs_len]
theorem bytesOf_list (ns:List Int):(bytesOf ns).data.toList=ns.map fun n=>UInt8.ofNat n.toNat:=by
 have key:∀ (ns:List Int) (r:ByteArray),(ns.foldl (fun r n=>r.push (UInt8.ofNat n.toNat)) r).data.toList=r.data.toList ++ ns.map fun n=>UInt8.ofNat n.toNat:=fun ns=>by
  induction ns with
  | nil=>intro r;simp
  | cons n ns ih =>
   intro r
   rw [List.foldl_cons,ih,List.map_cons]
   show (r.data.push _).toList ++ _=_
   simp
 have:=key ns ByteArray.empty
 rw [show (ByteArray.empty).data.toList=[] from rfl,List.nil_append] at this
 exact this
theorem bytesOf_size (ns:List Int):(bytesOf ns).size=ns.length:=by
 have:=congrArg List.length (bytesOf_list ns)
 rw [List.length_map] at this
 rw [<- this]
 rfl
theorem bytes_ext {a b:ByteArray} (h:a.data.toList=b.data.toList):a=b:=by
 cases a;cases b
 simp only at h
 congr 1
 exact Array.toList_inj.1 h
theorem bytesOf_app (a b:List Int):bytesOf a ++ bytesOf b=bytesOf (a ++ b):=by
 apply bytes_ext
 rw [bytesOf_list,List.map_append,<- bytesOf_list,<- bytesOf_list]
 simp
theorem bytesOf_get {ns:List Int} {i:Nat} (h:i < ns.length) (hb:∀ x ∈ ns,0 <= x /\ x < 256):((((bytesOf ns).data.toList.getD i 0).toNat:Nat):Int)=ns[i]:=by
 rw [bytesOf_list,List.getD_eq_getElem?_getD,List.getElem?_map,List.getElem?_eq_getElem h]
 have:=hb _ (List.getElem_mem h)
 simp only [Option.map_some,Option.getD_some,UInt8.toNat_ofNat']
 omega
end Go.Proofs.YtcnddedeeplbcaaGreat.Mod
