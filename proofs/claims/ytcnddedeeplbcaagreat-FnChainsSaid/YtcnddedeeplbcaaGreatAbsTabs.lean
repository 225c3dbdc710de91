/- Data trees; the program's tables: package-level variables whose contents are known. -/
import Derived.WalkKit
namespace Go.Abs

inductive D where
 | int (k:IntKind) (n:Int)
 | bool (b:Bool)
 | str (s:ByteArray)
 | sl (sz:Nat) (rows:List (List D))
 | hdr (v:Value)

instance:Inhabited D:=⟨.bool false⟩

inductive Tab where
 | rows (sz:Nat) (rs:List (List D))
 | cell (p:Array Value -> Prop)

--TABS
def tabs:List (Nat × Tab):=[]
--END
end Go.Abs
