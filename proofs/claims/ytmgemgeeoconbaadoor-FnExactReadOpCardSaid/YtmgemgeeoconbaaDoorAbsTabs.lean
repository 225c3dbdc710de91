/- Data trees; the program's tables: package-level variables whose contents are known. -/
import Derived.WalkKit
namespace Go.Abs

inductive D where
 | int (k : IntKind) (n : Int)
 | bool (b : Bool)
 | str (s : ByteArray)
 | sl (sz : Nat) (rows : List (List D))
 | hdr (v : Value)

instance : Inhabited D := ⟨.bool false⟩

inductive Tab where
 | rows (sz : Nat) (rs : List (List D))
 | cell (p : Array Value -> Prop)

def pow10T : List (List D) := [[.int .u64 1, .int .u64 10, .int .u64 100, .int .u64 1000, .int .u64 10000, .int .u64 100000, .int .u64 1000000, .int .u64 10000000, .int .u64 100000000, .int .u64 1000000000, .int .u64 10000000000, .int .u64 100000000000, .int .u64 1000000000000, .int .u64 10000000000000, .int .u64 100000000000000, .int .u64 1000000000000000, .int .u64 10000000000000000, .int .u64 100000000000000000, .int .u64 1000000000000000000, .int .u64 10000000000000000000]]
def wordsT : List (List D) := [[.str ⟨#[103, 101, 116]⟩, .str ⟨#[112, 117, 116]⟩, .str ⟨#[100, 101, 108]⟩, .str ⟨#[97, 100, 100]⟩]]
def isErr (cs : Array Value) : Prop := ∃ t p, cs[0]? = some (.iface t p)
def isInt (cs : Array Value) : Prop := ∃ m, cs[0]? = some (.int .i64 m)
def tabs : List (Nat × Tab) := [(1, .cell isInt), (4, .cell isErr), (5, .cell isErr), (6, .rows 20 pow10T)]
end Go.Abs
