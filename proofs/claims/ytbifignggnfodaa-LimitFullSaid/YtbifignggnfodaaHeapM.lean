/- A heap of trees, over plain lists: what container/heap does with it; no program in sight. -/
import Derived.RowKit
namespace Go.Proofs.Ytbifignggnfodaa.HeapM
/-- A tree: its weight, which one it was made, its symbols. -/
structure T where
  w : Int
  m : Int
  s : List Int
deriving DecidableEq
def zero : T := ⟨0, 0, []⟩
def get (ts : List T) (i : Nat) : T := ts.getD i zero
def lt (a b : T) : Bool := if a.w = b.w then decide (a.m < b.m) else decide (a.w < b.w)
def swap (ts : List T) (i j : Nat) : List T := (ts.set i (get ts j)).set j (get ts i)
/-- heap.up -/
def up : Nat → List T → Nat → List T
  | 0, ts, _ => ts
  | k + 1, ts, j => if (j - 1) / 2 = j then ts else if lt (get ts j) (get ts ((j - 1) / 2)) = true then up k (swap ts ((j - 1) / 2) j) ((j - 1) / 2) else ts
/-- The child that comes up. -/
def child (ts : List T) (i n : Nat) : Nat := if 2 * i + 2 < n ∧ lt (get ts (2 * i + 2)) (get ts (2 * i + 1)) = true then 2 * i + 2 else 2 * i + 1
/-- heap.down -/
def down : Nat → List T → Nat → Nat → List T
  | 0, ts, _, _ => ts
  | k + 1, ts, i, n => if 2 * i + 1 < n then (if lt (get ts (child ts i n)) (get ts i) = true then down k (swap ts i (child ts i n)) (child ts i n) n else ts) else ts
/-- heap.Init's rounds, from i - 1 on. -/
def initFrom (ts : List T) (n : Nat) : Nat → List T
  | 0 => ts
  | i + 1 => initFrom (down n ts i n) n i
def init (ts : List T) : List T := initFrom ts ts.length (ts.length / 2)
/-- heap.Pop -/
def pop (ts : List T) : T × List T := (get (down ts.length (swap ts 0 (ts.length - 1)) 0 (ts.length - 1)) (ts.length - 1), (down ts.length (swap ts 0 (ts.length - 1)) 0 (ts.length - 1)).take (ts.length - 1))
/-- heap.Push -/
def push (ts : List T) (t : T) : List T := up (ts.length + 1) (ts ++ [t]) ts.length
theorem swap_length (ts : List T) (i j : Nat) : (swap ts i j).length = ts.length := by unfold swap; simp
theorem up_length : ∀ (k : Nat) (ts : List T) (j : Nat), (up k ts j).length = ts.length
  | 0, _, _ => rfl
  | k + 1, ts, j => by
    unfold up
    split
    · rfl
    · split
      · rw [up_length, swap_length]
      · rfl
theorem down_length : ∀ (k : Nat) (ts : List T) (i n : Nat), (down k ts i n).length = ts.length
  | 0, _, _, _ => rfl
  | k + 1, ts, i, n => by
    unfold down
    split
    · split
      · rw [down_length, swap_length]
      · rfl
    · rfl
theorem child_lt (ts : List T) (i n : Nat) (h : 2 * i + 1 < n) : child ts i n < n ∧ i < child ts i n := by
  unfold child
  split <;> omega
end Go.Proofs.Ytbifignggnfodaa.HeapM
