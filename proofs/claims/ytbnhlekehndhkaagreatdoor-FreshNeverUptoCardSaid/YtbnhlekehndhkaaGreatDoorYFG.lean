import Derived.Test.YtbnhlekehndhkaaGreatDoorYFF
import Derived.Test.YtbnhlekehndhkaaGreatDoorYPv


/- The directives of fields: the plain law, and what its loop keeps. -/
namespace Go.Proofs.YtbnhlekehndhkaaGreatDoor.Fb
open Go.RowKit Go.Proofs.YtbnhlekehndhkaaGreatDoorW.PrintWords Go.Proofs.YtbnhlekehndhkaaGreatDoorW.PrintLast Go.Proofs.YtbnhlekehndhkaaGreatDoorW.PrintMore Go.Proofs.YtbnhlekehndhkaaGreatDoor.G
set_option linter.unusedVariables false
set_option linter.unusedSimpArgs false
def flagsN : List (ByteArray × Nat) := [(⟨#[110, 111, 45, 115, 116, 111, 114, 101]⟩, 0), (⟨#[110, 111, 45, 99, 97, 99, 104, 101]⟩, 1), (⟨#[109, 117, 115, 116, 45, 114, 101, 118, 97, 108, 105, 100, 97, 116, 101]⟩, 2), (⟨#[112, 114, 111, 120, 121, 45, 114, 101, 118, 97, 108, 105, 100, 97, 116, 101]⟩, 2), (⟨#[112, 117, 98, 108, 105, 99]⟩, 3), (⟨#[112, 114, 105, 118, 97, 116, 101]⟩, 4), (⟨#[111, 110, 108, 121, 45, 105, 102, 45, 99, 97, 99, 104, 101, 100]⟩, 5)]
def numsN : List (ByteArray × Nat) := [(⟨#[109, 97, 120, 45, 97, 103, 101]⟩, 6), (⟨#[115, 45, 109, 97, 120, 97, 103, 101]⟩, 7), (⟨#[109, 105, 110, 45, 102, 114, 101, 115, 104]⟩, 8), (⟨#[109, 97, 120, 45, 115, 116, 97, 108, 101]⟩, 9), (⟨#[115, 116, 97, 108, 101, 45, 119, 104, 105, 108, 101, 45, 114, 101, 118, 97, 108, 105, 100, 97, 116, 101]⟩, 10), (⟨#[115, 116, 97, 108, 101, 45, 105, 102, 45, 101, 114, 114, 111, 114]⟩, 11)]
def MAXSTALE : ByteArray := ⟨#[109, 97, 120, 45, 115, 116, 97, 108, 101]⟩
def CACHE : ByteArray := ⟨#[99, 97, 99, 104, 101, 45, 99, 111, 110, 116, 114, 111, 108]⟩
def ptrs (g : Nat) (l : List (ByteArray × Nat)) : List (ByteArray × Value) := l.map fun p => (p.1, .pointer (some ⟨g, p.2, none⟩))
def lookN : List (ByteArray × Nat) → ByteArray → Option Nat
  | [], _ => none
  | (k, v) :: r, s => if s == k then some v else lookN r s
theorem look_ptrs (g : Nat) (s : ByteArray) : ∀ l, lookS (ptrs g l) s = (lookN l s).map fun j => .pointer (some ⟨g, j, none⟩)
  | [] => rfl
  | (k, v) :: r => by
    have ih := look_ptrs g s r
    show (if s == k then some (Value.pointer (some ⟨g, v, none⟩)) else lookS (ptrs g r) s) = (if s == k then some v else lookN r s).map _
    cases (s == k) with
    | true => rfl
    | false => simpa using ih
theorem lookN_mem {s : ByteArray} {j : Nat} : ∀ {l : List (ByteArray × Nat)}, lookN l s = some j → ∃ k, (k, j) ∈ l
  | [], h => by cases h
  | (k, v) :: r, h => by
    unfold lookN at h
    split at h
    · cases h; exact ⟨k, by simp⟩
    · obtain ⟨k', hk⟩ := lookN_mem h
      exact ⟨k', by simp [hk]⟩
theorem flag_lt {s : ByteArray} {j : Nat} (h : lookN flagsN s = some j) : j < 6 := by
  obtain ⟨k, hk⟩ := lookN_mem h
  have : ∀ p ∈ flagsN, p.2 < 6 := by decide
  exact this _ hk
theorem num_in {s : ByteArray} {j : Nat} (h : lookN numsN s = some j) : 6 ≤ j ∧ j < 12 := by
  obtain ⟨k, hk⟩ := lookN_mem h
  have : ∀ p ∈ numsN, 6 ≤ p.2 ∧ p.2 < 12 := by decide
  exact this _ hk
/-- what is told so far: flags, numbers -/
structure Ct where
  fl : Nat → Bool
  nm : Nat → Int
def Ct.cells (c : Ct) : Array Value := #[.bool (c.fl 0), .bool (c.fl 1), .bool (c.fl 2), .bool (c.fl 3), .bool (c.fl 4), .bool (c.fl 5), .int .i64 (c.nm 6), .int .i64 (c.nm 7), .int .i64 (c.nm 8), .int .i64 (c.nm 9), .int .i64 (c.nm 10), .int .i64 (c.nm 11)]
def Ct.new : Ct := ⟨fun _ => false, fun _ => -1⟩
def Ct.flag (c : Ct) (j : Nat) : Ct := ⟨fun i => if i = j then true else c.fl i, c.nm⟩
def Ct.num (c : Ct) (j : Nat) (v : Int) : Ct := ⟨c.fl, fun i => if i = j then v else c.nm i⟩
theorem Ct.at_flag (c : Ct) (j : Nat) (h : j < 6) : c.cells[j]? = some (.bool (c.fl j)) := by
  have : j = 0 ∨ j = 1 ∨ j = 2 ∨ j = 3 ∨ j = 4 ∨ j = 5 := by omega
  rcases this with rfl | rfl | rfl | rfl | rfl | rfl <;> rfl
theorem Ct.at_num (c : Ct) (j : Nat) (h : 6 ≤ j ∧ j < 12) : c.cells[j]? = some (.int .i64 (c.nm j)) := by
  have : j = 6 ∨ j = 7 ∨ j = 8 ∨ j = 9 ∨ j = 10 ∨ j = 11 := by omega
  rcases this with rfl | rfl | rfl | rfl | rfl | rfl <;> rfl
theorem Ct.set_flag (c : Ct) (j : Nat) (h : j < 6) : c.cells.setIfInBounds j (.bool true) = (c.flag j).cells := by
  have : j = 0 ∨ j = 1 ∨ j = 2 ∨ j = 3 ∨ j = 4 ∨ j = 5 := by omega
  rcases this with rfl | rfl | rfl | rfl | rfl | rfl <;> rfl
theorem Ct.set_num (c : Ct) (j : Nat) (v : Int) (h : 6 ≤ j ∧ j < 12) : c.cells.setIfInBounds j (.int .i64 v) = (c.num j v).cells := by
  have : j = 6 ∨ j = 7 ∨ j = 8 ∨ j = 9 ∨ j = 10 ∨ j = 11 := by omega
  rcases this with rfl | rfl | rfl | rfl | rfl | rfl <;> rfl
def bare (a : List UInt8) : List UInt8 := if 1 < a.length ∧ Lib.hasPrefix a [34] = true ∧ Lib.hasSuffix a [34] = true then (a.take (a.length - 1)).drop 1 else a
def argOf (name : ByteArray) (told : Bool) (a : List UInt8) : List UInt8 := if name = MAXSTALE ∧ told = false then Lib.itoa 2147483648 else bare a
def nameOf (e : ByteArray) : ByteArray := Pl.lowS ⟨(Lib.cut e.data.toList [61]).1.toArray⟩
def Ct.told (c : Ct) (name : ByteArray) (a : List UInt8) : Ct :=
  let c := match lookN flagsN name with | some j => c.flag j | none => c
  match lookN numsN name with | some j => if c.nm j < 0 then c.num j (secV a).1 else c | none => c
def Ct.step (c : Ct) (e : ByteArray) : Ct := c.told (nameOf e) (argOf (nameOf e) (Lib.cut e.data.toList [61]).2.2 (Lib.cut e.data.toList [61]).2.1)
def dirs (l : List ByteArray) : Ct := l.foldl Ct.step Ct.new
theorem dirs_snoc (l : List ByteArray) (i : Nat) (e : ByteArray) (h : l[i]? = some e) : dirs (l.take (i + 1)) = (dirs (l.take i)).step e := by
  obtain ⟨hi, rfl⟩ := List.getElem?_eq_some_iff.1 h
  unfold dirs
  rw [← List.take_append_getElem hi, List.foldl_append]
  rfl
end Go.Proofs.YtbnhlekehndhkaaGreatDoor.Fb

