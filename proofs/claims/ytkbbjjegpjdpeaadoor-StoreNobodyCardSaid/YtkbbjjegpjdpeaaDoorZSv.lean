import Derived.Test.YtkbbjjegpjdpeaaDoorZM3
import Derived.Test.YtkbbjjegpjdpeaaDoorZGx0
import Derived.Test.YtkbbjjegpjdpeaaDoorZGxf16


/- (not yet a claim) the document's One and Same -/
namespace Go.Proofs.YtkbbjjegpjdpeaaDoor.V
open Go.RowKit Go.Proofs.YtkbbjjegpjdpeaaDoorW.PrintWords Go.Proofs.YtkbbjjegpjdpeaaDoor.G
set_option linter.unusedVariables false
set_option linter.unusedSimpArgs false
def fd (f : S63) : List UInt8 × List UInt8 := (D f.f0, D f.f1)
def fsB (a b : List S63) : Bool := a.map fd == b.map fd
def reqB (x y : S31) : Bool := (D x.f0 == D y.f0) && (D x.f1 == D y.f1) && (D x.f2 == D y.f2) && (D x.f3 == D y.f3) && fsB x.f4 y.f4 && (D (strOfNums x.f5) == D (strOfNums y.f5))
def respB (x y : S33) : Bool := decide (x.f0 = y.f0) && fsB x.f1 y.f1 && (D (strOfNums x.f2) == D (strOfNums y.f2))
def oneB (x y : S35) : Bool := decide (x.f2 = y.f2) && decide (x.f3 = y.f3) && reqB x.f0 y.f0 && respB x.f1 y.f1
theorem fsB_ne {a b : List S63} (h : a.length ≠ b.length) : fsB a b = false := by
  unfold fsB
  rw [beq_eq_false_iff_ne]
  intro e
  exact h (by simpa using congrArg List.length e)

theorem drop_cons {α : Type} (l : List α) (z : α) (i : Nat) (h : i < l.length) : l.drop i = l.getD i z :: l.drop (i + 1) := by
  rw [List.drop_eq_getElem_cons h]
  simp [h]
theorem wr (n : Nat) (h : n < 1099511627776) : wrap64 ((n : Int) + 1) = ((n + 1 : Nat) : Int) := by unfold wrap64; omega
theorem fs_l (a b : List S63) (hl : a.length = b.length) (hs : a.length < 1099511627776) : ∀ (n i k : Nat), a.length - i = n → i ≤ a.length → n + 1 ≤ k → turnbuckleref13_Same.l0 k a b (i : Int) = some (fsB (a.drop i) (b.drop i))
  | n, i, 0, hn, hi, hk => by omega
  | 0, i, k + 1, hn, hi, hk => by
    unfold turnbuckleref13_Same.l0
    rw [if_neg (by omega), List.drop_of_length_le (by omega), List.drop_of_length_le (by omega)]
    rfl
  | n + 1, i, k + 1, hn, hi, hk => by
    unfold turnbuckleref13_Same.l0
    rw [if_pos (by omega), if_pos (by omega), if_pos (by omega), wr i (by omega), fs_l a b hl hs n (i + 1) k (by omega) (by omega) (by omega)]
    rw [drop_cons a z63 i (by omega), drop_cons b z63 i (by omega)]
    unfold rd_T63 fsB
    simp only [Int.toNat_natCast, List.map_cons, toL]
    generalize a.getD i z63 = x
    generalize b.getD i z63 = y
    by_cases h1 : D x.f0 = D y.f0 <;> by_cases h2 : D x.f1 = D y.f1 <;> simp [h1, h2, fd]
theorem fs_f (a b : List S63) (hs : a.length < 1099511627776) : ∃ K, ∀ k, K ≤ k → turnbuckleref13_Same.f k a b = some (fsB a b) := by
  by_cases hl : a.length = b.length
  · refine ⟨a.length + 1, fun k hk => ?_⟩
    unfold turnbuckleref13_Same.f
    rw [if_pos (by omega)]
    have := fs_l a b hl hs a.length 0 k (by omega) (by omega) (by omega)
    simpa using this
  · refine ⟨0, fun k _ => ?_⟩
    unfold turnbuckleref13_Same.f
    rw [if_neg (by omega), fsB_ne hl]
theorem nums_f (a b : List Int) : turnbuckleref01_Same.f a b = some (D (strOfNums a) == D (strOfNums b)) := by
  unfold turnbuckleref01_Same.f
  rw [toL, toL]
theorem req_f (x y : S31) (h : x.f4.length < 1099511627776) : ∃ K, ∀ k, K ≤ k → turnbuckleref15_SameRequest.f k x.f0 x.f1 x.f2 x.f3 x.f4 x.f5 y.f0 y.f1 y.f2 y.f3 y.f4 y.f5 = some (reqB x y) := by
  obtain ⟨K, hK⟩ := fs_f x.f4 y.f4 h
  refine ⟨K, fun k hk => ?_⟩
  unfold turnbuckleref15_SameRequest.f reqB
  rw [hK k hk, nums_f]
  simp only [toL]
  by_cases h0 : D x.f0 = D y.f0 <;> by_cases h1 : D x.f1 = D y.f1 <;> by_cases h2 : D x.f2 = D y.f2 <;> by_cases h3 : D x.f3 = D y.f3 <;> cases h4 : fsB x.f4 y.f4 <;> simp [h0, h1, h2, h3]
theorem resp_f (x y : S33) (h : x.f1.length < 1099511627776) : ∃ K, ∀ k, K ≤ k → turnbuckleref15_SameResponse.f k x.f0 x.f1 x.f2 y.f0 y.f1 y.f2 = some (respB x y) := by
  obtain ⟨K, hK⟩ := fs_f x.f1 y.f1 h
  refine ⟨K, fun k hk => ?_⟩
  unfold turnbuckleref15_SameResponse.f respB
  rw [hK k hk, nums_f]
  by_cases h0 : x.f0 = y.f0 <;> cases h4 : fsB x.f1 y.f1 <;> simp [h0]
theorem one_f (x y : S35) (h : x.f0.f4.length < 1099511627776) (h' : x.f1.f1.length < 1099511627776) : ∃ K, ∀ k, K ≤ k → turnbuckleref20_One.f k x.f0.f0 x.f0.f1 x.f0.f2 x.f0.f3 x.f0.f4 x.f0.f5 x.f1.f0 x.f1.f1 x.f1.f2 x.f2 x.f3 y.f0.f0 y.f0.f1 y.f0.f2 y.f0.f3 y.f0.f4 y.f0.f5 y.f1.f0 y.f1.f1 y.f1.f2 y.f2 y.f3 = some (oneB x y) := by
  obtain ⟨K, hK⟩ := req_f x.f0 y.f0 h
  obtain ⟨K2, hK2⟩ := resp_f x.f1 y.f1 h'
  refine ⟨max K K2, fun k hk => ?_⟩
  unfold turnbuckleref20_One.f oneB
  rw [hK k (by omega), hK2 k (by omega)]
  by_cases h0 : x.f2 = y.f2 <;> by_cases h1 : x.f3 = y.f3 <;> cases h4 : reqB x.f0 y.f0 <;> simp [h0, h1]
end Go.Proofs.YtkbbjjegpjdpeaaDoor.V

