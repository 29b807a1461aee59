import Derived.Test.YtgcefofmfeghmaaHuD
import Derived.Test.YtgcefofmfeghmaaPDec
import Derived.Test.YtgcefofmfeghmaaGxf12
/- Decoding: the program's and the document's. -/
namespace Go.Proofs.Ytgcefofmfeghmaa.Hu
open Go.RowKit Go.Proofs.Ytgcefofmfeghmaa.G Go.Proofs.YtgcefofmfeghmaaW.PrintWords Go.Proofs.YtgcefofmfeghmaaW.PrintLast Go.Proofs.YtgcefofmfeghmaaW.PrintMore
set_option linter.unusedVariables false

/-- the symbol of a word, among the places from i on -/
def findW (l : List Int) : Nat → Nat → Int → Int → Option Nat
  | 0, _, _, _ => none
  | d + 1, i, B, L => if (wordOf l i).f1 = L ∧ (wordOf l i).f0 = B then some i else findW l d (i + 1) B L
theorem findW_snoc (l : List Int) (B L : Int) : ∀ d i, findW l (d + 1) i B L = (findW l d i B L).or (if (wordOf l (i + d)).f1 = L ∧ (wordOf l (i + d)).f0 = B then some (i + d) else none)
  | 0, i => by simp [findW]
  | d + 1, i => by
    have e1 : findW l (d + 1) i B L = if (wordOf l i).f1 = L ∧ (wordOf l i).f0 = B then some i else findW l d (i + 1) B L := by rw [findW]
    have e2 : findW l (d + 1 + 1) i B L = if (wordOf l i).f1 = L ∧ (wordOf l i).f0 = B then some i else findW l (d + 1) (i + 1) B L := by rw [findW]
    rw [e1, e2]
    by_cases c : (wordOf l i).f1 = L ∧ (wordOf l i).f0 = B
    · rw [if_pos c, if_pos c]; rfl
    · rw [if_neg c, if_neg c, findW_snoc l B L d (i + 1), show i + 1 + d = i + (d + 1) by omega]
theorem findW_some (l : List Int) (B L : Int) : ∀ d i j, findW l d i B L = some j → i ≤ j ∧ j < i + d ∧ (wordOf l j).f1 = L ∧ (wordOf l j).f0 = B
  | 0, i, j, h => by simp [findW] at h
  | d + 1, i, j, h => by
    unfold findW at h
    split at h
    · cases h; rename_i c; exact ⟨Nat.le_refl _, by omega, c.1, c.2⟩
    · obtain ⟨h1, h2, h3⟩ := findW_some l B L d (i + 1) j h
      exact ⟨by omega, by omega, h3⟩
theorem look_append (B L : Int) (p : S36 × Int) : ∀ m : List (S36 × Int), Mp.look (m ++ [p]) B L = (Mp.look m B L).or (if B == p.1.f0 && (L == p.1.f1) then some p.2 else none)
  | [] => by simp [Mp.look]
  | q :: m => by
    rw [List.cons_append, Mp.look, Mp.look]
    by_cases c : (B == q.1.f0 && (L == q.1.f1)) = true
    · rw [if_pos c, if_pos c]; rfl
    · rw [if_neg c, if_neg c, look_append B L p m]
theorem look_sym (l : List Int) (hl : l.length ≤ 256) (B L : Int) (hL : 0 < L) : ∀ m : Nat, m ≤ l.length → Mp.look (Mp.symMap (words l) m) B L = (findW l m 0 B L).map (fun j : Nat => (j : Int))
  | 0, _ => by simp [Mp.symMap, Mp.look, findW]
  | m + 1, h => by
    rw [Mp.symMap_succ, words_at l m (by omega), findW_snoc, Nat.zero_add]
    have ih := look_sym l hl B L hL m (by omega)
    have em : (m : Int) % 256 = (m : Int) := by omega
    by_cases c : 0 < (wordOf l m).f1
    · rw [if_pos c, look_append, ih, em]
      by_cases c2 : (wordOf l m).f1 = L ∧ (wordOf l m).f0 = B
      · rw [if_pos c2, if_pos (by simp [c2.1, c2.2])]
        cases findW l m 0 B L <;> rfl
      · rw [if_neg c2, if_neg (by simp only [Bool.and_eq_true, beq_iff_eq]; omega)]
        cases findW l m 0 B L <;> rfl
    · rw [if_neg c, ih, if_neg (by omega)]
      cases findW l m 0 B L <;> rfl
theorem wordOf_len (l : List Int) (hr : RightP l) (i : Nat) (hi : i < l.length) : (wordOf l i).f1 = rd l (i : Int) := by
  have h : 0 ≤ rd l (i : Int) ∧ rd l (i : Int) ≤ 24 := hr.2.1 i hi
  unfold wordOf
  split
  · rfl
  · show (0 : Int) = _; omega
theorem look25 (l : List Int) (hr : RightP l) (B L : Int) (hL : 24 < L) : Mp.look (Mp.symMap (words l) l.length) B L = none := by
  rw [look_sym l hr.1 B L (by omega) _ (Nat.le_refl _)]
  cases h : findW l l.length 0 B L with
  | none => rfl
  | some j =>
    obtain ⟨-, h2, h3, -⟩ := findW_some l B L _ _ _ h
    rw [wordOf_len l hr j (by omega)] at h3
    have : 0 ≤ rd l (j : Int) ∧ rd l (j : Int) ≤ 24 := hr.2.1 j (by omega)
    omega
theorem dist (l : List Int) (hr : RightP l) : Mp.distB (words l) = true := by
  unfold Mp.distB
  rw [List.all_eq_true]
  intro i hi
  have hi := List.mem_range.1 hi
  rw [words_len] at hi
  rw [words_at l i hi]
  by_cases c : 0 < (wordOf l i).f1
  · rw [look_sym l hr.1 _ _ c _ (by omega)]
    cases h : findW l i 0 (wordOf l i).f0 (wordOf l i).f1 with
    | none => simp
    | some j =>
      exfalso
      obtain ⟨-, h2, h3, h4⟩ := findW_some l _ _ _ _ _ h
      have c1 := wordOf_len l hr i hi
      have c2 := wordOf_len l hr j (by omega)
      rw [wordOf_pos l i (by omega), wordOf_pos l j (by omega)] at h4
      have := words_inj l hr j i (by omega) hi (by omega) (by omega) (Int.ofNat_inj.1 h4)
      omega
  · simp [c]

theorem rwords_at (l : List Int) (i : Nat) (h : i < l.length) : rd_T53 (rwords l) (i : Int) = rword l i := by
  unfold rd_T53 rwords
  simp [List.getD, h]
theorem rwords_len (l : List Int) : (rwords l).length = l.length := by unfold rwords; simp
theorem rword_f (l : List Int) (i : Nat) : (rword l i).f0 = (wordOf l i).f0 ∧ (rword l i).f1 = (wordOf l i).f1 := by
  unfold rword wordOf bitsN
  split <;> exact ⟨rfl, rfl⟩
theorem symbol_from (l : List Int) (hl : l.length ≤ 256) (B L : Int) : ∀ d i, i + d = l.length → Ev (fun k => turnbuckleref12_symbol.l0 k (rwords l) B L (i : Int)) ((findW l d i B L).elim (-1) (fun j : Nat => (j : Int)))
  | 0, i, h => by
    refine Ev.step (f := fun k => some (-1)) (fun k => by simp only [turnbuckleref12_symbol.l0]; rw [if_neg (by rw [rwords_len]; omega)]) (Ev.now _)
  | d + 1, i, h => by
    have e1 : wrap64 ((i : Int) + 1) = ((i + 1 : Nat) : Int) := by unfold wrap64; omega
    unfold findW
    by_cases c : (wordOf l i).f1 = L ∧ (wordOf l i).f0 = B
    · rw [if_pos c]
      refine Ev.step (f := fun k => some (i : Int)) (fun k => by
        simp only [turnbuckleref12_symbol.l0]
        rw [if_pos (by rw [rwords_len]; omega), if_pos (by omega), rwords_at l i (by omega), (rword_f l i).1, (rword_f l i).2, if_pos c.1, if_pos c.2]) (Ev.now _)
    · rw [if_neg c]
      refine Ev.step ?_ (symbol_from l hl B L d (i + 1) (by omega))
      intro k
      simp only [turnbuckleref12_symbol.l0]
      rw [if_pos (by rw [rwords_len]; omega), if_pos (by omega), rwords_at l i (by omega), (rword_f l i).1, (rword_f l i).2, e1]
      by_cases c1 : (wordOf l i).f1 = L
      · rw [if_pos c1, if_neg (fun q => c ⟨c1, q⟩)]
      · rw [if_neg c1]
theorem symbol_ev (l : List Int) (hl : l.length ≤ 256) (B L : Int) : Ev (fun k => turnbuckleref12_symbol.f k (rwords l) B L) ((findW l l.length 0 B L).elim (-1) (fun j : Nat => (j : Int))) := symbol_from l hl B L l.length 0 (by omega)

theorem bits8_get (c : Int) (k : Nat) (h : k < 8) : (Mp.bits8 c 8)[k]? = some (Mp.bit c k) := by
  unfold Mp.bits8
  rw [List.getElem?_map, List.getElem?_range h]; rfl
theorem bitsOf_get : ∀ (l : List Int) (i : Nat), i < 8 * l.length → (Mp.bitsOf l)[i]? = some (Mp.bit (rd l ((i / 8 : Nat) : Int)) (i % 8))
  | [], i, h => by simp at h
  | c :: l, i, h => by
    have e : Mp.bitsOf (c :: l) = Mp.bits8 c 8 ++ Mp.bitsOf l := by unfold Mp.bitsOf; simp
    rw [e, List.getElem?_append, Mp.bits8_len]
    by_cases h8 : i < 8
    · rw [if_pos h8, bits8_get _ _ h8, Nat.mod_eq_of_lt h8, Nat.div_eq_of_lt h8]; rfl
    · rw [if_neg h8, bitsOf_get l (i - 8) (by simp at h; omega)]
      obtain ⟨j, rfl⟩ : ∃ j, i = j + 8 := ⟨i - 8, by omega⟩
      rw [Nat.add_sub_cancel, Nat.add_mod_right, show (j + 8) / 8 = j / 8 + 1 by omega]
      rfl
theorem bitsOf_drop (l : List Int) (i : Nat) (h : i < 8 * l.length) : (Mp.bitsOf l).drop i = Mp.bit (rd l ((i / 8 : Nat) : Int)) (i % 8) :: (Mp.bitsOf l).drop (i + 1) := by
  have hl : i < (Mp.bitsOf l).length := by rw [Mp.bitsOf_len]; exact h
  have h1 := bitsOf_get l i h
  rw [List.getElem?_eq_getElem hl] at h1
  rw [List.drop_eq_getElem_cons hl, Option.some.inj h1]

theorem ones_sh : ∀ q : Nat, q < 8 → wrap64 (shl .i64 1 (q : Int) - 1) = 2 ^ q - 1 := by decide +kernel
def fin : Option Mp.DS → List Int × Int
  | none => ([], 12)
  | some s => if 7 < s.2.2 then ([], 12) else if s.2.1 = 2 ^ s.2.2.toNat - 1 then (s.1, 0) else ([], 12)
theorem decodeF_fin (ws : List S36) (l : List Int) : Mp.decodeF ws l = fin (Mp.drun (Mp.symMap ws ws.length) ([], 0, 0) (Mp.bitsOf l)) := by
  unfold Mp.decodeF fin
  cases Mp.drun (Mp.symMap ws ws.length) ([], 0, 0) (Mp.bitsOf l) <;> rfl
theorem bytes_rd {l : List Int} (h : ∀ x ∈ l, 0 ≤ x ∧ x < 256) (i : Int) : 0 ≤ rd l i ∧ rd l i < 256 := by
  unfold rd
  rw [List.getD]
  cases h1 : l[i.toNat]? with
  | none => simp
  | some x => simpa using h x (List.mem_of_getElem? h1)

theorem rdec_from (l : List Int) (hr : RightP l) (l1 : List Int) (hlen : l1.length ≤ 1000000000000) (hby : ∀ x ∈ l1, 0 ≤ x ∧ x < 256) : ∀ (d i : Nat) (s : Mp.DS), i + d = 8 * l1.length → Mp.DOk i s →
    Ev (fun k => turnbuckleref12_Decode.l0 k l1 (rwords l) s.1 s.2.1 s.2.2 (i : Int)) (fin (Mp.drun (Mp.symMap (words l) l.length) s ((Mp.bitsOf l1).drop i)))
  | 0, i, s, h, hs => by
    have e : (Mp.bitsOf l1).drop i = [] := List.drop_eq_nil_of_le (by rw [Mp.bitsOf_len]; omega)
    have ew : wrap64 (8 * (l1.length : Int)) = 8 * (l1.length : Int) := by unfold wrap64; omega
    rw [e]
    show Ev _ (fin (some s))
    have hL0 := hs.l0
    refine Ev.step (f := fun k => some (fin (some s))) (fun k => ?_) (Ev.now _)
    simp only [turnbuckleref12_Decode.l0]
    rw [if_neg (by omega)]
    simp only [fin]
    by_cases c : s.2.2 > 7
    · rw [if_pos c, if_pos c]
    · rw [if_neg c, if_neg c, if_pos hL0]
      have hsh : wrap64 ((shl .i64 1 s.2.2) - 1) = 2 ^ s.2.2.toNat - 1 := by
        obtain ⟨q, hq, hq8⟩ : ∃ q : Nat, s.2.2 = (q : Int) ∧ q < 8 := ⟨s.2.2.toNat, by omega, by omega⟩
        rw [hq, Int.toNat_natCast]
        exact ones_sh q hq8
      rw [hsh]
      by_cases c2 : s.2.1 = 2 ^ s.2.2.toNat - 1
      · rw [if_pos c2, if_pos c2]
      · rw [if_neg c2, if_neg c2]
  | d + 1, i, s, h, hs => by
    have hi : i < 8 * l1.length := by omega
    have ew : wrap64 (8 * (l1.length : Int)) = 8 * (l1.length : Int) := by unfold wrap64; omega
    have ed : wrap64 (Int.tdiv (i : Int) 8) = ((i / 8 : Nat) : Int) := by
      rw [show Int.tdiv (i : Int) 8 = ((i / 8 : Nat) : Int) from (Int.ofNat_tdiv i 8).symm]
      unfold wrap64; omega
    have em : wrap64 (7 - Int.tmod (i : Int) 8) = ((7 - i % 8 : Nat) : Int) := by
      rw [show Int.tmod (i : Int) 8 = ((i % 8 : Nat) : Int) from (Int.ofNat_tmod i 8).symm]
      unfold wrap64; omega
    have e1 : wrap64 ((i : Int) + 1) = ((i + 1 : Nat) : Int) := by unfold wrap64; omega
    have eL : wrap64 (s.2.2 + 1) = s.2.2 + 1 := by have := hs.l0; have := hs.l1; unfold wrap64; omega
    obtain ⟨b0, b1⟩ := bytes_rd hby ((i / 8 : Nat) : Int)
    have esh : shr .u8 (rd l1 ((i / 8 : Nat) : Int)) ((7 - i % 8 : Nat) : Int) = rd l1 ((i / 8 : Nat) : Int) / 2 ^ (7 - i % 8) := by
      unfold shr
      rw [show min ((7 - i % 8 : Nat) : Int).toNat IntKind.u8.bits = 7 - i % 8 by simp [IntKind.bits]; omega]
    have ebit : Go.bits .or .i64 (wrap64 (s.2.1 * 2)) (wrap64 (Go.bits .and .u8 (shr .u8 (rd l1 ((i / 8 : Nat) : Int)) ((7 - i % 8 : Nat) : Int)) 1)) = 2 * s.2.1 + Mp.bit (rd l1 ((i / 8 : Nat) : Int)) (i % 8) := by
      have hsm := hs.small
      rw [esh, Mp.and_bit _ _ b0 b1]
      exact Mp.or_bit _ _ hs.lo hsm (Mp.bit_cases _ _)
    rw [bitsOf_drop l1 i hi]
    generalize hb : Mp.bit (rd l1 ((i / 8 : Nat) : Int)) (i % 8) = b at ebit ⊢
    have hb01 : b = 0 ∨ b = 1 := by rw [← hb]; exact Mp.bit_cases _ _
    have hdr : Mp.drun (Mp.symMap (words l) l.length) s (b :: (Mp.bitsOf l1).drop (i + 1)) = (Mp.dstep (Mp.symMap (words l) l.length) s b).bind (fun t => Mp.drun (Mp.symMap (words l) l.length) t ((Mp.bitsOf l1).drop (i + 1))) := by
      unfold Mp.drun; rw [List.foldlM_cons]; rfl
    rw [hdr]
    have hL0 := hs.l0
    have hlo := hs.len
    by_cases c24 : s.2.2 + 1 > 24
    · have hn : Mp.dstep (Mp.symMap (words l) l.length) s b = none := by
        unfold Mp.dstep
        rw [look25 l hr _ _ (by omega)]
        simp only
        rw [if_pos (by omega)]
      rw [hn]
      refine Ev.step (f := fun k => some ([], 12)) (fun k => ?_) (Ev.now _)
      simp only [turnbuckleref12_Decode.l0]
      rw [ew, ed, em, eL, if_pos (by omega), if_pos (by omega), if_pos (by omega), if_pos (by omega), if_pos c24]
    · have hsy := symbol_ev l hr.1 (2 * s.2.1 + b) (s.2.2 + 1)
      have hlk := look_sym l hr.1 (2 * s.2.1 + b) (s.2.2 + 1) (by omega) l.length (Nat.le_refl _)
      refine Ev.step (f := fun k => (turnbuckleref12_symbol.f k (rwords l) (2 * s.2.1 + b) (s.2.2 + 1)).bind fun t202 => (if t202 ≥ 0 then (if s.1.length < 140737488355328 then (turnbuckleref12_Decode.l0 k l1 (rwords l) (s.1 ++ [(t202) % 256]) 0 0 ((i + 1 : Nat) : Int)) else (none)) else (turnbuckleref12_Decode.l0 k l1 (rwords l) s.1 (2 * s.2.1 + b) (s.2.2 + 1) ((i + 1 : Nat) : Int)))) (fun k => ?_) ?_
      · simp only [turnbuckleref12_Decode.l0]
        rw [ew, ed, em, eL, e1, ebit, if_pos (by omega), if_pos (by omega), if_pos (by omega), if_pos (by omega), if_neg c24]
      refine Ev.bind (f := fun k t => _) hsy ?_
      cases hf : findW l l.length 0 (2 * s.2.1 + b) (s.2.2 + 1) with
      | some j =>
        rw [hf] at hlk
        obtain ⟨-, hj, -⟩ := findW_some l _ _ _ _ _ hf
        have hl := hr.1
        have ht : Mp.dstep (Mp.symMap (words l) l.length) s b = some (s.1 ++ [(j : Int)], 0, 0) := by
          unfold Mp.dstep; rw [hlk]; rfl
        rw [ht]
        have ih := rdec_from l hr l1 hlen hby d (i + 1) _ (by omega) (hs.step hb01 ht)
        refine Ev.congr (fun k => ?_) ih
        simp only [Option.elim_some]
        simp only [ge_iff_le]
        rw [if_pos (show (0 : Int) ≤ (j : Int) by omega), if_pos (show s.1.length < 140737488355328 by omega), show (j : Int) % 256 = (j : Int) by omega]
      | none =>
        rw [hf] at hlk
        have ht : Mp.dstep (Mp.symMap (words l) l.length) s b = some (s.1, 2 * s.2.1 + b, s.2.2 + 1) := by
          unfold Mp.dstep; rw [hlk]; simp only [Option.map_none]; rw [if_neg (by omega)]
        rw [ht]
        have ih := rdec_from l hr l1 hlen hby d (i + 1) _ (by omega) (hs.step hb01 ht)
        refine Ev.congr (fun k => ?_) ih
        simp only [Option.elim_none, ge_iff_le]
        rw [if_neg (show ¬ (0 : Int) ≤ -1 by decide)]

theorem byteL_of {l1 : List Int} (hby : ∀ x ∈ l1, 0 ≤ x ∧ x < 256) : Pl.byteL l1 = true := by
  unfold Pl.byteL; rw [List.all_eq_true]; intro x hx; simpa using hby x hx
theorem bytes_wf {l1 : List Int} (h : ∀ x ∈ l1, (Lit.int .u8 x).wf = true) : ∀ x ∈ l1, 0 ≤ x ∧ x < 256 := fun x hx => by
  have h1 := h x hx
  simp [Lit.wf] at h1
  have e1 : IntKind.u8.min = 0 := by decide
  have e2 : IntKind.u8.max = 255 := by decide
  omega
/-- both decode alike -/
theorem dec_both (l : List Int) (hl : l.length ≤ 17592186044416) (l1 : List Int) (hlen : l1.length ≤ 1000000000000) (hby : ∀ x ∈ l1, 0 ≤ x ∧ x < 256) :
    ∃ r, Ev (fun k => Pl.decode.f k l l1) r ∧ Ev (fun k => turnbuckleref12_Decode.f k l l1) r ∧ (RightP l → r = fin (Mp.drun (Mp.symMap (words l) l.length) ([], 0, 0) (Mp.bitsOf l1))) ∧ (¬ RightP l → r = ([], 1)) := by
  by_cases hr : RightP l
  · refine ⟨fin (Mp.drun (Mp.symMap (words l) l.length) ([], 0, 0) (Mp.bitsOf l1)), ?_, ?_, fun _ => rfl, fun h => absurd hr h⟩
    · unfold Pl.decode.f
      refine Ev.bind (f := fun k t => _) ((words_ev l hl).1 hr) ?_
      simp only [if_true]
      rw [if_pos ⟨dist l hr, byteL_of hby, hlen⟩, decodeF_fin, words_len]
      exact Ev.now _
    · unfold turnbuckleref12_Decode.f
      refine Ev.bind (f := fun k t => _) ((rwords_ev l hl).1 hr) ?_
      simp only [if_true]
      exact rdec_from l hr l1 hlen hby (8 * l1.length) 0 _ (by omega) Mp.dok0
  · refine ⟨([], 1), ?_, ?_, fun h => absurd h hr, fun _ => rfl⟩
    · unfold Pl.decode.f
      refine Ev.bind (f := fun k t => _) ((words_ev l hl).2 hr) ?_
      exact Ev.now _
    · unfold turnbuckleref12_Decode.f
      refine Ev.bind (f := fun k t => _) ((rwords_ev l hl).2 hr) ?_
      exact Ev.now _
theorem same_self (l : List Int) : Ev (fun k : Nat => turnbuckleref01_Same.f l l) true := ⟨0, fun k _ => by simp [turnbuckleref01_Same.f]⟩
end Go.Proofs.Ytgcefofmfeghmaa.Hu
