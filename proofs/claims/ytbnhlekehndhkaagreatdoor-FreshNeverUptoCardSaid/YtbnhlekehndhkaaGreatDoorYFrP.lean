import Derived.Test.YtbnhlekehndhkaaGreatDoorYFG
import Derived.Test.YtbnhlekehndhkaaGreatDoorYMt
import Derived.Test.YtbnhlekehndhkaaGreatDoorYDaU



/- Ages, lifetimes, verdicts: the plain law. -/
namespace Go.Proofs.YtbnhlekehndhkaaGreatDoor.Fr
open Go.RowKit Go.Proofs.YtbnhlekehndhkaaGreatDoorW.PrintWords Go.Proofs.YtbnhlekehndhkaaGreatDoorW.PrintLast Go.Proofs.YtbnhlekehndhkaaGreatDoorW.PrintMore Go.Proofs.YtbnhlekehndhkaaGreatDoor.G Go.Proofs.YtbnhlekehndhkaaGreatDoor.V Go.Proofs.YtbnhlekehndhkaaGreatDoor.S
set_option linter.unusedVariables false
set_option linter.unusedSimpArgs false
def EXPIRES : ByteArray := ⟨#[101, 120, 112, 105, 114, 101, 115]⟩
def DATE : ByteArray := ⟨#[100, 97, 116, 101]⟩
def LASTMOD : ByteArray := ⟨#[108, 97, 115, 116, 45, 109, 111, 100, 105, 102, 105, 101, 100]⟩
def AGE : ByteArray := ⟨#[97, 103, 101]⟩
def AUTH : ByteArray := ⟨#[97, 117, 116, 104, 111, 114, 105, 122, 97, 116, 105, 111, 110]⟩
open Classical in
/-- the date that a text tells -/
noncomputable def dateN (s : ByteArray) : Option Int := if h : ∃ n, Da.Text s n then some h.choose else none
theorem dateN_of {s : ByteArray} {n : Int} (t : Da.Text s n) : dateN s = some n := by
  unfold dateN
  rw [dif_pos ⟨n, t⟩]
  exact congrArg some (Da.text_inj (Exists.choose_spec (⟨n, t⟩ : ∃ n, Da.Text s n)) t)
theorem dateN_none {s : ByteArray} (t : Da.NoText s) : dateN s = none := by
  unfold dateN
  rw [dif_neg (fun ⟨n, h⟩ => t n h)]
theorem dateN_tells {s : ByteArray} {n : Int} (h : dateN s = some n) : Da.Text s n := by
  unfold dateN at h
  split at h
  · rename_i hx
    rw [← Option.some.inj h]
    exact hx.choose_spec
  · cases h
theorem dateN_bd {s : ByteArray} {n : Int} (h : dateN s = some n) : -62167219200 ≤ n ∧ n ≤ 253402300799 := by
  obtain ⟨y, M, d, hh, mi, sc, wd, t⟩ := dateN_tells h
  rw [← t.nu]
  exact Da.num_bd t.ok
theorem dateN_nil : dateN ⟨#[]⟩ = none := by
  cases h : dateN ⟨#[]⟩ with
  | none => rfl
  | some n => have := Da.text_29 (dateN_tells h); simp [ByteArray.size] at this
theorem parse_d (s : ByteArray) (hs : s.size < 4294967281) (w : World) (hG : Da.Glob w) : Calls Tryz.prog 79 #[.string s] w fun e w' => e = .returned (.tuple #[.int .i64 ((dateN s).getD 0), .int .i64 (if (dateN s).isSome then 0 else 15)]) ∧ Below w.heap.size w w' := by
  refine (Da.parse_q s w hG hs).mono ?_
  rintro e w' ⟨hb, h⟩
  refine ⟨?_, hb⟩
  rcases h with ⟨rfl, h⟩ | ⟨n, h, rfl⟩
  · rw [dateN_none h]; rfl
  · rw [dateN_of h]; rfl
/-- the first value of a name -/
def firstN (l : List S59) (n : ByteArray) : Option ByteArray := (allL l n).head?
noncomputable def datedN (l : List S59) (n : ByteArray) : Option Int := (firstN l n).bind dateN
theorem datedN_bd {l : List S59} {m : ByteArray} {n : Int} (h : datedN l m = some n) : -62167219200 ≤ n ∧ n ≤ 253402300799 := by
  unfold datedN at h
  obtain ⟨s, _, h⟩ := Option.bind_eq_some_iff.1 h
  exact dateN_bd h
/-- directives -/
def dirsOf (l : List S59) : Fb.Ct := Fb.dirs (elements (allL l Fb.CACHE))
theorem secV_bd (l : List UInt8) : 0 ≤ (Fb.secV l).1 ∧ (Fb.secV l).1 ≤ 2147483648 := by
  unfold Fb.secV
  split
  · simp
  · split
    · simp
    · rename_i h1 h2
      split
      · rename_i v hv
        have h3 : ∀ b ∈ (48 :: Lib.trimLeftB l 48), 48 ≤ b.toNat ∧ b.toNat ≤ 57 := by
          intro b hb
          rcases List.mem_cons.1 hb with rfl | hb
          · decide
          · exact Fb.trim_digits (by cases h : Lib.trimS l Fb.digs with | nil => rfl | cons x t => exact absurd (.inr (by rw [h]; simp)) h1) b (Fb.trimLeft_mem hb)
        obtain ⟨m, hm, _⟩ := Fb.atoi_digits (48 :: Lib.trimLeftB l 48) (by simp) (by simp only [List.length_cons]; omega) h3
        rw [hm] at hv
        cases hv
        constructor <;> simp only <;> omega
      · simp
/-- numbers of directives lie between -1 and 2^31 -/
def Ok (c : Fb.Ct) : Prop := ∀ j, -1 ≤ c.nm j ∧ c.nm j ≤ 2147483648
theorem ok_told (c : Fb.Ct) (n : ByteArray) (a : List UInt8) (h : Ok c) : Ok (c.told n a) := by
  have hb := secV_bd a
  unfold Fb.Ct.told
  have key : ∀ d : Fb.Ct, Ok d → Ok (match Fb.lookN Fb.numsN n with | some j => if d.nm j < 0 then d.num j (Fb.secV a).1 else d | none => d) := by
    intro d hd
    split
    · split
      · intro i
        unfold Fb.Ct.num
        simp only
        split
        · omega
        · exact hd i
      · exact hd
    · exact hd
  cases Fb.lookN Fb.flagsN n with
  | none => exact key c h
  | some j => exact key (c.flag j) h
theorem ok_dirs : ∀ (l : List ByteArray) (c : Fb.Ct), Ok c → Ok (l.foldl Fb.Ct.step c)
  | [], c, h => h
  | e :: l, c, h => ok_dirs l _ (ok_told c _ _ h)
theorem ok_of (l : List S59) : Ok (dirsOf l) := ok_dirs _ _ (fun j => by simp [Fb.Ct.new])
noncomputable def toldN (l : List S59) (came : Int) : Option Int :=
  if 0 ≤ (dirsOf l).nm 7 then some ((dirsOf l).nm 7) else if 0 ≤ (dirsOf l).nm 6 then some ((dirsOf l).nm 6)
  else if (firstN l EXPIRES).isSome then (match datedN l EXPIRES with | none => some 0 | some e => some (max 0 (e - (datedN l DATE).getD came))) else none
def isT (n : Int) : Bool := decide (0 ≤ n) && decide (n ≤ 1099511627776)
theorem isT_iff (n : Int) : isT n = true ↔ 0 ≤ n ∧ n ≤ 1099511627776 := by unfold isT; simp
theorem rightB_iff (x : S34) : rightB x = true ↔ 0 ≤ x.f2 ∧ x.f2 ≤ x.f3 ∧ x.f3 ≤ 1099511627776 := by
  unfold rightB
  simp only [Bool.and_eq_true, decide_eq_true_eq]
  omega
theorem toldN_bd {l : List S59} {came n : Int} (h : toldN l came = some n) (h0 : 0 ≤ came) (h1 : came ≤ 1099511627776) : 0 ≤ n ∧ n ≤ 1000000000000 := by
  have ho := ok_of l
  unfold toldN at h
  split at h
  · have := ho 7; cases h; omega
  · split at h
    · have := ho 6; cases h; omega
    · split at h
      · split at h
        · cases h; omega
        · rename_i e he
          have b1 := datedN_bd he
          cases h
          cases hd : datedN l DATE with
          | none => simp only [Option.getD_none]; omega
          | some d => have b2 := datedN_bd hd; simp only [Option.getD_some]; omega
      · cases h
noncomputable def guessN (l : List S59) : Int := match datedN l DATE, datedN l LASTMOD with
  | some a, some b => min (max 0 (a - b) / 10) 86400
  | _, _ => 0
noncomputable def lifeN (x : S34) : Int × Bool :=
  if rightB x then (match toldN x.f1.f1 x.f3 with | some n => (n, true) | none => (guessN x.f1.f1, false)) else (0, false)
theorem guess_bd (l : List S59) : 0 ≤ guessN l ∧ guessN l ≤ 86400 := by
  unfold guessN
  split
  · omega
  · simp
theorem life_bd (x : S34) : 0 ≤ (lifeN x).1 ∧ (lifeN x).1 ≤ 1000000000000 := by
  unfold lifeN
  split
  · rename_i h
    rw [rightB_iff] at h
    split
    · rename_i n hn
      exact toldN_bd hn (by omega) (by omega)
    · have := guess_bd x.f1.f1; simp only; omega
  · simp
def secN (x : S34) : Int := (Fb.secV ((firstN x.f1.f1 AGE).getD ⟨#[]⟩).data.toList).1
noncomputable def baseN (x : S34) : Int := match datedN x.f1.f1 DATE with
  | some n => max (secN x + (x.f3 - x.f2)) (x.f3 - n)
  | none => secN x + (x.f3 - x.f2)
noncomputable def ageN (x : S34) (now : Int) : Int := if rightB x && isT now then min (baseN x + max 0 (now - x.f3)) 2147483648 else 0
theorem base_bd (x : S34) (h : rightB x = true) : 0 ≤ baseN x ∧ baseN x ≤ 2000000000000 := by
  have h1 := secV_bd ((firstN x.f1.f1 AGE).getD ⟨#[]⟩).data.toList
  rw [rightB_iff] at h
  unfold baseN secN
  split
  · rename_i n hn
    have := datedN_bd hn
    omega
  · omega
theorem age_bd (x : S34) (now : Int) : 0 ≤ ageN x now ∧ ageN x now ≤ 2147483648 := by
  unfold ageN
  split
  · rename_i h
    rw [Bool.and_eq_true] at h
    have := base_bd x h.1
    omega
  · omega
def usualB (n : Int) : Bool := decide (n = 200) || (decide (n = 203) || (decide (n = 204) || (decide (n = 300) || (decide (n = 301) || (decide (n = 404) || (decide (n = 405) || (decide (n = 410) || (decide (n = 414) || decide (n = 501)))))))))
noncomputable def keepN (x : S34) : Bool :=
  rightB x && (x.f0.f0.toList == [71, 69, 84]) && !(dirsOf x.f1.f1).fl 0 && !(dirsOf x.f0.f4).fl 0 && !(dirsOf x.f1.f1).fl 4 && !(vary x.f1.f1).2
    && (!(firstN x.f0.f4 AUTH).isSome || (dirsOf x.f1.f1).fl 3 || (dirsOf x.f1.f1).fl 2 || decide (0 ≤ (dirsOf x.f1.f1).nm 7))
    && (usualB x.f1.f0 || ((toldN x.f1.f1 x.f3).isSome && decide (200 ≤ x.f1.f0) && decide (x.f1.f0 ≠ 206) && decide (x.f1.f0 ≠ 304)))
/-- a verdict, of directives, an age and a lifetime -/
def verdF (c r : Fb.Ct) (age life : Int) : Int :=
  if r.fl 0 then 0 else if r.fl 1 then 0 else if c.fl 1 then 0 else if 0 ≤ r.nm 6 ∧ r.nm 6 < age then 0 else if 0 ≤ r.nm 8 ∧ life - age < r.nm 8 then 0
  else if age < life then 1 else if c.fl 2 then 0 else if 0 ≤ c.nm 7 then 0 else if age - life ≤ r.nm 9 then 1 else if age - life ≤ c.nm 10 then 2 else 0
noncomputable def verdN (x : S34) (q : S25) (now : Int) : Int := if rightB x && isT now then verdF (dirsOf x.f1.f1) (dirsOf q.f4) (ageN x now) (lifeN x).1 else 0
noncomputable def errN (x : S34) (q : S25) (now : Int) : Bool :=
  rightB x && isT now && !(dirsOf x.f1.f1).fl 1 && !(dirsOf x.f1.f1).fl 2 && !decide (0 ≤ (dirsOf x.f1.f1).nm 7) && !(dirsOf q.f4).fl 0 && !(dirsOf q.f4).fl 1
    && (decide (0 ≤ max ((dirsOf x.f1.f1).nm 11) ((dirsOf q.f4).nm 11)) && decide (ageN x now - (lifeN x).1 ≤ max ((dirsOf x.f1.f1).nm 11) ((dirsOf q.f4).nm 11)))
theorem young_law (x : S34) (q : S25) (now : Int) (h : verdN x q now = 1) : (ageN x now < (lifeN x).1 ∨ ageN x now - (lifeN x).1 ≤ (dirsOf q.f4).nm 9) ∧ ((dirsOf q.f4).nm 6 < 0 ∨ ageN x now ≤ (dirsOf q.f4).nm 6) ∧ ((dirsOf q.f4).nm 8 < 0 ∨ (dirsOf q.f4).nm 8 ≤ (lifeN x).1 - ageN x now) := by
  unfold verdN verdF at h
  repeat' split at h
  all_goals first | omega | (refine ⟨?_, ?_, ?_⟩ <;> omega)
theorem never_law (x : S34) (q : S25) (now : Int) :
    (((dirsOf x.f1.f1).fl 1 = true ∨ (dirsOf q.f4).fl 1 = true ∨ (dirsOf q.f4).fl 0 = true) → verdN x q now = 0 ∧ errN x q now = false)
    ∧ ((lifeN x).1 ≤ ageN x now → ((dirsOf x.f1.f1).fl 2 = true ∨ 0 ≤ (dirsOf x.f1.f1).nm 7) → verdN x q now = 0 ∧ errN x q now = false) := by
  unfold verdN verdF errN
  refine ⟨fun h => ⟨?_, ?_⟩, fun h1 h2 => ⟨?_, ?_⟩⟩
  · rcases h with h | h | h <;> simp [h]
  · rcases h with h | h | h <;> simp [h]
  · repeat' split
    all_goals first | rfl | omega | (rcases h2 with h2 | h2 <;> first | contradiction | omega | simp_all)
  · rcases h2 with h2 | h2 <;> simp [h2]
theorem kept_law (x : S34) (h : keepN x = true) : (dirsOf x.f1.f1).fl 0 = false ∧ (dirsOf x.f0.f4).fl 0 = false ∧ (dirsOf x.f1.f1).fl 4 = false ∧ (vary x.f1.f1).2 = false ∧ x.f0.f0.toList = [71, 69, 84] ∧ x.f1.f0 ≠ 206 ∧ x.f1.f0 ≠ 304 ∧ 200 ≤ x.f1.f0
    ∧ (0 < (allL x.f0.f4 AUTH).length → (dirsOf x.f1.f1).fl 3 = true ∨ (dirsOf x.f1.f1).fl 2 = true ∨ 0 ≤ (dirsOf x.f1.f1).nm 7) := by
  unfold keepN usualB at h
  simp only [Bool.and_eq_true, Bool.or_eq_true, Bool.not_eq_true', decide_eq_true_eq, beq_iff_eq] at h
  obtain ⟨⟨⟨⟨⟨⟨⟨_, h1⟩, h2⟩, h3⟩, h4⟩, h5⟩, h6⟩, h7⟩ := h
  refine ⟨h2, h3, h4, h5, h1, ?_, ?_, ?_, fun hl => ?_⟩
  · omega
  · omega
  · omega
  · rcases h6 with ((h6 | h6) | h6) | h6
    · unfold firstN at h6
      cases hh : allL x.f0.f4 AUTH with
      | nil => rw [hh] at hl; simp at hl
      | cons a t => rw [hh] at h6; simp at h6
    · exact .inl h6
    · exact .inr (.inl h6)
    · exact .inr (.inr h6)
end Go.Proofs.YtbnhlekehndhkaaGreatDoor.Fr

