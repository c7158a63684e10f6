/- The reference's lexer in the ideal machine (2): words, signs, numbers. -/
import Derived.Test.YtjbcjcibnjbpcaaDoorP3
import Derived.Test.YtjbcjcibnjbpcaaDoorTie
import Derived.Lib.LaidTab
import Derived.ProofKit
import Derived.OpenShut
import Derived.LaidMore
import Derived.Lay
import Derived.SevenTiedAt
import Derived.ChangeSame
import Derived.ChangeVars
import Derived.JoinedOf
import Derived.RowKitTokens
import Derived.LaidLaws
import Derived.Stop.Joined
namespace Go.Proofs.YtjbcjcibnjbpcaaDoor.Idl
open Go
set_option maxHeartbeats 8000000
set_option linter.unusedSimpArgs false
def amongF (x : ByteArray) : List ByteArray → Bool
  | [] => false
  | y :: r => if y = x then true else amongF x r
theorem loop38 (H : IH) (g cap : Nat) (x : ByteArray) (S : List ByteArray) (pr : Bool) (hg : H.get g = some (.cells (S.map Value.string) 9 pr)) (hS : S.length < 2 ^ 39) : ∀ (n i : Nat) (T : Regs), S.length - i = n → i ≤ S.length →
    T.at 0 = .string x → T.at 4 = .bool false → T.at 7 = .slice (some ⟨g, 0, none⟩) S.length cap → T.at 8 = .int .i64 (S.length : Int) → T.at 9 = .int .i64 (i : Int) →
    (∃ T', run J okAll (.loop L38_0) T H = some (.exit 0, T', H) ∧ amongF x (S.drop i) = false) ∨
    ∃ T', run J okAll (.loop L38_0) T H = some (.ret, T', H) ∧ amongF x (S.drop i) = true ∧ T'.at 4 = .bool true := by
  intro n
  induction n with
  | zero =>
    intro i T hn hi t0 t4 t7 t8 t9
    have hlt : ¬ ((i : Int) < S.length) := by omega
    have : S.drop i = [] := List.drop_of_length_le (by omega)
    rw [this, r_loop]
    simp [L38_0, t0, t4, t7, t8, t9, hlt, amongF]
  | succ n ih =>
    intro i T hn hi t0 t4 t7 t8 t9
    have hlt : i < S.length := by omega
    have hgi : (S.map Value.string)[i]? = some (.string S[i]) := by simp [hlt]
    have w1 : IntKind.i64.wrap ((i : Int) + 1) = (i : Int) + 1 := wrap64 _ (by omega) (by omega)
    have hd : S.drop i = S[i] :: S.drop (i + 1) := List.drop_eq_getElem_cons hlt
    rw [hd]
    cases hx : decide (S[i] = x) with
    | true =>
      right
      have hx' := of_decide_eq_true hx
      have : ∃ T', run J okAll (.loop L38_0) T H = some (.ret, T', H) ∧ T'.at 4 = .bool true := by
        rw [r_loop]
        simp [L38_0, t0, t4, t7, t8, t9, hlt, iindexAddr, hg, hgi, hx]
      obtain ⟨T', e, a⟩ := this
      exact ⟨T', e, by simp [amongF, hx'], a⟩
    | false =>
      have hx' := of_decide_eq_false hx
      have : ∃ T1, run J okAll (.loop L38_0) T H = run J okAll (.loop L38_0) T1 H ∧ T1.at 0 = .string x ∧ T1.at 4 = .bool false ∧ T1.at 7 = .slice (some ⟨g, 0, none⟩) S.length cap ∧ T1.at 8 = .int .i64 (S.length : Int) ∧ T1.at 9 = .int .i64 ((i : Int) + 1) := by
        rw [r_loop]
        simp [L38_0, t0, t4, t7, t8, t9, hlt, iindexAddr, hg, hgi, hx, w1]
        exact ⟨_, rfl, by simp [t0], by simp [t4], by simp [t7], by simp [t8], by simp⟩
      obtain ⟨T1, e0, f0, f4, f7, f8, f9⟩ := this
      have ha : amongF x (S[i] :: S.drop (i + 1)) = amongF x (S.drop (i + 1)) := by simp [amongF, hx']
      rw [e0, ha]
      exact ih (i + 1) T1 (by omega) (by omega) f0 f4 f7 f8 (by rw [f9]; simp)
theorem c38 (H : IH) (g cap : Nat) (x : ByteArray) (S : List ByteArray) (pr : Bool) (hg : H.get g = some (.cells (S.map Value.string) 9 pr)) (hS : S.length < 2 ^ 39) :
    cal J okAll 38 #[.string x, .slice (some ⟨g, 0, none⟩) S.length cap] H = some (.ret (.bool (amongF x S)), H) := by
  rw [cal38 _ _ (by simp)]
  have key := fun T => loop38 H g cap x S pr hg hS _ 0 T rfl (by omega)
  simp [C38, R38, regsOf, fin, iresult1]
  generalize hX : run J okAll (.loop L38_0) _ _ = X
  obtain ⟨T1, e1, t0, t4, t7, t8, t9⟩ : ∃ T1, run J okAll (.loop L38_0) T1 H = X ∧ T1.at 0 = .string x ∧ T1.at 4 = .bool false ∧ T1.at 7 = .slice (some ⟨g, 0, none⟩) S.length cap ∧ T1.at 8 = .int .i64 (S.length : Int) ∧ T1.at 9 = .int .i64 ((0 : Nat) : Int) :=
    ⟨_, hX, by simp, by simp, by simp, by simp, by simp⟩
  rw [← e1]
  rcases key T1 t0 t4 t7 t8 t9 with ⟨T', h1, h2⟩ | ⟨T', h1, h2, h3⟩
  · rw [h1]; simp only [List.drop_zero] at h2; simp [h2, fin, iresult1]
  · rw [h1]; simp only [List.drop_zero] at h2; simp [h2, h3, fin, iresult1]
theorem bwords (H : IH) : ibuildSlice J 67 20 [(0, .string ⟨#[108, 101, 116]⟩), (1, .string ⟨#[118, 97, 108]⟩), (2, .string ⟨#[102, 117, 110]⟩), (3, .string ⟨#[97, 110, 100]⟩), (4, .string ⟨#[105, 110]⟩), (5, .string ⟨#[101, 110, 100]⟩), (6, .string ⟨#[105, 102]⟩), (7, .string ⟨#[116, 104, 101, 110]⟩), (8, .string ⟨#[101, 108, 115, 101]⟩), (9, .string ⟨#[99, 97, 115, 101]⟩), (10, .string ⟨#[111, 102]⟩), (11, .string ⟨#[102, 110]⟩), (12, .string ⟨#[100, 97, 116, 97, 116, 121, 112, 101]⟩), (13, .string ⟨#[101, 120, 99, 101, 112, 116, 105, 111, 110]⟩), (14, .string ⟨#[114, 97, 105, 115, 101]⟩), (15, .string ⟨#[104, 97, 110, 100, 108, 101]⟩), (16, .string ⟨#[97, 110, 100, 97, 108, 115, 111]⟩), (17, .string ⟨#[111, 114, 101, 108, 115, 101]⟩), (18, .string ⟨#[100, 105, 118]⟩), (19, .string ⟨#[109, 111, 100]⟩)] H = some (.slice (some ⟨H.next, 0, none⟩) 20 20, H.push (.cells (wordsL.map Value.string) 9 false)) := by kernel_rfl
theorem bsigns (H : IH) : ibuildSlice J 67 24 [(0, .string ⟨#[60, 62]⟩), (1, .string ⟨#[60, 61]⟩), (2, .string ⟨#[62, 61]⟩), (3, .string ⟨#[58, 58]⟩), (4, .string ⟨#[58, 61]⟩), (5, .string ⟨#[61, 62]⟩), (6, .string ⟨#[45, 62]⟩), (7, .string ⟨#[40]⟩), (8, .string ⟨#[41]⟩), (9, .string ⟨#[91]⟩), (10, .string ⟨#[93]⟩), (11, .string ⟨#[44]⟩), (12, .string ⟨#[59]⟩), (13, .string ⟨#[61]⟩), (14, .string ⟨#[60]⟩), (15, .string ⟨#[62]⟩), (16, .string ⟨#[43]⟩), (17, .string ⟨#[45]⟩), (18, .string ⟨#[42]⟩), (19, .string ⟨#[94]⟩), (20, .string ⟨#[33]⟩), (21, .string ⟨#[124]⟩), (22, .string ⟨#[95]⟩), (23, .string ⟨#[126]⟩)] H = some (.slice (some ⟨H.next, 0, none⟩) 24 24, H.push (.cells (signsL.map Value.string) 9 false)) := by kernel_rfl
theorem c39 (H : IH) : cal J okAll 39 #[] H = some (.ret (.slice (some ⟨H.next, 0, none⟩) 20 20), H.push (.cells (wordsL.map Value.string) 9 false)) := by
  rw [cal39 _ _ (by simp)]
  simp [C39, R39, regsOf, fin, iresult1, iparts, bwords]
theorem c40 (H : IH) : cal J okAll 40 #[] H = some (.ret (.slice (some ⟨H.next, 0, none⟩) 24 24), H.push (.cells (signsL.map Value.string) 9 false)) := by
  rw [cal40 _ _ (by simp)]
  simp [C40, R40, regsOf, fin, iresult1, iparts, bsigns]
/-- The reference's reading of digits: -1 where it is above 2^62 - 1. -/
def numR (s : ByteArray) : Nat → Nat → Int → Int
  | 0, _, _ => -1
  | k + 1, i, n => if i < s.size then
      if (4611686018427387903 - (bt s i - 48)) / 10 < n then -1 else numR s k (i + 1) (10 * n + (bt s i - 48))
    else n
theorem loop34 (H : IH) (s : ByteArray) (hs : s.size < 2 ^ 39) (hd : ∀ j, j < s.size → digitB (bt s j) = true) : ∀ (k i : Nat) (n : Int) (T : Regs), s.size < k + i → i ≤ s.size → 0 ≤ n → n < 4611686018427387904 →
    T.at 0 = .string s → T.at 3 = .int .i64 n → T.at 4 = .int .i64 (i : Int) →
    (∃ T', run J okAll (.loop L34_0) T H = some (.exit 0, T', H) ∧ T'.at 3 = .int .i64 (numR s k i n)) ∨
    ∃ T', run J okAll (.loop L34_0) T H = some (.ret, T', H) ∧ numR s k i n = -1 ∧ T'.at 2 = .int .i64 (-1) := by
  intro k
  induction k with
  | zero => intro i n T h1 h2; omega
  | succ k ih =>
    intro i n T h1 h2 n0 n1 t0 t3 t4
    by_cases hlt : i < s.size
    · have i0 := idxS_bt s i hlt
      have hdg := digit_range (hd i hlt)
      have w1 : IntKind.i64.wrap ((i : Int) + 1) = (i : Int) + 1 := wrap64 _ (by omega) (by omega)
      have w2 : IntKind.u8.wrap (bt s i - 48) = bt s i - 48 := wrap8 _ (by omega) (by omega)
      have w3 : IntKind.i64.wrap (bt s i - 48) = bt s i - 48 := wrap64 _ (by omega) (by omega)
      have w4 : IntKind.i64.wrap (4611686018427387903 - (bt s i - 48)) = 4611686018427387903 - (bt s i - 48) := wrap64 _ (by omega) (by omega)
      have w7 : IntKind.i64.wrap ((4611686018427387903 - (bt s i - 48)).tdiv 10) = (4611686018427387903 - (bt s i - 48)) / 10 := by rw [Int.tdiv_eq_ediv_of_nonneg (by omega)]; exact wrap64 _ (by omega) (by omega)
      cases hc : decide ((4611686018427387903 - (bt s i - 48)) / 10 < n) with
      | true =>
        right
        have hc' := of_decide_eq_true hc
        have : ∃ T', run J okAll (.loop L34_0) T H = some (.ret, T', H) ∧ T'.at 2 = .int .i64 (-1) := by
          rw [r_loop]
          simp [L34_0, t0, t3, t4, hlt, i0, w1, w2, w3, w4, w7, hc]
        obtain ⟨T', e, a⟩ := this
        exact ⟨T', e, by simp [numR, hlt, hc'], a⟩
      | false =>
        have hc' := of_decide_eq_false hc
        have w5 : IntKind.i64.wrap (10 * n) = 10 * n := wrap64 _ (by omega) (by omega)
        have w6 : IntKind.i64.wrap (10 * n + (bt s i - 48)) = 10 * n + (bt s i - 48) := wrap64 _ (by omega) (by omega)
        have : ∃ T1, run J okAll (.loop L34_0) T H = run J okAll (.loop L34_0) T1 H ∧ T1.at 0 = .string s ∧ T1.at 3 = .int .i64 (10 * n + (bt s i - 48)) ∧ T1.at 4 = .int .i64 ((i : Int) + 1) := by
          rw [r_loop]
          simp [L34_0, t0, t3, t4, hlt, i0, w1, w2, w3, w4, w5, w6, w7, hc]
          exact ⟨_, rfl, by simp [t0], by simp, by simp⟩
        obtain ⟨T1, e0, f0, f3, f4⟩ := this
        have hn : numR s (k + 1) i n = numR s k (i + 1) (10 * n + (bt s i - 48)) := by simp only [numR]; rw [if_pos hlt, if_neg hc']
        rw [e0, hn]
        exact ih (i + 1) _ T1 (by omega) (by omega) (by omega) (by omega) f0 f3 (by rw [f4]; simp)
    · left
      rw [r_loop]
      simp [L34_0, t0, t3, t4, hlt, numR]
theorem c34 (H : IH) (s : ByteArray) (hs : s.size < 2 ^ 39) (hd : ∀ j, j < s.size → digitB (bt s j) = true) : cal J okAll 34 #[.string s] H = some (.ret (.int .i64 (numR s (s.size + 1) 0 0)), H) := by
  rw [cal34 _ _ (by simp)]
  have key := fun T => loop34 H s hs hd (s.size + 1) 0 0 T (by omega) (by omega) (by omega) (by omega)
  simp [C34, R34, regsOf, fin, iresult1]
  generalize hX : run J okAll (.loop L34_0) _ _ = X
  obtain ⟨T1, e1, t0, t3, t4⟩ : ∃ T1, run J okAll (.loop L34_0) T1 H = X ∧ T1.at 0 = .string s ∧ T1.at 3 = .int .i64 0 ∧ T1.at 4 = .int .i64 ((0 : Nat) : Int) :=
    ⟨_, hX, by simp, by simp, by simp⟩
  rw [← e1]
  rcases key T1 t0 t3 t4 with ⟨T', h1, h2⟩ | ⟨T', h1, h2, h3⟩
  · rw [h1]; simp [h2, fin, iresult1]
  · rw [h1]; simp [h2, h3, fin, iresult1]
end Go.Proofs.YtjbcjcibnjbpcaaDoor.Idl
namespace Go.Proofs.YtjbcjcibnjbpcaaDoor.Idl
open Go
set_option maxHeartbeats 8000000
set_option linter.unusedSimpArgs false
/-! ### The end of a text -/
theorem size_suf (s : ByteArray) (i : Nat) : (s.extract i s.size).size = s.size - i := by simp
theorem ext_ext (s : ByteArray) (i a b : Nat) (hb : i + b ≤ s.size) : (s.extract i s.size).extract a b = s.extract (i + a) (i + b) := by
  apply ByteArray.ext
  simp [ByteArray.data_extract, Array.extract_extract]
  congr 1
  have : s.data.size = s.size := rfl
  omega
theorem suf_suf (s : ByteArray) (i j : Nat) (hj : i + j ≤ s.size) : (s.extract i s.size).extract j (s.extract i s.size).size = s.extract (i + j) s.size := by
  rw [size_suf, ext_ext s i j _ (by omega)]
  congr 1
  omega
theorem bt_suf (s : ByteArray) (i j : Nat) (h : i + j < s.size) : bt (s.extract i s.size) j = bt s (i + j) := bt_extract s i s.size j h (Nat.le_refl _)
theorem suf_zero (s : ByteArray) : s.extract 0 s.size = s := by simp
/-- Two texts cannot both begin here when their first bytes differ. -/
theorem prefixB_bt (s x : ByteArray) (h : prefixB s x = true) (j : Nat) (hj : j < x.size) : bt s j = bt x j := by
  simp only [prefixB, Bool.and_eq_true, decide_eq_true_eq] at h
  have h2 := bt_extract s 0 x.size j (by omega) h.1
  rw [h.2] at h2
  rw [Nat.zero_add] at h2
  exact h2.symm
theorem not_both (s : ByteArray) (h : prefixB s ⟨#[42, 41]⟩ = true) : prefixB s ⟨#[40, 42]⟩ = false := by
  cases h2 : prefixB s ⟨#[40, 42]⟩ with
  | false => rfl
  | true =>
    have a := prefixB_bt s _ h 0 (by decide)
    have b := prefixB_bt s _ h2 0 (by decide)
    have c : bt ⟨#[42, 41]⟩ 0 = 42 := rfl
    have d : bt ⟨#[40, 42]⟩ 0 = 40 := rfl
    omega
/-! ### Remarks -/
theorem remL_fuel (s : ByteArray) : ∀ (n m i : Nat) (d : Int), s.size < n + i → s.size < m + i → remL s n d i = remL s m d i := by
  intro n
  induction n with
  | zero =>
    intro m i d h1 h2
    cases m with
    | zero => rfl
    | succ m => simp only [remL]; rw [if_neg (by omega)]
  | succ n ih =>
    intro m i d h1 h2
    cases m with
    | zero => simp only [remL]; rw [if_neg (by omega)]
    | succ m =>
      simp only [remL]
      rw [ih m (i + 2) (d + 1) (by omega) (by omega), ih m (i + 2) (d - 1) (by omega) (by omega), ih m (i + 1) d (by omega) (by omega)]
theorem remL_nonneg (s : ByteArray) : ∀ (n i : Nat) (d : Int), remL s n d i = -1 ∨ (i : Int) < remL s n d i := by
  intro n
  induction n with
  | zero => intro i d; left; rfl
  | succ n ih =>
    intro i d
    simp only [remL]
    split
    · split
      · have := ih (i + 2) (d + 1); omega
      · split
        · split
          · right; omega
          · have := ih (i + 2) (d - 1); omega
        · have := ih (i + 1) d; omega
    · left; rfl
theorem remL_deep (s : ByteArray) : ∀ (n i : Nat) (a d : Int), 1 ≤ a → 1 ≤ d → s.size < n + i → remL s n (d + a) i = if remL s n a i < 0 then -1 else remL s n d (remL s n a i).toNat := by
  intro n
  induction n with
  | zero => intro i a d _ _ _; rfl
  | succ n ih =>
    intro i a d ha hd hn
    -- the fuel of the tail
    have tail : ∀ (x : Int) (j : Nat), i < j → ((j : Int) < x ∨ x = -1) → (if x < 0 then -1 else remL s n d x.toNat) = (if x < 0 then -1 else remL s (n + 1) d x.toNat) := fun x j hj hx => by
      split
      · rfl
      · exact remL_fuel s _ _ _ _ (by omega) (by omega)
    by_cases hlt : i < s.size
    · have e1 : ∀ x : Int, remL s (n + 1) x i = if prefixB (s.extract i s.size) ⟨#[40, 42]⟩ then remL s n (x + 1) (i + 2)
          else if prefixB (s.extract i s.size) ⟨#[42, 41]⟩ then (if x - 1 = 0 then ((i + 2 : Nat) : Int) else remL s n (x - 1) (i + 2)) else remL s n x (i + 1) := fun x => by simp only [remL]; rw [if_pos hlt]
      rw [e1 (d + a), e1 a]
      cases hp : prefixB (s.extract i s.size) ⟨#[40, 42]⟩ with
      | true =>
        simp only [if_true]
        rw [show d + a + 1 = d + (a + 1) by omega, ih (i + 2) (a + 1) d (by omega) hd (by omega)]
        exact tail _ (i + 2) (by omega) ((remL_nonneg s n (i + 2) (a + 1)).symm)
      | false =>
        simp only [Bool.false_eq_true, if_false]
        cases hq : prefixB (s.extract i s.size) ⟨#[42, 41]⟩ with
        | true =>
          simp only [if_true]
          rw [if_neg (by omega : ¬ d + a - 1 = 0)]
          by_cases h1 : a - 1 = 0
          · rw [if_pos h1, if_neg (by omega), show d + a - 1 = d by omega]
            rw [show (((i + 2 : Nat) : Int)).toNat = i + 2 by omega]
            exact remL_fuel s _ _ _ _ (by omega) (by omega)
          · rw [if_neg h1, show d + a - 1 = d + (a - 1) by omega, ih (i + 2) (a - 1) d (by omega) hd (by omega)]
            exact tail _ (i + 2) (by omega) ((remL_nonneg s n (i + 2) (a - 1)).symm)
        | false =>
          simp only [Bool.false_eq_true, if_false]
          rw [ih (i + 1) a d ha hd (by omega)]
          exact tail _ (i + 1) (by omega) ((remL_nonneg s n (i + 1) a).symm)
    · have e1 : ∀ x : Int, remL s (n + 1) x i = -1 := fun x => by simp only [remL]; rw [if_neg hlt]
      rw [e1, e1, if_pos (by omega)]
theorem remL_suf (s : ByteArray) (i : Nat) (hi : i ≤ s.size) : ∀ (n j : Nat) (d : Int), remL s n d (i + j) = if remL (s.extract i s.size) n d j < 0 then -1 else remL (s.extract i s.size) n d j + i := by
  intro n
  induction n with
  | zero => intro j d; rfl
  | succ n ih =>
    intro j d
    by_cases hlt : i + j < s.size
    · have e0 : remL (s.extract i s.size) (n + 1) d j = if prefixB (s.extract (i + j) s.size) ⟨#[40, 42]⟩ then remL (s.extract i s.size) n (d + 1) (j + 2)
          else if prefixB (s.extract (i + j) s.size) ⟨#[42, 41]⟩ then (if d - 1 = 0 then ((j + 2 : Nat) : Int) else remL (s.extract i s.size) n (d - 1) (j + 2)) else remL (s.extract i s.size) n d (j + 1) := by
        simp only [remL]; rw [if_pos (show j < (s.extract i s.size).size by rw [size_suf]; omega), suf_suf s i j (by omega)]
      have e9 : remL s (n + 1) d (i + j) = if prefixB (s.extract (i + j) s.size) ⟨#[40, 42]⟩ then remL s n (d + 1) (i + j + 2)
          else if prefixB (s.extract (i + j) s.size) ⟨#[42, 41]⟩ then (if d - 1 = 0 then ((i + j + 2 : Nat) : Int) else remL s n (d - 1) (i + j + 2)) else remL s n d (i + j + 1) := by
        simp only [remL]; rw [if_pos hlt]
      have e1 := ih (j + 2) (d + 1)
      have e2 := ih (j + 2) (d - 1)
      have e3 := ih (j + 1) d
      rw [show i + (j + 2) = i + j + 2 by omega] at e1 e2
      rw [show i + (j + 1) = i + j + 1 by omega] at e3
      rw [e0, e9, e1, e2, e3]
      by_cases h1 : prefixB (s.extract (i + j) s.size) ⟨#[40, 42]⟩ = true
      · simp only [if_pos h1]
      · simp only [if_neg h1]
        by_cases h2 : prefixB (s.extract (i + j) s.size) ⟨#[42, 41]⟩ = true
        · simp only [if_pos h2]
          by_cases h3 : d - 1 = 0
          · simp only [if_pos h3]; rw [if_neg (by omega)]; omega
          · simp only [if_neg h3]
        · simp only [if_neg h2]
    · have e0 : remL (s.extract i s.size) (n + 1) d j = -1 := by simp only [remL]; rw [if_neg (show ¬ j < (s.extract i s.size).size by rw [size_suf]; omega)]
      have e9 : remL s (n + 1) d (i + j) = -1 := by simp only [remL]; rw [if_neg hlt]
      rw [e0, e9]; rfl
theorem remL_le (s : ByteArray) : ∀ (n i : Nat) (d : Int), remL s n d i ≤ s.size := by
  intro n
  induction n with
  | zero => intro i d; simp only [remL]; omega
  | succ n ih =>
    intro i d
    simp only [remL]
    split
    · rename_i hlt
      split
      · exact ih _ _
      · split
        · rename_i hq
          have := prefixB_le s _ i hq (by omega)
          have h2 : (ByteArray.mk #[42, 41]).size = 2 := rfl
          split
          · omega
          · exact ih _ _
        · exact ih _ _
    · omega
def remS (s : ByteArray) : Int := if prefixB s ⟨#[40, 42]⟩ then remL s (s.size + 1) 0 0 else 0
theorem loop24 (H : IH) (s : ByteArray) (hs : s.size < 2 ^ 39) (hrec : ∀ t : ByteArray, t.size < s.size → cal J okAll 24 #[.string t] H = some (.ret (.int .i64 (remS t)), H)) : ∀ (k i : Nat) (T : Regs), s.size < k + i → i ≤ s.size → 2 ≤ i →
    T.at 0 = .string s → T.at 3 = .int .i64 (i : Int) →
    (∃ T', run J okAll (.loop L24_0) T H = some (.exit 0, T', H) ∧ remL s k 1 i = -1) ∨
    ∃ T', run J okAll (.loop L24_0) T H = some (.ret, T', H) ∧ T'.at 2 = .int .i64 (remL s k 1 i) := by
  intro k
  induction k with
  | zero => intro i T h1 h2; omega
  | succ k ih =>
    intro i T h1 h2 h2i t0 t3
    by_cases hlt : i < s.size
    · have hsl := sliceS_some s i s.size (by omega) (by omega)
      have p1 := c41 (s.extract i s.size) ⟨#[42, 41]⟩ H
      have p2 := c41 (s.extract i s.size) ⟨#[40, 42]⟩ H
      have e1 : remL s (k + 1) 1 i = if prefixB (s.extract i s.size) ⟨#[40, 42]⟩ then remL s k 2 (i + 2)
          else if prefixB (s.extract i s.size) ⟨#[42, 41]⟩ then ((i + 2 : Nat) : Int) else remL s k 1 (i + 1) := by
        simp only [remL]; rw [if_pos hlt]; simp
      have w1 : IntKind.i64.wrap ((i : Int) + 2) = (i : Int) + 2 := wrap64 _ (by omega) (by omega)
      have w2 : IntKind.i64.wrap ((i : Int) + 1) = (i : Int) + 1 := wrap64 _ (by omega) (by omega)
      rw [e1]
      cases hq : prefixB (s.extract i s.size) ⟨#[42, 41]⟩ with
      | true =>
        have hp := not_both _ hq
        right
        rw [hp, r_loop]
        simp [L24_0, t0, t3, hlt, hsl, p1, p2, hp, hq, w1]
      | false =>
        cases hp : prefixB (s.extract i s.size) ⟨#[40, 42]⟩ with
        | false =>
          simp only [Bool.false_eq_true, if_false]
          have : ∃ T1, run J okAll (.loop L24_0) T H = run J okAll (.loop L24_0) T1 H ∧ T1.at 0 = .string s ∧ T1.at 3 = .int .i64 ((i : Int) + 1) := by
            rw [r_loop]
            simp [L24_0, t0, t3, hlt, hsl, p1, p2, hp, hq, w2]
            exact ⟨_, rfl, by simp [t0], by simp⟩
          obtain ⟨T1, e0, f0, f3⟩ := this
          rw [e0]
          exact ih (i + 1) T1 (by omega) (by omega) (by omega) f0 (by rw [f3]; simp)
        | true =>
          simp only [if_true]
          have hr := hrec (s.extract i s.size) (by rw [size_suf]; omega)
          have hS : remS (s.extract i s.size) = remL (s.extract i s.size) (s.size - i) 1 2 := by
            unfold remS
            rw [if_pos hp, size_suf]
            simp only [remL]
            rw [if_pos (by rw [size_suf]; omega), suf_zero, if_pos hp]
            rfl
          have hD := remL_deep s k (i + 2) 1 1 (by omega) (by omega) (by omega)
          have hF : remL s k 1 (i + 2) = remL s (s.size - i) 1 (i + 2) := by
            by_cases hz : s.size < (s.size - i) + (i + 2)
            · exact remL_fuel s _ _ _ _ (by omega) hz
            · omega
          have hU := remL_suf s i (by omega) (s.size - i) 2 1
          rw [← hS] at hU
          rw [show (1 : Int) + 1 = 2 from rfl] at hD
          rw [hF, hU] at hD
          generalize hrS : remS (s.extract i s.size) = r at *
          cases hneg : decide (r < 0) with
          | true =>
            have hneg' := of_decide_eq_true hneg
            right
            rw [if_pos hneg', if_pos (by omega)] at hD
            rw [hD, r_loop]
            simp [L24_0, t0, t3, hlt, hsl, p1, p2, hp, hq, hr, hneg]
          | false =>
            have hneg' := of_decide_eq_false hneg
            rw [if_neg hneg', if_neg (by omega)] at hD
            have hgt := remL_nonneg s (s.size - i) (i + 2) 1
            rw [hU, if_neg hneg'] at hgt
            have hgt2 : (2 : Int) < r := by omega
            have hle : r + i ≤ s.size := by
              have := remL_le s (s.size - i) (i + 2) 1
              rw [hU, if_neg hneg'] at this
              omega
            have w3 : IntKind.i64.wrap ((i : Int) + r) = (i : Int) + r := wrap64 _ (by omega) (by omega)
            rw [hD]
            have : ∃ T1, run J okAll (.loop L24_0) T H = run J okAll (.loop L24_0) T1 H ∧ T1.at 0 = .string s ∧ T1.at 3 = .int .i64 ((i : Int) + r) := by
              rw [r_loop]
              simp [L24_0, t0, t3, hlt, hsl, p1, p2, hp, hq, hr, hneg, w3]
              exact ⟨_, rfl, by simp [t0], by simp⟩
            obtain ⟨T1, e0, f0, f3⟩ := this
            rw [e0]
            exact ih (r + i).toNat T1 (by omega) (by omega) (by omega) f0 (by rw [f3]; congr 1; omega)
    · left
      rw [r_loop]
      simp [L24_0, t0, t3, hlt, remL, hlt]
end Go.Proofs.YtjbcjcibnjbpcaaDoor.Idl
namespace Go.Proofs.YtjbcjcibnjbpcaaDoor.Idl
open Go
set_option maxHeartbeats 8000000
set_option linter.unusedSimpArgs false
theorem c24_aux (H : IH) : ∀ (N : Nat) (s : ByteArray), s.size ≤ N → N < 2 ^ 39 → cal J okAll 24 #[.string s] H = some (.ret (.int .i64 (remS s)), H) := by
  intro N
  induction N using Nat.strongRecOn with
  | ind N ih =>
    intro s hsN hN
    have p1 := c41 s ⟨#[40, 42]⟩ H
    rw [cal24 _ _ (by simp)]
    unfold remS
    cases hp : prefixB s ⟨#[40, 42]⟩ with
    | false =>
      simp [C24, R24, regsOf, fin, iresult1, p1, hp]
    | true =>
      have h2 : 2 ≤ s.size := by
        have := prefixB_le s ⟨#[40, 42]⟩ 0 (by rw [suf_zero]; exact hp) (by omega)
        have h2 : (ByteArray.mk #[40, 42]).size = 2 := rfl
        omega
      have hE : remL s (s.size + 1) 0 0 = remL s s.size 1 2 := by
        simp only [remL]
        rw [if_pos (by omega), suf_zero, if_pos hp]
        rfl
      have key := fun T => loop24 H s (by omega) (fun t ht => ih t.size (by omega) t (by omega) (by omega)) s.size 2 T (by omega) h2 (by omega)
      simp only [if_true, hE]
      simp [C24, R24, regsOf, fin, iresult1, p1, hp]
      generalize hX : run J okAll (.loop L24_0) _ _ = X
      obtain ⟨T1, e1, t0, t3⟩ : ∃ T1, run J okAll (.loop L24_0) T1 H = X ∧ T1.at 0 = .string s ∧ T1.at 3 = .int .i64 ((2 : Nat) : Int) := ⟨_, hX, by simp, by simp⟩
      rw [← e1]
      rcases key T1 t0 t3 with ⟨T', h1, h3⟩ | ⟨T', h1, h3⟩
      · rw [h1, h3]; simp [fin, iresult1]
      · rw [h1]; simp [h3, fin, iresult1]
theorem c24 (H : IH) (s : ByteArray) (hs : s.size < 2 ^ 39) : cal J okAll 24 #[.string s] H = some (.ret (.int .i64 (remS s)), H) := c24_aux H s.size s (Nat.le_refl _) hs
end Go.Proofs.YtjbcjcibnjbpcaaDoor.Idl
namespace Go.Proofs.YtjbcjcibnjbpcaaDoor.Idl
open Go
set_option maxHeartbeats 16000000
set_option linter.unusedSimpArgs false
theorem prefixB1 (t : ByteArray) (c : UInt8) : prefixB t ⟨#[c]⟩ = (decide (1 ≤ t.size) && decide (bt t 0 = (c.toNat : Int))) := by
  unfold prefixB
  have h1 : (ByteArray.mk #[c]).size = 1 := rfl
  rw [h1]
  by_cases h : 1 ≤ t.size
  · simp only [h, decide_true, Bool.true_and]
    rw [decide_eq_decide]
    have hb := bt_eq t 0 (by omega)
    constructor
    · intro e
      have := bt_extract t 0 1 0 (by omega) h
      rw [e] at this
      rw [Nat.zero_add] at this
      rw [← this]; rfl
    · intro e
      rw [e] at hb
      have hc : t[0] = c := UInt8.toNat_inj.1 (by omega)
      apply ByteArray.ext
      rw [ByteArray.data_extract]
      apply Array.ext
      · simp; omega
      · intro i h1 h2
        have h2' : i < 1 := h2
        have : i = 0 := by omega
        subst this
        simp
        exact hc
  · simp [h]
theorem strOf_snoc (l : List Int) (c : Int) : strOf l ++ strOf [c] = strOf (l ++ [c]) := by
  apply ByteArray.ext
  simp [strOf, ByteArray.data_append]
theorem strOf_size (l : List Int) : (strOf l).size = l.length := by
  show (strOf l).data.size = _
  simp [strOf]
theorem u8_round (b : UInt8) : UInt8.ofNat ((b.toNat : Int).toNat) = b := by
  have : ((b.toNat : Nat) : Int).toNat = b.toNat := by simp
  rw [this]; exact UInt8.ofNat_toNat
theorem ext_one (s : ByteArray) (i : Nat) (h : i < s.size) : s.extract i (i + 1) = strOf [bt s i] := by
  rw [← bt_eq s i h]
  apply ByteArray.ext
  rw [ByteArray.data_extract]
  apply Array.ext
  · simp [strOf]
    have : s.data.size = s.size := rfl
    omega
  · intro j h1 h2
    have h2' : j < 1 := by simpa [strOf] using h2
    have : j = 0 := by omega
    subst this
    simp [strOf]
    rfl
theorem numR3 (t : ByteArray) (h3 : 3 ≤ t.size) (h0 : digitB (bt t 0) = true) (h1 : digitB (bt t 1) = true) (h2 : digitB (bt t 2) = true) :
    numR (t.extract 0 3) ((t.extract 0 3).size + 1) 0 0 = 100 * (bt t 0 - 48) + 10 * (bt t 1 - 48) + (bt t 2 - 48) := by
  have hsz : (t.extract 0 3).size = 3 := by simp; omega
  have e0 := bt_extract t 0 3 0 (by omega) h3
  have e1 := bt_extract t 0 3 1 (by omega) h3
  have e2 := bt_extract t 0 3 2 (by omega) h3
  have d0 := digit_range h0
  have d1 := digit_range h1
  have d2 := digit_range h2
  rw [hsz]
  simp only [Nat.zero_add] at e0 e1 e2
  simp only [numR, hsz, e0, e1, e2, Nat.zero_add]
  rw [if_pos (by omega), if_neg (by omega), if_pos (by omega), if_neg (by omega), if_pos (by omega), if_neg (by omega), if_neg (by omega)]
  omega
theorem loop35 (s : ByteArray) (lo : Nat) (hs : s.size < 2 ^ 39) : ∀ (n i : Nat) (l : List Int) (H : IH) (T : Regs), s.size < n + i → i ≤ s.size → l.length ≤ i → lo ≤ H.next →
    T.at 0 = .string s → T.at 5 = .string (strOf l) → T.at 6 = .int .i64 (i : Int) →
    ∃ T' H', Fr lo H H' ∧ ((run J okAll (.loop L35_0) T H = some (.exit 0, T', H') ∧ txtF s n i l = none) ∨
      (run J okAll (.loop L35_0) T H = some (.ret, T', H') ∧ ((txtF s n i l = none ∧ T'.at 2 = .string ⟨#[]⟩ ∧ T'.at 3 = .int .i64 0 ∧ T'.at 4 = .bool false) ∨
        ∃ r e, txtF s n i l = some (r, e) ∧ T'.at 2 = .string (strOf r) ∧ T'.at 3 = .int .i64 (e : Int) ∧ T'.at 4 = .bool true))) := by
  intro n
  induction n with
  | zero => intro i l H T hn hi; omega
  | succ n ih =>
    intro i l H T hn hi hl hlo t0 t5 t6
    have go : ∀ (i' : Nat) (l' : List Int) (H1 : IH), i < i' → i' ≤ s.size → l'.length ≤ i' → Fr lo H H1 →
        (∃ T1, run J okAll (.loop L35_0) T H = run J okAll (.loop L35_0) T1 H1 ∧ T1.at 0 = .string s ∧ T1.at 5 = .string (strOf l') ∧ T1.at 6 = .int .i64 (i' : Int)) → txtF s (n + 1) i l = txtF s n i' l' →
        ∃ T' H', Fr lo H H' ∧ ((run J okAll (.loop L35_0) T H = some (.exit 0, T', H') ∧ txtF s (n + 1) i l = none) ∨
          (run J okAll (.loop L35_0) T H = some (.ret, T', H') ∧ ((txtF s (n + 1) i l = none ∧ T'.at 2 = .string ⟨#[]⟩ ∧ T'.at 3 = .int .i64 0 ∧ T'.at 4 = .bool false) ∨
            ∃ r e, txtF s (n + 1) i l = some (r, e) ∧ T'.at 2 = .string (strOf r) ∧ T'.at 3 = .int .i64 (e : Int) ∧ T'.at 4 = .bool true))) := by
      intro i' l' H1 g1 g2 g3 g4 ⟨T1, e1, e2, e3, e4⟩ g6
      obtain ⟨T', H', f1, f2⟩ := ih i' l' H1 T1 (by omega) g2 g3 (Nat.le_trans hlo g4.1) e2 e3 e4
      refine ⟨T', H', g4.trans f1, ?_⟩
      rw [e1, g6]
      exact f2
    have w1 : IntKind.i64.wrap ((i : Int) + 1) = (i : Int) + 1 := wrap64 _ (by omega) (by omega)
    have hadd : ∀ (u : ByteArray) (c : Int), u = strOf [c] → ∀ (x y : Operand) (H : IH), binR J .add 9 x y (.string (strOf l)) (.string u) H = some (.val (.string (strOf (l ++ [c]))) H) := fun u c hu x y H => by
      subst hu
      rw [bin_sadd J H 9 x y _ _ (eq_false (by rw [strOf_size, strOf_size]; simp; omega)), strOf_snoc]
    by_cases hlt : i < s.size
    · have i0 := idxS_bt s i hlt
      cases ha : decide (bt s i = 34) with
      | true =>
        have : ∃ T1, run J okAll (.loop L35_0) T H = some (.ret, T1, H) ∧ T1.at 2 = .string (strOf l) ∧ T1.at 3 = .int .i64 ((i : Int) + 1) ∧ T1.at 4 = .bool true := by
          rw [r_loop]
          simp [L35_0, t0, t5, t6, hlt, i0, of_decide_eq_true ha, w1]
        obtain ⟨T1, e1, e2, e3, e4⟩ := this
        exact ⟨T1, H, Fr.refl _ _, .inr ⟨e1, .inr ⟨l, i + 1, by simp [txtF, hlt, of_decide_eq_true ha], e2, by rw [e3]; simp, e4⟩⟩⟩
      | false =>
        have ha' := of_decide_eq_false ha
        cases hc : decide (bt s i < 32) with
        | true =>
          have hc' := of_decide_eq_true hc
          have : ∃ T1, run J okAll (.loop L35_0) T H = some (.ret, T1, H) ∧ T1.at 2 = .string ⟨#[]⟩ ∧ T1.at 3 = .int .i64 0 ∧ T1.at 4 = .bool false := by
            rw [r_loop]
            simp [L35_0, t0, t5, t6, hlt, i0, ha, hc]
          obtain ⟨T1, e1, e2, e3, e4⟩ := this
          exact ⟨T1, H, Fr.refl _ _, .inr ⟨e1, .inl ⟨by simp [txtF, hlt, ha', hc'], e2, e3, e4⟩⟩⟩
        | false =>
          have hc' := of_decide_eq_false hc
          cases hb : decide (bt s i = 92) with
          | false =>
            have hb' := of_decide_eq_false hb
            have hsl := sliceS_some s i (i + 1) (by omega) (by omega)
            have ha1 := hadd (s.extract i (i + 1)) (bt s i) (ext_one s i hlt)
            refine go (i + 1) (l ++ [bt s i]) H (by omega) (by omega) (by simp; omega) (Fr.refl _ _) ?_ (by simp only [txtF]; rw [if_pos hlt, if_neg ha', if_neg hc', if_pos hb'])
            have bn : ∀ d, ibound (some (.int .i64 ((i : Int) + 1))) d = some (i + 1) := fun d => by simp only [bound_int]; rw [if_pos (by omega)]; congr 1
            rw [r_loop]
            simp [L35_0, t0, t5, t6, hlt, i0, ha, hc, hb, w1, hsl, ha1, bn]
            exact ⟨_, rfl, by simp [t0], by simp, by simp⟩
          | true =>
            have hb' := of_decide_eq_true hb
            have hsl := sliceS_some s (i + 1) s.size (by omega) (by omega)
            have bn : ∀ d, ibound (some (.int .i64 ((i : Int) + 1))) d = some (i + 1) := fun d => by simp only [bound_int]; rw [if_pos (by omega)]; congr 1
            have htz : (s.extract (i + 1) s.size).size = s.size - (i + 1) := size_suf s (i + 1)
            generalize ht : s.extract (i + 1) s.size = t at *
            have q1 := c41 t ⟨#[110]⟩
            have q2 := c41 t ⟨#[116]⟩
            have q3 := c41 t ⟨#[92]⟩
            have q4 := c41 t ⟨#[34]⟩
            have v1 : prefixB t ⟨#[110]⟩ = (decide (1 ≤ t.size) && decide (bt t 0 = 110)) := prefixB1 t 110
            have v2 : prefixB t ⟨#[116]⟩ = (decide (1 ≤ t.size) && decide (bt t 0 = 116)) := prefixB1 t 116
            have v3 : prefixB t ⟨#[92]⟩ = (decide (1 ≤ t.size) && decide (bt t 0 = 92)) := prefixB1 t 92
            have v4 : prefixB t ⟨#[34]⟩ = (decide (1 ≤ t.size) && decide (bt t 0 = 34)) := prefixB1 t 34
            have hstep : txtF s (n + 1) i l = if (escF t).2 = 0 then none else txtF s n (i + (escF t).2.toNat + 1) (l ++ [(escF t).1]) := by
              simp only [txtF]; rw [if_pos hlt, if_neg ha', if_neg hc', if_neg (by simp [hb']), ht]
            have w2 : IntKind.i64.wrap ((i : Int) + 1 + 1) = (i : Int) + 1 + 1 := wrap64 _ (by omega) (by omega)
            cases z1 : prefixB t ⟨#[110]⟩ with
            | true =>
              rw [v1, Bool.and_eq_true, decide_eq_true_eq, decide_eq_true_eq] at z1
              have he : escF t = (10, 1) := by unfold escF; rw [if_neg (by omega), if_pos z1.2]
              have ha1 := hadd ⟨#[10]⟩ 10 rfl
              rw [v1] at q1
              refine go (i + 1 + 1) (l ++ [10]) H (by omega) (by omega) (by simp; omega) (Fr.refl _ _) ?_ (by rw [hstep, he]; rfl)
              rw [r_loop]
              simp [L35_0, t0, t5, t6, hlt, i0, ha, hc, hb, w1, w2, hsl, ha1, bn, q1, z1.1, z1.2]
              exact ⟨_, rfl, by simp [t0], by simp, by simp⟩
            | false =>
            cases z2 : prefixB t ⟨#[116]⟩ with
            | true =>
              have z2' := z2
              rw [v2, Bool.and_eq_true, decide_eq_true_eq, decide_eq_true_eq] at z2'
              have he : escF t = (9, 1) := by unfold escF; rw [if_neg (by omega), if_neg (by omega), if_pos z2'.2]
              have ha1 := hadd ⟨#[9]⟩ 9 rfl
              refine go (i + 1 + 1) (l ++ [9]) H (by omega) (by omega) (by simp; omega) (Fr.refl _ _) ?_ (by rw [hstep, he]; rfl)
              rw [r_loop]
              simp [L35_0, t0, t5, t6, hlt, i0, ha, hc, hb, w1, w2, hsl, ha1, bn, q1, q2, z1, z2]
              exact ⟨_, rfl, by simp [t0], by simp, by simp⟩
            | false =>
            cases z3 : (prefixB t ⟨#[92]⟩ || prefixB t ⟨#[34]⟩) with
            | true =>
              have z3' := z3
              rw [v3, v4, Bool.or_eq_true, Bool.and_eq_true, Bool.and_eq_true, decide_eq_true_eq, decide_eq_true_eq, decide_eq_true_eq] at z3'
              have z34 : 1 ≤ t.size ∧ (bt t 0 = 92 ∨ bt t 0 = 34) := by omega
              have he : escF t = (bt t 0, 1) := by unfold escF; rw [if_neg (by omega), if_neg (by omega), if_neg (by omega), if_pos z34.2]
              have hsl2 := sliceS_some t 0 1 (by omega) z34.1
              have ha1 := hadd (t.extract 0 1) (bt t 0) (ext_one t 0 (by omega))
              refine go (i + 1 + 1) (l ++ [bt t 0]) H (by omega) (by omega) (by simp; omega) (Fr.refl _ _) ?_ (by rw [hstep, he]; rfl)
              rw [r_loop]
              cases z5 : prefixB t ⟨#[92]⟩ with
              | true =>
                simp [L35_0, t0, t5, t6, hlt, i0, ha, hc, hb, w1, w2, hsl, hsl2, ha1, bn, bound_int, q1, q2, q3, z1, z2, z5]
                exact ⟨_, rfl, by simp [t0], by simp, by simp⟩
              | false =>
                rw [z5, Bool.false_or] at z3
                simp [L35_0, t0, t5, t6, hlt, i0, ha, hc, hb, w1, w2, hsl, hsl2, ha1, bn, bound_int, q1, q2, q3, q4, z1, z2, z3, z5]
                exact ⟨_, rfl, by simp [t0], by simp, by simp⟩
            | false =>
            rw [Bool.or_eq_false_iff] at z3
            obtain ⟨z3, z4⟩ := z3
            have w3 : IntKind.i64.wrap ((i : Int) + 3) = (i : Int) + 3 := wrap64 _ (by omega) (by omega)
            have w4 : IntKind.i64.wrap ((i : Int) + 3 + 1) = (i : Int) + 3 + 1 := wrap64 _ (by omega) (by omega)
            have none_ : (escF t).2 = 0 → (∃ T1, run J okAll (.loop L35_0) T H = some (.ret, T1, H) ∧ T1.at 2 = .string ⟨#[]⟩ ∧ T1.at 3 = .int .i64 0 ∧ T1.at 4 = .bool false) →
                ∃ T' H', Fr lo H H' ∧ ((run J okAll (.loop L35_0) T H = some (.exit 0, T', H') ∧ txtF s (n + 1) i l = none) ∨
                  (run J okAll (.loop L35_0) T H = some (.ret, T', H') ∧ ((txtF s (n + 1) i l = none ∧ T'.at 2 = .string ⟨#[]⟩ ∧ T'.at 3 = .int .i64 0 ∧ T'.at 4 = .bool false) ∨
                    ∃ r e, txtF s (n + 1) i l = some (r, e) ∧ T'.at 2 = .string (strOf r) ∧ T'.at 3 = .int .i64 (e : Int) ∧ T'.at 4 = .bool true))) := fun he ⟨T1, e1, e2, e3, e4⟩ =>
              ⟨T1, H, Fr.refl _ _, .inr ⟨e1, .inl ⟨by rw [hstep, if_pos he], e2, e3, e4⟩⟩⟩
            have hno : ¬ (3 ≤ t.size ∧ digitB (bt t 0) ∧ digitB (bt t 1) ∧ digitB (bt t 2) ∧ 100 * (bt t 0 - 48) + 10 * (bt t 1 - 48) + (bt t 2 - 48) ≤ 255) → (escF t).2 = 0 := fun hn => by
              rw [v1, Bool.and_eq_false_iff, decide_eq_false_iff_not, decide_eq_false_iff_not] at z1
              rw [v2, Bool.and_eq_false_iff, decide_eq_false_iff_not, decide_eq_false_iff_not] at z2
              rw [v3, Bool.and_eq_false_iff, decide_eq_false_iff_not, decide_eq_false_iff_not] at z3
              rw [v4, Bool.and_eq_false_iff, decide_eq_false_iff_not, decide_eq_false_iff_not] at z4
              unfold escF
              split
              · rfl
              · have c1 : ¬ bt t 0 = 110 := by omega
                have c2 : ¬ bt t 0 = 116 := by omega
                have c3 : ¬ (bt t 0 = 92 ∨ bt t 0 = 34) := by omega
                simp only [if_neg hn, if_neg c1, if_neg c2, if_neg c3]
            have j0 : 0 < t.size → idxS t 0 = some (.int .u8 (bt t 0)) := fun h => idxS_bt t 0 h
            have j1 : 1 < t.size → idxS t 1 = some (.int .u8 (bt t 1)) := fun h => idxS_bt t 1 h
            have j2 : 2 < t.size → idxS t 2 = some (.int .u8 (bt t 2)) := fun h => idxS_bt t 2 h
            by_cases h3 : 3 ≤ t.size
            · have h3D : (3 : Int) ≤ t.size := by omega
              have j0 := j0 (by omega)
              have j1 := j1 (by omega)
              have j2 := j2 (by omega)
              cases d0 : digitB (bt t 0) with
              | false =>
                refine none_ (hno (by simp [d0])) ?_
                rw [r_loop]
                simp [L35_0, t0, t5, t6, hlt, i0, ha, hc, hb, w1, w2, hsl, bn, q1, q2, q3, q4, z1, z2, z3, z4, h3D, j0, d0]
              | true =>
              cases d1 : digitB (bt t 1) with
              | false =>
                refine none_ (hno (by simp [d1])) ?_
                rw [r_loop]
                simp [L35_0, t0, t5, t6, hlt, i0, ha, hc, hb, w1, w2, hsl, bn, q1, q2, q3, q4, z1, z2, z3, z4, h3D, j0, d0, j1, d1]
              | true =>
              cases d2 : digitB (bt t 2) with
              | false =>
                refine none_ (hno (by simp [d2])) ?_
                rw [r_loop]
                simp [L35_0, t0, t5, t6, hlt, i0, ha, hc, hb, w1, w2, hsl, bn, q1, q2, q3, q4, z1, z2, z3, z4, h3D, j0, d0, j1, d1, j2, d2]
              | true =>
              have hsl3 := sliceS_some t 0 3 (by omega) h3
              have hx : ∀ j, j < (t.extract 0 3).size → digitB (bt (t.extract 0 3) j) = true := fun j hj => by
                have hj3 : j < 3 := by
                  have : (t.extract 0 3).size = 3 := by simp; omega
                  omega
                have := bt_extract t 0 3 j (by omega) h3
                rw [this, Nat.zero_add]
                rcases (by omega : j = 0 ∨ j = 1 ∨ j = 2) with rfl | rfl | rfl <;> assumption
              have k34 := fun H => c34 H (t.extract 0 3) (by have : (t.extract 0 3).size = 3 := (by simp; omega); omega) hx
              rw [numR3 t h3 d0 d1 d2] at k34
              have r0 := digit_range d0
              have r1 := digit_range d1
              have r2 := digit_range d2
              generalize hv : 100 * (bt t 0 - 48) + 10 * (bt t 1 - 48) + (bt t 2 - 48) = v at *
              cases hle : decide (v ≤ 255) with
              | false =>
                have hle' := of_decide_eq_false hle
                refine none_ (hno (by simp [hle'])) ?_
                rw [r_loop]
                simp [L35_0, t0, t5, t6, hlt, i0, ha, hc, hb, w1, w2, hsl, bn, q1, q2, q3, q4, z1, z2, z3, z4, h3D, j0, d0, j1, d1, j2, d2, hsl3, bound_int, k34, hle]
              | true =>
                have hle' := of_decide_eq_true hle
                have he : escF t = (v, 3) := by
                  unfold escF
                  rw [if_neg (by omega), if_neg (by omega), if_neg (by omega), if_neg (by omega), if_pos (by rw [hv]; exact ⟨h3, d0, d1, d2, hle'⟩), hv]
                have w8 := wrap8 v (by omega) (by omega)
                have ha1 := hadd (strOf [v]) v rfl
                have hbd := fun H => build1 bt40 H v
                have hcv : ∀ H : IH, iconvert J 40 9 (.slice (some ⟨H.next, 0, none⟩) 1 1) (H.push (.cells [.int .u8 v] 5 false)) = some (.string (strOf [v]), H.push (.cells [.int .u8 v] 5 false)) := fun H => by
                  simp [iconvert, bytesOfCells, strOf]
                refine go (i + 3 + 1) (l ++ [v]) (H.push (.cells [.int .u8 v] 5 false)) (by omega) (by omega) (by simp; omega) ((Fr.refl _ _).push hlo _) ?_ (by rw [hstep, he]; rfl)
                rw [r_loop]
                simp [L35_0, t0, t5, t6, hlt, i0, ha, hc, hb, w1, w2, w3, w4, w8, hsl, bn, q1, q2, q3, q4, z1, z2, z3, z4, h3D, j0, d0, j1, d1, j2, d2, hsl3, bound_int, k34, hle, iparts, hbd, hcv, ha1]
                exact ⟨_, rfl, by simp [t0], by simp, by simp⟩
            · have h3D : ¬ (3 : Int) ≤ t.size := by omega
              refine none_ (hno (by simp [h3])) ?_
              rw [r_loop]
              simp [L35_0, t0, t5, t6, hlt, i0, ha, hc, hb, w1, w2, hsl, bn, q1, q2, q3, q4, z1, z2, z3, z4, h3D]
    · have : ∃ T', run J okAll (.loop L35_0) T H = some (.exit 0, T', H) := by
        rw [r_loop]
        simp [L35_0, t0, t5, t6, hlt]
      obtain ⟨T', e⟩ := this
      exact ⟨T', H, Fr.refl _ _, .inl ⟨e, by simp [txtF, hlt]⟩⟩
def txtRV : Option (List Int × Nat) → Value
  | none => .tuple #[.string ⟨#[]⟩, .int .i64 0, .bool false]
  | some (l, e) => .tuple #[.string (strOf l), .int .i64 (e : Int), .bool true]
theorem c35 (H : IH) (s : ByteArray) (hs : s.size < 2 ^ 39) : ∃ H', Fr H.next H H' ∧ cal J okAll 35 #[.string s] H = some (.ret (txtRV (txtF s (s.size + 1) 0 [])), H') := by
  rw [cal35 _ _ (by simp)]
  have key := fun T => loop35 s H.next hs (s.size + 1) 0 [] H T (by omega) (by omega) (by simp) (Nat.le_refl _)
  simp [C35, R35, regsOf, fin, iresult1]
  generalize hX : run J okAll (.loop L35_0) _ _ = X
  obtain ⟨T1, e1, t0, t5, t6⟩ : ∃ T1, run J okAll (.loop L35_0) T1 H = X ∧ T1.at 0 = .string s ∧ T1.at 5 = .string (strOf []) ∧ T1.at 6 = .int .i64 ((0 : Nat) : Int) := ⟨_, hX, by simp, by simp; rfl, by simp⟩
  rw [← e1]
  obtain ⟨T', H', f, h⟩ := key T1 t0 t5 t6
  rcases h with ⟨h1, h2⟩ | ⟨h1, h2⟩
  · rw [h1, h2]
    refine ⟨H', f, ?_⟩
    simp [txtRV, fin, iresult1]
  · rw [h1]
    refine ⟨H', f, ?_⟩
    rcases h2 with ⟨h2, a, b, c⟩ | ⟨r, e, h2, a, b, c⟩
    · rw [h2]; simp [txtRV, a, b, c, fin, iresult1]
    · rw [h2]; simp [txtRV, a, b, c, fin, iresult1]
end Go.Proofs.YtjbcjcibnjbpcaaDoor.Idl
namespace Go.Proofs.YtjbcjcibnjbpcaaDoor.Idl
open Go
set_option maxHeartbeats 8000000
set_option maxRecDepth 100000
set_option linter.unusedSimpArgs false
theorem numF_ge (x : ByteArray) (hd : ∀ j, j < x.size → digitB (bt x j) = true) : ∀ (k i : Nat) (n r : Int), 0 ≤ n → numF x k i n = some r → n ≤ r := by
  intro k
  induction k with
  | zero => intro i n r _ h; simp [numF] at h
  | succ k ih =>
    intro i n r h0 h
    simp only [numF] at h
    split at h
    · rename_i hlt
      have := digit_range (hd i hlt)
      split at h
      · cases h
      · have := ih _ _ _ (by omega) h; omega
    · cases h; omega
def num62 : Option Int → Int
  | some r => if r < 4611686018427387904 then r else -1
  | none => -1
theorem num_agree (x : ByteArray) (hd : ∀ j, j < x.size → digitB (bt x j) = true) : ∀ (k i : Nat) (n : Int), 0 ≤ n → n < 4611686018427387904 → x.size < k + i → i ≤ x.size → numR x k i n = num62 (numF x k i n) := by
  intro k
  induction k with
  | zero => intro i n _ _ h1 h2; omega
  | succ k ih =>
    intro i n h0 h1 h2 h3
    simp only [numR, numF]
    by_cases hlt : i < x.size
    · have := digit_range (hd i hlt)
      rw [if_pos hlt, if_pos hlt]
      by_cases hc : (4611686018427387903 - (bt x i - 48)) / 10 < n
      · rw [if_pos hc]
        split
        · rfl
        · cases hq : numF x k (i + 1) (10 * n + (bt x i - 48)) with
          | none => rfl
          | some r =>
            have := numF_ge x hd _ _ _ _ (by omega) hq
            simp only [num62]
            rw [if_neg (by omega)]
      · rw [if_neg hc, if_neg (by omega)]
        exact ih (i + 1) _ (by omega) (by omega) (by omega) (by omega)
    · rw [if_neg hlt, if_neg hlt]
      simp only [num62]
      rw [if_pos h1]
theorem txtF_fuel (s : ByteArray) : ∀ (n m i : Nat) (l : List Int), s.size < n + i → s.size < m + i → txtF s n i l = txtF s m i l := by
  intro n
  induction n with
  | zero =>
    intro m i l h1 h2
    cases m with
    | zero => rfl
    | succ m => simp only [txtF]; rw [if_neg (by omega)]
  | succ n ih =>
    intro m i l h1 h2
    cases m with
    | zero => simp only [txtF]; rw [if_neg (by omega)]
    | succ m =>
      simp only [txtF]
      rw [ih m (i + 1) _ (by omega) (by omega), ih m (i + _ + 1) _ (by omega) (by omega)]
def shT (i : Nat) : Option (List Int × Nat) → Option (List Int × Nat)
  | none => none
  | some (l, e) => some (l, e + i)
theorem txtF_suf (s : ByteArray) (i : Nat) (hi : i ≤ s.size) : ∀ (n j : Nat) (l : List Int), txtF s n (i + j) l = shT i (txtF (s.extract i s.size) n j l) := by
  intro n
  induction n with
  | zero => intro j l; rfl
  | succ n ih =>
    intro j l
    simp only [txtF]
    by_cases hlt : i + j < s.size
    · rw [if_pos hlt, if_pos (show j < (s.extract i s.size).size by rw [size_suf]; omega), bt_suf s i j hlt, suf_suf s i (j + 1) (by omega)]
      rw [show i + (j + 1) = i + j + 1 by omega]
      have e1 := ih (j + 1) (l ++ [bt s (i + j)])
      have e2 := ih (j + (escF (s.extract (i + j + 1) s.size)).2.toNat + 1) (l ++ [(escF (s.extract (i + j + 1) s.size)).1])
      rw [show i + (j + 1) = i + j + 1 by omega] at e1
      rw [show i + (j + (escF (s.extract (i + j + 1) s.size)).2.toNat + 1) = i + j + (escF (s.extract (i + j + 1) s.size)).2.toNat + 1 by omega] at e2
      rw [e1, e2]
      by_cases h1 : bt s (i + j) = 34
      · rw [if_pos h1, if_pos h1]; simp only [shT]; congr 2; omega
      · rw [if_neg h1, if_neg h1]
        by_cases h2 : bt s (i + j) < 32
        · rw [if_pos h2, if_pos h2]; rfl
        · rw [if_neg h2, if_neg h2]
          by_cases h3 : bt s (i + j) ≠ 92
          · rw [if_pos h3, if_pos h3]
          · rw [if_neg h3, if_neg h3]
            by_cases h4 : (escF (s.extract (i + j + 1) s.size)).2 = 0
            · rw [if_pos h4, if_pos h4]; rfl
            · rw [if_neg h4, if_neg h4]
    · rw [if_neg hlt, if_neg (show ¬ j < (s.extract i s.size).size by rw [size_suf]; omega)]
      rfl
def boolsL : List ByteArray := [⟨#[116, 114, 117, 101]⟩, ⟨#[102, 97, 108, 115, 101]⟩]
theorem kwL_eq : kwL = boolsL.map (·, (2 : Int)) ++ wordsL.map (·, (1 : Int)) := by kernel_rfl
theorem look_map (x : ByteArray) (v : Int) (L : List (ByteArray × Int)) : ∀ S : List ByteArray, lookW x (S.map (·, v) ++ L) = if amongF x S then v else lookW x L := by
  intro S
  induction S with
  | nil => rfl
  | cons y S ih =>
    simp only [List.map_cons, List.cons_append, lookW]
    by_cases h : x = y
    · have ea : amongF x (y :: S) = true := if_pos h.symm
      rw [if_pos h, ea]; rfl
    · have ea : amongF x (y :: S) = amongF x S := if_neg (show ¬ y = x from fun e => h e.symm)
      rw [if_neg h, ea]; exact ih
theorem kw_look (x : ByteArray) : lookW x kwL = if amongF x boolsL then 2 else if amongF x wordsL then 1 else 0 := by
  rw [kwL_eq, look_map]
  have := look_map x 1 [] wordsL
  rw [List.append_nil] at this
  rw [this]; rfl
theorem among_mem (x : ByteArray) : ∀ S : List ByteArray, amongF x S = true → x ∈ S := by
  intro S
  induction S with
  | nil => intro h; cases h
  | cons y S ih =>
    intro h
    simp only [amongF] at h
    split at h
    · rename_i e; simp [e]
    · simp [ih h]
theorem words_small : ∀ x ∈ wordsL, greatB (bt x 0) = false := by decide
/-- Which kind a word is. -/
theorem kind_great (x : ByteArray) (h : greatB (bt x 0) = true) : kindW (bt x 0) (lookW x kwL) = 4 := by
  have hw : amongF x wordsL = false := by
    cases e : amongF x wordsL with
    | false => rfl
    | true => have := words_small x (among_mem x _ e); rw [this] at h; cases h
  rw [kw_look, hw]
  unfold kindW
  rw [h]
  cases amongF x boolsL <;> rfl
theorem kind_small (x : ByteArray) (h : greatB (bt x 0) = false) : kindW (bt x 0) (lookW x kwL) = if amongF x boolsL then 4 else if amongF x wordsL then 6 else 3 := by
  rw [kw_look]
  unfold kindW
  rw [h]
  cases amongF x boolsL <;> cases amongF x wordsL <;> rfl
end Go.Proofs.YtjbcjcibnjbpcaaDoor.Idl
namespace Go.Proofs.YtjbcjcibnjbpcaaDoor.Idl
open Go
set_option maxHeartbeats 8000000
set_option linter.unusedSimpArgs false
theorem loop20_0 (H : IH) (s : ByteArray) (hs : s.size < 2 ^ 39) (v2 : Value) : ∀ (k i : Nat) (T : Regs), s.size < k + i → i ≤ s.size →
    T.at 0 = .string s → T.at 2 = v2 → T.at 4 = .int .i64 (i : Int) →
    ∃ T', run J okAll (.loop L20_0) T H = some (.exit 0, T', H) ∧ T'.at 0 = .string s ∧ T'.at 2 = v2 ∧ T'.at 4 = .int .i64 (span letterB s i : Nat) := by
  intro k
  induction k with
  | zero => intro i T h1 h2; omega
  | succ k ih =>
    intro i T h1 h2 t0 t2 t4
    by_cases hlt : i < s.size
    · have i0 := idxS_bt s i hlt
      have w1 : IntKind.i64.wrap ((i : Int) + 1) = (i : Int) + 1 := wrap64 _ (by omega) (by omega)
      have hst := span_step letterB s i hlt
      rw [bt_eq s i hlt] at hst
      rw [hst]
      cases hc : letterB (bt s i) with
      | false =>
        rw [r_loop]
        simp [L20_0, t0, t2, t4, hlt, i0, w1, hc]
      | true =>
        have : ∃ T1, run J okAll (.loop L20_0) T H = run J okAll (.loop L20_0) T1 H ∧ T1.at 0 = .string s ∧ T1.at 2 = v2 ∧ T1.at 4 = .int .i64 ((i : Int) + 1) := by
          rw [r_loop]
          simp [L20_0, t0, t2, t4, hlt, i0, w1, hc]
          exact ⟨_, rfl, by simp [t0], by simp [t2], by simp⟩
        obtain ⟨T1, e0, f0, f2, f4⟩ := this
        rw [e0]
        exact ih (i + 1) T1 (by omega) (by omega) f0 f2 (by rw [f4]; simp)
    · rw [span_end _ _ _ (by omega), r_loop]
      simp [L20_0, t0, t2, t4, hlt]
theorem loop20_1 (H : IH) (s : ByteArray) (hs : s.size < 2 ^ 39) (v2 : Value) : ∀ (k i : Nat) (T : Regs), s.size < k + i → i ≤ s.size →
    T.at 0 = .string s → T.at 2 = v2 → T.at 4 = .int .i64 (i : Int) →
    ∃ T', run J okAll (.loop L20_1) T H = some (.exit 3, T', H) ∧ T'.at 0 = .string s ∧ T'.at 2 = v2 ∧ T'.at 4 = .int .i64 (span digitB s i : Nat) := by
  intro k
  induction k with
  | zero => intro i T h1 h2; omega
  | succ k ih =>
    intro i T h1 h2 t0 t2 t4
    by_cases hlt : i < s.size
    · have i0 := idxS_bt s i hlt
      have w1 : IntKind.i64.wrap ((i : Int) + 1) = (i : Int) + 1 := wrap64 _ (by omega) (by omega)
      have hst := span_step digitB s i hlt
      rw [bt_eq s i hlt] at hst
      rw [hst]
      cases hc : digitB (bt s i) with
      | false =>
        rw [r_loop]
        simp [L20_1, t0, t2, t4, hlt, i0, w1, hc]
      | true =>
        have : ∃ T1, run J okAll (.loop L20_1) T H = run J okAll (.loop L20_1) T1 H ∧ T1.at 0 = .string s ∧ T1.at 2 = v2 ∧ T1.at 4 = .int .i64 ((i : Int) + 1) := by
          rw [r_loop]
          simp [L20_1, t0, t2, t4, hlt, i0, w1, hc]
          exact ⟨_, rfl, by simp [t0], by simp [t2], by simp⟩
        obtain ⟨T1, e0, f0, f2, f4⟩ := this
        rw [e0]
        exact ih (i + 1) T1 (by omega) (by omega) f0 f2 (by rw [f4]; simp)
    · rw [span_end _ _ _ (by omega), r_loop]
      simp [L20_1, t0, t2, t4, hlt]
theorem bl31a : ibuild J 31 [] = some (.agg #[.int .i64 0, .int .i64 0, .string ⟨#[]⟩, .int .i64 0]) := by kernel_rfl
theorem bl31b (k n : Int) : ibuild J 31 [(0, .int .i64 k), (3, .int .i64 n)] = some (.agg #[.int .i64 k, .int .i64 0, .string ⟨#[]⟩, .int .i64 n]) := by kernel_rfl
theorem bl31c (k : Int) (x : ByteArray) : ibuild J 31 [(0, .int .i64 k), (2, .string x)] = some (.agg #[.int .i64 k, .int .i64 0, .string x, .int .i64 0]) := by kernel_rfl
def tok0 : Blk := .cells [.int .i64 0, .int .i64 0, .string ⟨#[]⟩, .int .i64 0] 31 false
theorem loop20_2 (H : IH) (s : ByteArray) (b g cap : Nat) (S : List ByteArray) (pr : Bool) (_hgb : g ≠ b) (hg : H.get g = some (.cells (S.map Value.string) 9 pr)) (hb : H.get b = some (.cells [.int .i64 0, .int .i64 0, .string ⟨#[]⟩, .int .i64 0] 31 false)) (hS : S.length < 2 ^ 39) : ∀ (n i : Nat) (T : Regs), S.length - i = n → i ≤ S.length →
    T.at 0 = .string s → T.at 2 = .pointer (some ⟨b, 0, none⟩) → T.at 125 = .slice (some ⟨g, 0, none⟩) S.length cap → T.at 126 = .int .i64 (S.length : Int) → T.at 127 = .int .i64 (i : Int) →
    (∃ T', run J okAll (.loop L20_2) T H = some (.exit 5, T', H) ∧ signF s 0 (S.drop i) = none ∧ T'.at 2 = .pointer (some ⟨b, 0, none⟩)) ∨
    ∃ T' x, run J okAll (.loop L20_2) T H = some (.ret, T', H.set b (.cells [.int .i64 6, .int .i64 0, .string x, .int .i64 0] 31 false)) ∧ signF s 0 (S.drop i) = some x ∧ T'.at 2 = .pointer (some ⟨b, 0, none⟩) ∧ T'.at 3 = .int .i64 (x.size : Int) := by
  intro n
  induction n with
  | zero =>
    intro i T hn hi t0 t2 t125 t126 t127
    have hlt : ¬ ((i : Int) < S.length) := by omega
    have : S.drop i = [] := List.drop_of_length_le (by omega)
    rw [this]
    left
    have : ∃ T', run J okAll (.loop L20_2) T H = some (.exit 5, T', H) ∧ T'.at 2 = .pointer (some ⟨b, 0, none⟩) := by
      rw [r_loop]
      simp [L20_2, t0, t2, t125, t126, t127, hlt]
    obtain ⟨T', e, a⟩ := this
    exact ⟨T', e, rfl, a⟩
  | succ n ih =>
    intro i T hn hi t0 t2 t125 t126 t127
    have hlt : i < S.length := by omega
    have hgi : (S.map Value.string)[i]? = some (.string S[i]) := by simp [hlt]
    have w1 : IntKind.i64.wrap ((i : Int) + 1) = (i : Int) + 1 := wrap64 _ (by omega) (by omega)
    have hd : S.drop i = S[i] :: S.drop (i + 1) := List.drop_eq_getElem_cons hlt
    have p := c41 s S[i]
    rw [hd]
    cases hx : prefixB s S[i] with
    | true =>
      right
      have : ∃ T', run J okAll (.loop L20_2) T H = some (.ret, T', H.set b (.cells [.int .i64 6, .int .i64 0, .string S[i], .int .i64 0] 31 false)) ∧ T'.at 2 = .pointer (some ⟨b, 0, none⟩) ∧ T'.at 3 = .int .i64 (S[i].size : Int) := by
        rw [r_loop]
        simp [L20_2, t0, t2, t125, t126, t127, hlt, iindexAddr, hg, hgi, hx, p, iparts, bl31c, hb, istore, Value.cells, plain1, overlay]
      obtain ⟨T', e, a, c⟩ := this
      exact ⟨T', S[i], e, by simp [signF, hx], a, c⟩
    | false =>
      have : ∃ T1, run J okAll (.loop L20_2) T H = run J okAll (.loop L20_2) T1 H ∧ T1.at 0 = .string s ∧ T1.at 2 = .pointer (some ⟨b, 0, none⟩) ∧ T1.at 125 = .slice (some ⟨g, 0, none⟩) S.length cap ∧ T1.at 126 = .int .i64 (S.length : Int) ∧ T1.at 127 = .int .i64 ((i : Int) + 1) := by
        rw [r_loop]
        simp [L20_2, t0, t2, t125, t126, t127, hlt, iindexAddr, hg, hgi, hx, p, w1]
        exact ⟨_, rfl, by simp [t0], by simp [t2], by simp [t125], by simp [t126], by simp⟩
      obtain ⟨T1, e0, f0, f2, f125, f126, f127⟩ := this
      have hsg : signF s 0 (S[i] :: S.drop (i + 1)) = signF s 0 (S.drop (i + 1)) := by simp [signF, hx]
      rw [e0, hsg]
      exact ih (i + 1) T1 (by omega) (by omega) f0 f2 f125 f126 (by rw [f127]; simp)
end Go.Proofs.YtjbcjcibnjbpcaaDoor.Idl
namespace Go.Proofs.YtjbcjcibnjbpcaaDoor.Idl
open Go
set_option maxHeartbeats 16000000
set_option linter.unusedSimpArgs false
/-- What the reference answers of a token: without its place; nothing, where it is none. -/
def Tk.ref (t : Tk) : Value := if t.ok then .tuple #[tokV t.kind 0 t.text t.n, .int .i64 (t.fin : Int)] else .tuple #[tokV 0 0 ⟨#[]⟩ 0, .int .i64 0]
theorem gD20_23_3 : Option.bind (D20_23[3]?) (fun x => x.dst) = some 104 := id rfl
theorem guard_undef (w : Bool) : guardB undef w = false := rfl
theorem bl67 (H : IH) : ibuildSlice J 67 2 [(0, .string ⟨#[116, 114, 117, 101]⟩), (1, .string ⟨#[102, 97, 108, 115, 101]⟩)] H = some (.slice (some ⟨H.next, 0, none⟩) 2 2, H.push (.cells (boolsL.map Value.string) 9 false)) := by kernel_rfl
theorem c20 (H : IH) (t : ByteArray) (hs : t.size < 2 ^ 39) (hp : 0 < t.size) : ∃ H', Fr H.next H H' ∧ cal J okAll 20 #[.string t] H = some (.ret (tokF t 0).ref, H') := by
  have i0 : idxS t 0 = some (.int .u8 (bt t 0)) := idxS_bt t 0 hp
  have k0 := fun H T => loop20_0 H t hs (.pointer (some ⟨H.next, 0, none⟩)) (t.size + 1) 1 T (by omega) (by omega)
  have kk := fun T => loop20_0 (H.push tok0) t hs (.pointer (some ⟨H.next, 0, none⟩)) (t.size + 1) 1 T (by omega) (by omega)
  have f1 : Fr H.next H (H.push tok0) := (Fr.refl _ _).push (Nat.le_refl _) _
  have hb0 : (H.push tok0).get H.next = some (.cells [.int .i64 0, .int .i64 0, .string ⟨#[]⟩, .int .i64 0] 31 false) := IH.get_push_same H tok0
  rw [cal20 _ _ (by simp)]
  simp [C20, R20, regsOf, fin, inew, Value.cells]
  generalize hX : run J okAll (.loop L20_0) _ _ = X
  obtain ⟨T1, e1, t0, t2, t4⟩ : ∃ T1, run J okAll (.loop L20_0) T1 (H.push tok0) = X ∧ T1.at 0 = .string t ∧ T1.at 2 = .pointer (some ⟨H.next, 0, none⟩) ∧ T1.at 4 = .int .i64 ((1 : Nat) : Int) := ⟨_, hX, by simp, by simp, by simp⟩
  obtain ⟨T2, g1, g0, g2, g4⟩ := kk T1 t0 t2 t4
  rw [← e1, g1]
  clear g1 e1 hX
  have sE := span_range letterB t 1 (by omega)
  have slE := sliceS_some t 0 (span letterB t 1) (by omega) sE.2
  unfold tokF
  cases hd : digitB (bt t 0) with
  | true =>
    simp only [if_true]
    have sp : span digitB t 0 = span digitB t 1 := by rw [span_step digitB t 0 hp, bt_eq t 0 hp, hd]; rfl
    rw [sp]
    have sD := span_range digitB t 1 (by omega)
    have sa := span_all digitB t _ 0 rfl (by omega)
    rw [sp] at sa
    have slD := sliceS_some t 0 (span digitB t 1) (by omega) sD.2
    have hx : ∀ j, j < (t.extract 0 (span digitB t 1)).size → digitB (bt (t.extract 0 (span digitB t 1)) j) = true := fun j hj => by
      have hj' : j < span digitB t 1 := by simp at hj; omega
      rw [bt_extract t 0 _ j (by omega) sD.2, Nat.zero_add]
      exact sa j (by omega) hj'
    have k34 := fun H => c34 H (t.extract 0 (span digitB t 1)) (by simp; omega) hx
    have hag := num_agree (t.extract 0 (span digitB t 1)) hx ((t.extract 0 (span digitB t 1)).size + 1) 0 0 (by omega) (by omega) (by omega) (by omega)
    rw [hag] at k34
    generalize hE : span digitB t 1 = E at *
    generalize hnum : numF (t.extract 0 E) ((t.extract 0 E).size + 1) 0 0 = r at *
    have hok : (numT r E).ref = if num62 r < 0 then .tuple #[tokV 0 0 ⟨#[]⟩ 0, .int .i64 0] else .tuple #[tokV 1 0 ⟨#[]⟩ (num62 r), .int .i64 (E : Int)] := by
      cases r with
      | none => rfl
      | some r =>
        have hr0 := numF_range _ hx _ _ _ _ (by omega) (by omega) hnum
        by_cases h62 : r < 4611686018427387904
        · have e1 : numT (some r) E = ⟨1, ⟨#[]⟩, r, E, true⟩ := by simp only [numT]; rw [if_pos (by omega)]; simp [h62]
          have e2 : num62 (some r) = r := if_pos h62
          rw [e1, e2, if_neg (by omega)]; rfl
        · have e2 : num62 (some r) = -1 := if_neg h62
          rw [e2, if_pos (by omega)]
          by_cases h63 : r < 9223372036854775808
          · have e1 : numT (some r) E = ⟨1, ⟨#[]⟩, r, E, false⟩ := by simp only [numT]; rw [if_pos h63]; simp [h62]
            rw [e1]; rfl
          · have e1 : numT (some r) E = ⟨1, ⟨#[]⟩, 9223372036854775807, E, false⟩ := by simp only [numT]; rw [if_neg h63]
            rw [e1]; rfl
    rw [hok]
    simp [g0, g2, g4, i0, hd]
    generalize hX : run J okAll (.loop L20_1) _ _ = X
    obtain ⟨T3, e3, m0, m2, m4⟩ : ∃ T3, run J okAll (.loop L20_1) T3 (H.push tok0) = X ∧ T3.at 0 = .string t ∧ T3.at 2 = .pointer (some ⟨H.next, 0, none⟩) ∧ T3.at 4 = .int .i64 ((1 : Nat) : Int) := ⟨_, hX, by simp [g0], by simp [g2], by simp⟩
    obtain ⟨T4, n1, n0, n2, n4⟩ := loop20_1 (H.push tok0) t hs _ (t.size + 1) 1 T3 (by omega) (by omega) m0 m2 m4
    rw [hE] at n4
    rw [← e3, n1]
    clear n1 e3 hX
    cases hneg : decide (num62 r < 0) with
    | true =>
      have hneg' := of_decide_eq_true hneg
      simp [n0, n2, n4, slD, k34, hneg, hneg', iparts, bl31a, hb0, istore, Value.cells, plain1, overlay, fin, iresult1, tokV]
      exact f1.set (Nat.le_refl _) _
    | false =>
      have hneg' := of_decide_eq_false hneg
      simp [n0, n2, n4, slD, k34, hneg, hneg', iparts, bl31b, hb0, istore, Value.cells, plain1, overlay, fin, iresult1, tokV]
      exact f1.set (Nat.le_refl _) _
  | false =>
    simp only [Bool.false_eq_true, if_false]
    by_cases h34 : bt t 0 = 34
    · simp only [if_pos h34]
      have hdg : digitB 34 = false := rfl
      have htx := txtF_suf t 1 (by omega) (t.size + 1) 0 []
      rw [txtF_fuel (t.extract 1 t.size) (t.size + 1) ((t.extract 1 t.size).size + 1) 0 [] (by simp; omega) (by omega)] at htx
      obtain ⟨H2, f2, e35⟩ := c35 (H.push tok0) (t.extract 1 t.size) (by simp; omega)
      have hb2 : H2.get H.next = some (.cells [.int .i64 0, .int .i64 0, .string ⟨#[]⟩, .int .i64 0] 31 false) := by rw [f2.2 _ (by simp)]; exact hb0
      have f3 : Fr H.next H H2 := f1.trans' f2 (by simp)
      have hend := txtF_end (t.extract 1 t.size) ((t.extract 1 t.size).size + 1) 0 []
      have hsz := size_suf t 1
      have sl1 := sliceS_some t 1 t.size (by omega) (by omega)
      rw [show 1 + 0 = 0 + 1 from rfl] at htx
      rw [htx]
      generalize txtF (t.extract 1 t.size) ((t.extract 1 t.size).size + 1) 0 [] = r at *
      cases r with
      | none =>
        simp only [txtRV] at e35
        simp [g0, g2, g4, i0, hdg, h34, sl1, bound_int, e35, iparts, bl31a, hb2, istore, Value.cells, plain1, overlay, fin, iresult1, tokV, shT, txtT, Tk.ref]
        exact f3.set (Nat.le_refl _) _
      | some q =>
        obtain ⟨l, e⟩ := q
        have he := (hend _ rfl).2
        simp only at he
        have w1 : IntKind.i64.wrap (1 + (e : Int)) = 1 + (e : Int) := wrap64 _ (by omega) (by omega)
        simp only [txtRV] at e35
        simp [g0, g2, g4, i0, hdg, h34, sl1, bound_int, e35, iparts, bl31c, hb2, istore, Value.cells, plain1, overlay, fin, iresult1, tokV, shT, txtT, Tk.ref, w1]
        exact ⟨f3.set (Nat.le_refl _) _, by omega⟩
    · simp only [if_neg h34]
      have h34D : decide (bt t 0 = 34) = false := decide_eq_false h34
      by_cases h39 : bt t 0 = 39
      · simp only [if_pos h39]
        have hdg : digitB 39 = false := rfl
        rw [show 0 + 1 = 1 from rfl]
        generalize hE : span letterB t 1 = E at *
        cases h1 : decide (E = 1) with
        | true =>
          have h1' := of_decide_eq_true h1
          subst h1'
          simp [g0, g2, g4, i0, hdg, h39, iparts, bl31a, hb0, istore, Value.cells, plain1, overlay, fin, iresult1, tokV, Tk.ref]
          exact f1.set (Nat.le_refl _) _
        | false =>
          have h1' := of_decide_eq_false h1
          have h1D : decide ((E : Int) = 1) = false := decide_eq_false (by omega)
          have hlt : 1 < E := by omega
          simp [g0, g2, g4, i0, hdg, h39, slE, h1D, hlt, iparts, bl31c, hb0, istore, Value.cells, plain1, overlay, fin, iresult1, tokV, Tk.ref]
          exact f1.set (Nat.le_refl _) _
      · simp only [if_neg h39]
        have h39D : decide (bt t 0 = 39) = false := decide_eq_false h39
        have hBb : (H.push tok0).next = H.next + 1 := rfl
        by_cases hw : smallB (bt t 0) = true ∨ greatB (bt t 0) = true
        · rw [if_pos (by simpa using hw)]
          have sp : span letterB t 0 = span letterB t 1 := by rw [span_step letterB t 0 hp, bt_eq t 0 hp, letter_of_small hw]; rfl
          have hx0 : bt (t.extract 0 (span letterB t 1)) 0 = bt t 0 := by rw [bt_extract t 0 _ 0 (by omega) sE.2]
          rw [sp]
          have kg := kind_great (t.extract 0 (span letterB t 1))
          have ks := kind_small (t.extract 0 (span letterB t 1))
          rw [hx0] at kg ks
          generalize hE : span letterB t 1 = E at *
          generalize hx : t.extract 0 E = x at *
          cases hgr : greatB (bt t 0) with
          | true =>
            rw [kg hgr]
            simp [g0, g2, g4, i0, hd, h34D, h39D, hgr, slE, iparts, bl31c, hb0, istore, Value.cells, plain1, overlay, fin, iresult1, tokV, Tk.ref, guard_undef]
            exact f1.set (Nat.le_refl _) _
          | false =>
            have hsm : smallB (bt t 0) = true := by rcases hw with h | h; exact h; rw [hgr] at h; cases h
            rw [ks hgr]
            have b1 := bl67 (H.push tok0)
            have k1 := c38 ((H.push tok0).push (.cells (boolsL.map Value.string) 9 false)) (H.next + 1) 2 x boolsL false (IH.get_push_same (H.push tok0) _) (by decide)
            have hb1 : ((H.push tok0).push (.cells (boolsL.map Value.string) 9 false)).get H.next = some (.cells [.int .i64 0, .int .i64 0, .string ⟨#[]⟩, .int .i64 0] 31 false) := by rw [IH.get_push_other _ _ _ (by simp)]; exact hb0
            have f2 : Fr H.next H ((H.push tok0).push (.cells (boolsL.map Value.string) 9 false)) := f1.push (by simp) _
            generalize hH2 : (H.push tok0).push (.cells (boolsL.map Value.string) 9 false) = H2 at *
            have hn2 : H2.next = H.next + 2 := by rw [← hH2]; rfl
            have bl2 : boolsL.length = 2 := rfl
            rw [bl2] at k1
            cases ha : amongF x boolsL with
            | true =>
              rw [ha] at k1
              simp [g0, g2, g4, i0, hd, h34D, h39D, hgr, hsm, slE, iparts, b1, k1, bl31c, hb1, istore, Value.cells, plain1, overlay, fin, iresult1, tokV, Tk.ref]
              exact f2.set (Nat.le_refl _) _
            | false =>
              rw [ha] at k1
              have k2 := c39 H2
              have k3 := c38 (H2.push (.cells (wordsL.map Value.string) 9 false)) H2.next 20 x wordsL false (IH.get_push_same H2 _) (by decide)
              have hb2 : (H2.push (.cells (wordsL.map Value.string) 9 false)).get H.next = some (.cells [.int .i64 0, .int .i64 0, .string ⟨#[]⟩, .int .i64 0] 31 false) := by rw [IH.get_push_other _ _ _ (by omega)]; exact hb1
              have f3 : Fr H.next H (H2.push (.cells (wordsL.map Value.string) 9 false)) := f2.push (by omega) _
              have wl20 : wordsL.length = 20 := rfl
              rw [wl20] at k3
              generalize hH3 : H2.push (.cells (wordsL.map Value.string) 9 false) = H3 at *
              cases hb : amongF x wordsL with
              | true =>
                rw [hb] at k3
                simp [g0, g2, g4, i0, hd, h34D, h39D, hgr, hsm, slE, iparts, b1, k1, k2, k3, bl31c, hb2, istore, Value.cells, plain1, overlay, fin, iresult1, tokV, Tk.ref, isEff, oblig, veq]
                exact f3.set (Nat.le_refl _) _
              | false =>
                rw [hb] at k3
                simp [g0, g2, g4, i0, hd, h34D, h39D, hgr, hsm, slE, iparts, b1, k1, k2, k3, bl31c, hb2, istore, Value.cells, plain1, overlay, fin, iresult1, tokV, Tk.ref, isEff, oblig, veq]
                exact f3.set (Nat.le_refl _) _
        · rw [if_neg (by simpa using hw)]
          have hsm : smallB (bt t 0) = false := by cases h : smallB (bt t 0) <;> simp_all
          have hgr : greatB (bt t 0) = false := by cases h : greatB (bt t 0) <;> simp_all
          have k4 := c40 (H.push tok0)
          have hb1 : ((H.push tok0).push (.cells (signsL.map Value.string) 9 false)).get H.next = some (.cells [.int .i64 0, .int .i64 0, .string ⟨#[]⟩, .int .i64 0] 31 false) := by rw [IH.get_push_other _ _ _ (by simp)]; exact hb0
          have f2 : Fr H.next H ((H.push tok0).push (.cells (signsL.map Value.string) 9 false)) := f1.push (by simp) _
          have key := fun T => loop20_2 ((H.push tok0).push (.cells (signsL.map Value.string) 9 false)) t H.next (H.next + 1) 24 signsL false (by omega) (IH.get_push_same (H.push tok0) _) hb1 (by decide) _ 0 T rfl (by omega)
          generalize hH2 : (H.push tok0).push (.cells (signsL.map Value.string) 9 false) = H2 at *
          have sl24 : signsL.length = 24 := rfl
          rw [sl24] at key
          simp only [List.drop_zero] at key
          simp [g0, g2, g4, i0, hd, h34D, h39D, hgr, hsm, slE, k4, iparts, isEff, oblig, veq, wantedR, gD20_23_3]
          generalize hX : run J okAll (.loop L20_2) _ _ = X
          obtain ⟨T3, e3, m0, m2, m125, m126, m127⟩ : ∃ T3, run J okAll (.loop L20_2) T3 H2 = X ∧ T3.at 0 = .string t ∧ T3.at 2 = .pointer (some ⟨H.next, 0, none⟩) ∧ T3.at 125 = .slice (some ⟨H.next + 1, 0, none⟩) 24 24 ∧ T3.at 126 = .int .i64 ((24 : Nat) : Int) ∧ T3.at 127 = .int .i64 ((0 : Nat) : Int) :=
            ⟨_, hX, by simp [g0], by simp [g2], by simp, by simp, by simp⟩
          rw [← e3]
          clear hX
          rcases key T3 m0 m2 m125 m126 m127 with ⟨T4, n1, n2, n3⟩ | ⟨T4, x, n1, n2, n3, n4⟩
          · rw [n1, n2]
            simp [n3, iparts, bl31a, hb1, istore, Value.cells, plain1, overlay, fin, iresult1, tokV, Tk.ref, signT]
            exact f2.set (Nat.le_refl _) _
          · rw [n1, n2]
            simp [n3, n4, hb1, fin, iresult1, tokV, Tk.ref, signT]
            exact f2.set (Nat.le_refl _) _
end Go.Proofs.YtjbcjcibnjbpcaaDoor.Idl
namespace Go.Proofs.YtjbcjcibnjbpcaaDoor.Idl
open Go
set_option maxHeartbeats 8000000
set_option linter.unusedSimpArgs false
theorem span_suf (q : Int → Bool) (s : ByteArray) (p : Nat) : ∀ (n j : Nat), s.size - (p + j) = n → p + j ≤ s.size → span q s (p + j) = p + span q (s.extract p s.size) j := by
  intro n
  induction n with
  | zero => intro j h1 h2; rw [span_end q s _ (by omega), span_end q _ j (by rw [size_suf]; omega)]
  | succ n ih =>
    intro j h1 h2
    have hlt : j < (s.extract p s.size).size := by rw [size_suf]; omega
    rw [span_step q s (p + j) (by omega), span_step q _ j hlt, bt_eq s (p + j) (by omega), bt_eq _ j hlt, bt_suf s p j (by omega)]
    have := ih (j + 1) (by omega) (by omega)
    rw [show p + (j + 1) = p + j + 1 by omega] at this
    rw [this]
    split <;> rfl
theorem signF_suf (s : ByteArray) (p : Nat) : ∀ S : List ByteArray, signF s p S = signF (s.extract p s.size) 0 S := by
  intro S
  induction S with
  | nil => rfl
  | cons x S ih => simp only [signF]; rw [ih, suf_zero (s.extract p s.size)]
theorem tokF_suf (s : ByteArray) (p : Nat) (hp : p < s.size) : (tokF s p).ok = (tokF (s.extract p s.size) 0).ok ∧
    ((tokF s p).ok = true → tokF s p = { tokF (s.extract p s.size) 0 with fin := (tokF (s.extract p s.size) 0).fin + p }) := by
  have hb : bt (s.extract p s.size) 0 = bt s p := bt_suf s p 0 (by omega)
  have hz := size_suf s p
  have sp := fun q j (h : p + j ≤ s.size) => span_suf q s p _ j rfl h
  have sr := fun q j (h : j ≤ (s.extract p s.size).size) => span_range q (s.extract p s.size) j h
  have ex : ∀ e, p + e ≤ s.size → (s.extract p s.size).extract 0 e = s.extract p (p + e) := fun e he => by rw [ext_ext s p 0 e he]; rfl
  unfold tokF
  rw [hb]
  cases hd : digitB (bt s p) with
  | true =>
    simp only [if_true]
    have e0 := sp digitB 0 (by omega)
    rw [Nat.add_zero] at e0
    have r0 := sr digitB 0 (by omega)
    rw [e0, ← ex _ (by omega)]
    generalize numF ((s.extract p s.size).extract 0 (span digitB (s.extract p s.size) 0)) (((s.extract p s.size).extract 0 (span digitB (s.extract p s.size) 0)).size + 1) 0 0 = r
    cases r with
    | none => exact ⟨rfl, fun h => by cases h⟩
    | some r =>
      simp only [numT]
      by_cases h63 : r < 9223372036854775808
      · rw [if_pos h63, if_pos h63]; exact ⟨rfl, fun _ => by simp only [Tk.mk.injEq, true_and, and_true]; omega⟩
      · rw [if_neg h63, if_neg h63]; exact ⟨rfl, fun h => by cases h⟩
  | false =>
    simp only [Bool.false_eq_true, if_false]
    by_cases h34 : bt s p = 34
    · simp only [if_pos h34]
      have e1 := txtF_suf s p (by omega) (s.size + 1) 1 []
      rw [txtF_fuel (s.extract p s.size) (s.size + 1) ((s.extract p s.size).size + 1) 1 [] (by omega) (by omega)] at e1
      rw [e1, Nat.zero_add]
      cases txtF (s.extract p s.size) ((s.extract p s.size).size + 1) 1 [] with
      | none => exact ⟨rfl, fun h => by cases h⟩
      | some q => exact ⟨rfl, fun _ => rfl⟩
    · simp only [if_neg h34]
      by_cases h39 : bt s p = 39
      · simp only [if_pos h39]
        have e0 := sp letterB 1 (by omega)
        have r0 := sr letterB 1 (by omega)
        rw [e0, Nat.zero_add, ← ex _ (by omega)]
        refine ⟨?_, fun h => ?_⟩
        · rw [decide_eq_decide]; omega
        · simp only [Tk.mk.injEq, true_and]
          exact ⟨by omega, by rw [decide_eq_decide]; omega⟩
      · simp only [if_neg h39]
        have e0 := sp letterB 0 (by omega)
        rw [Nat.add_zero] at e0
        have r0 := sr letterB 0 (by omega)
        split
        · rw [e0, ← ex _ (by omega)]
          exact ⟨rfl, fun _ => by simp only [Tk.mk.injEq, true_and, and_true]; omega⟩
        · rw [signF_suf s p]
          cases signF (s.extract p s.size) 0 signsL with
          | none => exact ⟨rfl, fun h => by cases h⟩
          | some x => exact ⟨rfl, fun _ => by simp only [signT, Tk.mk.injEq, true_and, and_true]; omega⟩
/-! ### Blanks -/
def blankB (c : Int) : Bool := decide (c = 32) || decide (c = 9) || decide (c = 10) || decide (c = 13)
theorem skipL_fuel (s : ByteArray) : ∀ (n m p : Nat), s.size < n + p → s.size < m + p → skipL s n p = skipL s m p := by
  intro n
  induction n with
  | zero =>
    intro m p h1 h2
    cases m with
    | zero => rfl
    | succ m => simp only [skipL]; rw [dif_neg (by omega)]
  | succ n ih =>
    intro m p h1 h2
    cases m with
    | zero => simp only [skipL]; rw [dif_neg (by omega)]
    | succ m =>
      simp only [skipL]
      have h3 := remL_nonneg s (s.size + 1) p 0
      rw [ih m (p + 1) (by omega) (by omega)]
      by_cases hr : remL s (s.size + 1) 0 p < 0
      · simp only [hr, if_true]
      · rw [ih m (remL s (s.size + 1) 0 p).toNat (by omega) (by omega)]
end Go.Proofs.YtjbcjcibnjbpcaaDoor.Idl
namespace Go.Proofs.YtjbcjcibnjbpcaaDoor.Idl
open Go
set_option maxHeartbeats 8000000
set_option maxRecDepth 100000
set_option linter.unusedSimpArgs false
theorem blank_all : ∀ n : Fin 256, decide (0 ≤ idxB ⟨#[32, 9, 10, 13]⟩ ((n.val : Nat) : Int)) = blankB ((n.val : Nat) : Int) := by decide
theorem blank_eq (c : UInt8) : decide (0 ≤ idxB ⟨#[32, 9, 10, 13]⟩ ((c.toNat : Nat) : Int)) = blankB ((c.toNat : Nat) : Int) := blank_all ⟨c.toNat, c.toNat_lt⟩
theorem skip_step (s : ByteArray) (p : Nat) (hp : p < s.size) : skipL s (s.size + 1) p =
    if blankB (bt s p) then skipL s (s.size + 1) (p + 1)
    else if prefixB (s.extract p s.size) ⟨#[40, 42]⟩ then (if remS (s.extract p s.size) < 0 then (p, (p : Int)) else skipL s (s.size + 1) (p + (remS (s.extract p s.size)).toNat))
    else (p, -1) := by
  have e : skipL s (s.size + 1) p = if 0 ≤ idxB ⟨#[32, 9, 10, 13]⟩ (s[p]).toNat then skipL s s.size (p + 1)
      else if prefixB (s.extract p s.size) ⟨#[40, 42]⟩ then (if remL s (s.size + 1) 0 p < 0 then (p, (p : Int)) else skipL s s.size (remL s (s.size + 1) 0 p).toNat)
      else (p, -1) := by simp only [skipL]; rw [dif_pos hp]
  rw [e]
  have hb := blank_eq s[p]
  rw [bt_eq s p hp] at hb ⊢
  rw [← hb]
  by_cases h1 : 0 ≤ idxB ⟨#[32, 9, 10, 13]⟩ (bt s p)
  · rw [if_pos h1, if_pos (by simp [h1])]
    exact skipL_fuel s _ _ _ (by omega) (by omega)
  · rw [if_neg h1, if_neg (show ¬ decide (0 ≤ idxB ⟨#[32, 9, 10, 13]⟩ (bt s p)) = true by simp [h1])]
    by_cases h2 : prefixB (s.extract p s.size) ⟨#[40, 42]⟩ = true
    · rw [if_pos h2, if_pos h2]
      have hr := remL_suf s p (by omega) (s.size + 1) 0 0
      rw [show p + 0 = p from rfl, remL_fuel (s.extract p s.size) (s.size + 1) ((s.extract p s.size).size + 1) 0 0 (by rw [size_suf]; omega) (by omega)] at hr
      have hS : remS (s.extract p s.size) = remL (s.extract p s.size) ((s.extract p s.size).size + 1) 0 0 := if_pos h2
      rw [hr, ← hS]
      have hg := remL_gt s (s.size + 1) p (remL s (s.size + 1) 0 p).toNat 0
      rw [hr, ← hS] at hg
      generalize remS (s.extract p s.size) = r at *
      by_cases h3 : r < 0
      · rw [if_pos h3, if_pos h3, if_pos (by omega)]
      · rw [if_neg h3] at hg
        have hg := hg (by omega)
        rw [if_neg h3, if_neg h3, if_neg (by omega)]
        rw [show (r + (p : Int)).toNat = p + r.toNat by omega]
        exact skipL_fuel s _ _ _ (by omega) (by omega)
    · rw [if_neg h2, if_neg h2]
theorem remS_zero (t : ByteArray) : remS t = 0 ↔ prefixB t ⟨#[40, 42]⟩ = false := by
  unfold remS
  cases h : prefixB t ⟨#[40, 42]⟩ with
  | false => simp
  | true =>
    have := remL_nonneg t (t.size + 1) 0 0
    simp only [if_true]
    constructor
    · intro e; omega
    · intro e; cases e
theorem lexF_skip (s : ByteArray) (p p' : Nat) (h : skipL s (s.size + 1) p = skipL s (s.size + 1) p') (k : Nat) (acc : List (Nat × Tk)) : lexF s k p acc = lexF s k p' acc := by
  cases k with
  | zero => rfl
  | succ k => simp only [lexF]; rw [h]
theorem lexF_blank (s : ByteArray) (p : Nat) (hp : p < s.size) (hb : blankB (bt s p) = true) (k : Nat) (acc : List (Nat × Tk)) : lexF s k p acc = lexF s k (p + 1) acc :=
  lexF_skip s p (p + 1) (by rw [skip_step s p hp, if_pos hb]) k acc
theorem remS_pre (t : ByteArray) (h : remS t ≠ 0) : prefixB t ⟨#[40, 42]⟩ = true := by
  cases h2 : prefixB t ⟨#[40, 42]⟩ with
  | true => rfl
  | false => exact absurd ((remS_zero _).2 h2) h
theorem lexF_remark (s : ByteArray) (p : Nat) (hp : p < s.size) (hb : blankB (bt s p) = false) (hr : 0 < remS (s.extract p s.size)) (k : Nat) (acc : List (Nat × Tk)) :
    lexF s k p acc = lexF s k (p + (remS (s.extract p s.size)).toNat) acc := by
  have h2 := remS_pre (s.extract p s.size) (by omega)
  refine lexF_skip s p _ ?_ k acc
  rw [skip_step s p hp, hb, h2]
  simp only [Bool.false_eq_true, if_false, if_true]
  rw [if_neg (by omega)]
theorem lexF_open (s : ByteArray) (p : Nat) (hp : p < s.size) (hb : blankB (bt s p) = false) (hr : remS (s.extract p s.size) < 0) (k : Nat) (acc : List (Nat × Tk)) : lexF s (k + 1) p acc = .err 10 p := by
  have h2 := remS_pre (s.extract p s.size) (by omega)
  have e : skipL s (s.size + 1) p = (p, (p : Int)) := by
    rw [skip_step s p hp, hb, h2]
    simp only [Bool.false_eq_true, if_false, if_true]
    rw [if_pos hr]
  simp only [lexF]
  rw [e]
  simp
theorem lexF_end (s : ByteArray) (p : Nat) (hp : s.size ≤ p) (hp2 : p ≤ s.size) (k : Nat) (acc : List (Nat × Tk)) : lexF s (k + 1) p acc = .ok acc := by
  have e : skipL s (s.size + 1) p = (p, -1) := by simp only [skipL]; rw [dif_neg (by omega)]
  have hps : p = s.size := by omega
  simp only [lexF]
  rw [e]
  simp [hps]
theorem lexF_tok (s : ByteArray) (p : Nat) (hp : p < s.size) (hb : blankB (bt s p) = false) (hr : remS (s.extract p s.size) = 0) (k : Nat) (acc : List (Nat × Tk)) :
    lexF s (k + 1) p acc = if (tokF s p).ok = false then .err 10 p else if acc.length = 4000 then .err 2 p else lexF s k (tokF s p).fin (acc ++ [(p, tokF s p)]) := by
  have h2 := (remS_zero _).1 hr
  have e : skipL s (s.size + 1) p = (p, -1) := by
    rw [skip_step s p hp, hb, h2]
    rfl
  have hne : ¬ p = s.size := by omega
  simp only [lexF]
  rw [e]
  simp only [hne, if_false]
  rfl
end Go.Proofs.YtjbcjcibnjbpcaaDoor.Idl
namespace Go.Proofs.YtjbcjcibnjbpcaaDoor.Idl
open Go
set_option maxHeartbeats 16000000
set_option linter.unusedSimpArgs false
theorem loop14 (s : ByteArray) (lo : Nat) (hs : s.size < 2 ^ 38) : ∀ (N p k : Nat) (acc : List (Nat × Tk)) (H : IH) (T : Regs) (v : Value),
    s.size - p < N → s.size < k + p → p ≤ s.size → acc.length ≤ 4000 → lo ≤ H.next → TksAt H v acc lo →
    T.at 0 = .string s → T.at 5 = v → T.at 6 = .int .i64 (p : Int) →
    (∃ T' H', run J okAll (.loop L14_0) T H = some (.exit 0, T', H') ∧ Fr lo H H' ∧ (∃ l, lexF s k p acc = .ok l ∧ TksAt H' (T'.at 5) l lo)) ∨
    ∃ T' H', run J okAll (.loop L14_0) T H = some (.ret, T', H') ∧ Fr lo H H' ∧ T'.at 3 = .int .i64 (lexF s k p acc).errno ∧ T'.at 4 = .int .i64 ((lexF s k p acc).pos : Int) ∧ TksAt H' (T'.at 2) (lexF s k p acc).toks lo := by
  intro N
  induction N with
  | zero => intro p k acc H T v h1; omega
  | succ N ih =>
    intro p k acc H T v h1 hk hp hac hlo hv t0 t5 t6
    have nil : ∀ H : IH, TksAt H (.slice none 0 0) [] lo := fun H => ⟨by simp, .inl ⟨rfl, rfl⟩⟩
    cases k with
    | zero => omega
    | succ k =>
    by_cases hlt : p < s.size
    · have i0 := idxS_bt s p hlt
      have w1 : IntKind.i64.wrap ((p : Int) + 1) = (p : Int) + 1 := wrap64 _ (by omega) (by omega)
      have hsl := sliceS_some s p s.size (by omega) (by omega)
      cases hb : blankB (bt s p) with
      | true =>
        have : ∃ T1, run J okAll (.loop L14_0) T H = run J okAll (.loop L14_0) T1 H ∧ T1.at 0 = .string s ∧ T1.at 5 = v ∧ T1.at 6 = .int .i64 ((p : Int) + 1) := by
          unfold blankB at hb
          rw [r_loop]
          cases c1 : decide (bt s p = 32) with
          | true =>
            have c1' := of_decide_eq_true c1
            simp [L14_0, t0, t5, t6, hlt, i0, w1, c1']
            exact ⟨_, rfl, by simp [t0], by simp [t5], by simp⟩
          | false =>
          cases c2 : decide (bt s p = 9) with
          | true =>
            have c2' := of_decide_eq_true c2
            simp [L14_0, t0, t5, t6, hlt, i0, w1, c2']
            exact ⟨_, rfl, by simp [t0], by simp [t5], by simp⟩
          | false =>
          cases c3 : decide (bt s p = 10) with
          | true =>
            have c3' := of_decide_eq_true c3
            simp [L14_0, t0, t5, t6, hlt, i0, w1, c3']
            exact ⟨_, rfl, by simp [t0], by simp [t5], by simp⟩
          | false =>
            rw [c1, c2, c3] at hb
            have c4' : bt s p = 13 := by simpa using hb
            simp [L14_0, t0, t5, t6, hlt, i0, w1, c4']
            exact ⟨_, rfl, by simp [t0], by simp [t5], by simp⟩
        obtain ⟨T1, e0, f0, f5, f6⟩ := this
        rw [e0, lexF_blank s p hlt hb]
        exact ih (p + 1) (k + 1) acc H T1 v (by omega) (by omega) (by omega) hac hlo hv f0 f5 (by rw [f6]; simp)
      | false =>
        have hb0 := hb
        unfold blankB at hb
        simp only [Bool.or_eq_false_iff] at hb
        obtain ⟨⟨⟨c1, c2⟩, c3⟩, c4⟩ := hb
        have k24 := fun H => c24 H (s.extract p s.size) (by rw [size_suf]; omega)
        have hrl := remL_suf s p (by omega) ((s.extract p s.size).size + 1) 0 0
        have hle := remL_le s ((s.extract p s.size).size + 1) p 0
        generalize hrr : remS (s.extract p s.size) = r at *
        cases hneg : decide (r < 0) with
        | true =>
          have hneg' := of_decide_eq_true hneg
          right
          rw [lexF_open s p hlt hb0 (by rw [hrr]; exact hneg')]
          have : ∃ T', run J okAll (.loop L14_0) T H = some (.ret, T', H) ∧ T'.at 3 = .int .i64 10 ∧ T'.at 4 = .int .i64 (p : Int) ∧ T'.at 2 = .slice none 0 0 := by
            rw [r_loop]
            simp [L14_0, t0, t5, t6, hlt, i0, w1, c1, c2, c3, c4, hsl, k24, hneg]
          obtain ⟨T', e, a3, a4, a2⟩ := this
          exact ⟨T', H, e, Fr.refl _ _, a3, a4, by rw [a2]; exact nil _⟩
        | false =>
        have hneg' := of_decide_eq_false hneg
        cases hpos : decide (0 < r) with
        | true =>
          have hpos' := of_decide_eq_true hpos
          have hpre := remS_pre (s.extract p s.size) (by omega)
          have hS : r = remL (s.extract p s.size) ((s.extract p s.size).size + 1) 0 0 := by rw [← hrr]; exact if_pos hpre
          rw [show p + 0 = p from rfl] at hrl
          rw [← hS, if_neg hneg'] at hrl
          have w2 : IntKind.i64.wrap ((p : Int) + r) = (p : Int) + r := wrap64 _ (by omega) (by omega)
          have : ∃ T1, run J okAll (.loop L14_0) T H = run J okAll (.loop L14_0) T1 H ∧ T1.at 0 = .string s ∧ T1.at 5 = v ∧ T1.at 6 = .int .i64 ((p : Int) + r) := by
            rw [r_loop]
            simp [L14_0, t0, t5, t6, hlt, i0, w1, w2, c1, c2, c3, c4, hsl, k24, hneg, hpos]
            exact ⟨_, rfl, by simp [t0], by simp [t5], by simp⟩
          obtain ⟨T1, e0, f0, f5, f6⟩ := this
          rw [e0, lexF_remark s p hlt hb0 (by rw [hrr]; exact hpos'), hrr]
          exact ih (p + r.toNat) (k + 1) acc H T1 v (by omega) (by omega) (by omega) hac hlo hv f0 f5 (by rw [f6]; congr 1; omega)
        | false =>
          have hpos' := of_decide_eq_false hpos
          have hr0 : r = 0 := by omega
          subst hr0
          obtain ⟨H2, f2, e20⟩ := c20 H (s.extract p s.size) (by rw [size_suf]; omega) (by rw [size_suf]; omega)
          obtain ⟨so, ss⟩ := tokF_suf s p hlt
          have hlo2 : lo ≤ H2.next := by have := f2.1; omega
          have hv2 : TksAt H2 v acc lo := hv.mono f2.1 (fun x _ hx2 => f2.2 x hx2)
          have hf2 : Fr lo H H2 := (Fr.refl lo H).trans' f2 hlo
          rw [lexF_tok s p hlt hb0 hrr]
          have hte := tokF_end s p hlt
          have hvl : ∃ ba c, v = .slice ba acc.length c := by
            rcases hv.2 with ⟨h1, h⟩ | ⟨bb, _, _, h, _⟩
            · rw [List.map_eq_nil_iff] at h; subst h; exact ⟨_, _, h1⟩
            · rw [List.length_map] at h; exact ⟨_, _, h⟩
          obtain ⟨ba, cv, hvs⟩ := hvl
          subst hvs
          cases hok : (tokF s p).ok with
          | false =>
            rw [hok] at so
            have hrf : (tokF (s.extract p s.size) 0).ref = .tuple #[tokV 0 0 ⟨#[]⟩ 0, .int .i64 0] := by unfold Tk.ref; rw [← so]; rfl
            rw [hrf] at e20
            right
            rw [if_pos rfl]
            have : ∃ T' H', run J okAll (.loop L14_0) T H = some (.ret, T', H') ∧ Fr lo H H' ∧ T'.at 3 = .int .i64 10 ∧ T'.at 4 = .int .i64 (p : Int) ∧ T'.at 2 = .slice none 0 0 := by
              rw [r_loop]
              simp [L14_0, t0, t5, t6, hlt, i0, w1, c1, c2, c3, c4, hsl, k24, e20, tokV, inew, istore, Value.cells, plain1, overlay, IH.get_push]
              exact ⟨_, _, ⟨rfl, rfl⟩, by
                repeat (first | refine Fr.set ?_ (by omega) _ | refine Fr.push ?_ (by first | omega | (simp; omega)) _)
                exact hf2, by simp, by simp, by simp⟩
            obtain ⟨T', H', e, a1, a3, a4, a2⟩ := this
            exact ⟨T', H', e, a1, a3, a4, by rw [a2]; exact nil _⟩
          | true =>
            have hte := hte hok
            have ss := ss hok
            rw [hok] at so
            rw [if_neg (by simp)]
            generalize hTk : tokF (s.extract p s.size) 0 = tk at *
            rw [ss] at hte ⊢
            have hrf : tk.ref = .tuple #[tokV tk.kind 0 tk.text tk.n, .int .i64 (tk.fin : Int)] := by unfold Tk.ref; rw [← so]; rfl
            rw [hrf] at e20
            simp only at hte
            have hfn : ¬ tk.fin = 0 := by omega
            by_cases h4k : acc.length = 4000
            · right
              rw [if_pos h4k]
              have h4D : (4000 : Int) ≤ acc.length := by omega
              have : ∃ T' H', run J okAll (.loop L14_0) T H = some (.ret, T', H') ∧ Fr lo H H' ∧ T'.at 3 = .int .i64 2 ∧ T'.at 4 = .int .i64 (p : Int) ∧ T'.at 2 = .slice none 0 0 := by
                rw [r_loop]
                simp [L14_0, t0, t5, t6, hlt, i0, w1, c1, c2, c3, c4, hsl, k24, e20, tokV, inew, istore, Value.cells, plain1, overlay, IH.get_push, hfn, h4D]
                exact ⟨_, _, ⟨rfl, rfl⟩, by
                  repeat (first | refine Fr.set ?_ (by omega) _ | refine Fr.push ?_ (by first | omega | (simp; omega)) _)
                  exact hf2, by simp, by simp, by simp⟩
              obtain ⟨T', H', e, a1, a3, a4, a2⟩ := this
              exact ⟨T', H', e, a1, a3, a4, by rw [a2]; exact nil _⟩
            · rw [if_neg h4k]
              have h4D : ¬ (4000 : Int) ≤ acc.length := by omega
              have w3 : IntKind.i64.wrap ((p : Int) + tk.fin) = (p : Int) + tk.fin := wrap64 _ (by omega) (by omega)
              have hvp : TksAt (H2.push (.cells [.int .i64 tk.kind, .int .i64 (p : Int), .string tk.text, .int .i64 tk.n] 31 false)) (.slice ba acc.length cv) acc lo := hv2.mono (by simp) (fun x hx1 hx2 => IH.get_push_other _ _ _ hx2)
              obtain ⟨v', H3, ea, hv3, hn3, hf3⟩ := rsApp rt23 hvp (by simp; omega) (by simp; omega) (tkC (p, { tk with fin := tk.fin + p })) rfl (by simp [tkC, plain1])
              simp only [tkC, IH.next_push] at ea
              have : ∃ T1, run J okAll (.loop L14_0) T H = run J okAll (.loop L14_0) T1 H3 ∧ T1.at 0 = .string s ∧ T1.at 5 = v' ∧ T1.at 6 = .int .i64 ((p : Int) + tk.fin) := by
                rw [r_loop]
                simp [L14_0, t0, t5, t6, hlt, i0, w1, w3, c1, c2, c3, c4, hsl, k24, e20, tokV, inew, istore, Value.cells, plain1, overlay, IH.get_push, hfn, h4D, iparts, bs23, push_set, ea]
                exact ⟨_, rfl, by simp [t0], by simp, by simp⟩
              obtain ⟨T1, e0, f0, f5, f6⟩ := this
              rw [e0]
              have hn3' : H2.next + 1 ≤ H3.next := by simpa using hn3
              have hfa : Fr lo H H3 := by
                refine ⟨by have := hf2.1; omega, fun x hx => ?_⟩
                rw [hf3 x hx, IH.get_push_other _ _ _ (by omega)]
                exact hf2.2 x hx
              have := ih (tk.fin + p) k (acc ++ [(p, { tk with fin := tk.fin + p })]) H3 T1 v' (by omega) (by omega) (by omega) (by simp; omega) (by omega)
                (by unfold TksAt; rw [List.map_append]; exact hv3) f0 f5 (by rw [f6]; congr 1; omega)
              rcases this with ⟨T', H', r1, r2, r3⟩ | ⟨T', H', r1, r2, r3⟩
              · exact .inl ⟨T', H', r1, hfa.trans r2, r3⟩
              · exact .inr ⟨T', H', r1, hfa.trans r2, r3⟩
    · left
      rw [lexF_end s p (by omega) hp]
      have : ∃ T', run J okAll (.loop L14_0) T H = some (.exit 0, T', H) ∧ T'.at 5 = v := by
        rw [r_loop]
        simp [L14_0, t0, t5, t6, hlt]
      obtain ⟨T', e, a⟩ := this
      exact ⟨T', H, e, Fr.refl _ _, acc, rfl, by rw [a]; exact hv⟩
theorem c14 (H : IH) (s : ByteArray) (hs : s.size < 2 ^ 38) :
    ∃ H' v, Fr H.next H H' ∧ cal J okAll 14 #[.string s] H = some (.ret (.tuple #[v, .int .i64 (lexR s).errno, .int .i64 ((lexR s).pos : Int)]), H') ∧ TksAt H' v (lexR s).toks H.next := by
  unfold lexR
  rw [cal14 _ _ (by simp)]
  by_cases hbig : 16384 < s.size
  · rw [if_pos hbig]
    refine ⟨H, .slice none 0 0, Fr.refl _ _, ?_, ⟨by simp [LR.toks], .inl ⟨rfl, rfl⟩⟩⟩
    have hbD : decide ((16384 : Int) < s.size) = true := decide_eq_true (by omega)
    simp [C14, R14, regsOf, fin, iresult1, hbD, LR.errno, LR.pos]
  · rw [if_neg hbig]
    have hbD : decide ((16384 : Int) < s.size) = false := decide_eq_false (by omega)
    have key := fun T v => loop14 s H.next hs (s.size + 1) 0 (s.size + 1) [] H T v (by omega) (by omega) (by omega) (by simp) (Nat.le_refl _)
    simp [C14, R14, regsOf, fin, iresult1, hbD]
    generalize hX : run J okAll (.loop L14_0) _ _ = X
    obtain ⟨T1, e2, t0, t5, t6⟩ : ∃ T1, run J okAll (.loop L14_0) T1 H = X ∧ T1.at 0 = .string s ∧ T1.at 5 = .slice none 0 0 ∧ T1.at 6 = .int .i64 ((0 : Nat) : Int) :=
      ⟨_, hX, by simp, by simp, by simp⟩
    rw [← e2]
    rcases key T1 _ ⟨by simp, .inl ⟨rfl, rfl⟩⟩ t0 t5 t6 with ⟨T', H', r1, r2, l, r3, r4⟩ | ⟨T', H', r1, r2, r3, r4, r5⟩
    · rw [r1, r3]
      simp [LR.errno, LR.pos, LR.toks, fin, iresult1]
      exact ⟨_, r2, _, ⟨rfl, rfl⟩, r4⟩
    · rw [r1]
      simp [r3, r4, fin, iresult1]
      exact ⟨_, r2, _, ⟨rfl, rfl⟩, r5⟩
end Go.Proofs.YtjbcjcibnjbpcaaDoor.Idl
namespace Go.Proofs.YtjbcjcibnjbpcaaDoor.Idl
open Go
set_option maxHeartbeats 8000000
set_option linter.unusedSimpArgs false
theorem pu {t : TypeId} {d : TypeDesc} (h : J.und t = some d) : pureRun J.P (underlying t) = some d := by
  have := J.und_ok h
  unfold underlying
  rw [pureRun_bind]
  show Option.bind (some J.P) _ = _
  simp only [Option.bind_some, this]
  rfl
theorem pint (d : Nat) (t : TypeId) (k0 k : IntKind) (a b : Int) (h : J.und t = some (.int k0)) : pureRun J.P (Op.equalIn (d + 1) t (.int k a) (.int k b)) = some (a == b) := by
  unfold Op.equalIn
  rw [pureRun_bind, pu h]
  simp only [Option.bind_some, if_true]
  rfl
theorem pstr (d : Nat) (t : TypeId) (a b : ByteArray) (h : J.und t = some .string) : pureRun J.P (Op.equalIn (d + 1) t (.string a) (.string b)) = some (a == b) := by
  unfold Op.equalIn
  rw [pureRun_bind, pu h]
  rfl
theorem ppart (t : TypeId) (cs : Array Value) (off : Nat) (v : Value) (h : isAggT J t = some false) (hv : cs[off]? = some v) : pureRun J.P (part t cs off) = some v := by
  unfold part
  have : pureRun J.P (isAgg t) = some false := by
    unfold isAggT at h
    unfold isAgg
    cases hu : J.und t with
    | none => rw [hu] at h; cases h
    | some d => rw [hu] at h; rw [pureRun_bind, pu hu]; cases d <;> first | rfl | cases h
  rw [pureRun_bind, this]
  simp only [Option.bind_some, Bool.false_eq_true, if_false, hv]
  rfl
def fields31 : Array Field := #[{ name := "Kind", type := 3, offset := 0, embedded := false, tag := "", pkgPath := "", byteOffset := 0 }, { name := "At", type := 3, offset := 1, embedded := false, tag := "", pkgPath := "", byteOffset := 8 }, { name := "Text", type := 9, offset := 2, embedded := false, tag := "", pkgPath := "", byteOffset := 16 }, { name := "N", type := 2, offset := 3, embedded := false, tag := "", pkgPath := "", byteOffset := 32 }]
theorem und31 : J.und 31 = some (.struct fields31) := id rfl
theorem forIn_yield {α : Type} (body : α → Option Bool × Unit → Sem (ForInStep (Option Bool × Unit))) : ∀ l : List α, (∀ f ∈ l, pureRun J.P (body f (none, ())) = some (.yield (none, ()))) → pureRun J.P (forIn l (none, ()) body) = some (none, ()) := by
  intro l
  induction l with
  | nil => intro _; rfl
  | cons a l ih =>
    intro h
    rw [List.forIn_cons, pureRun_bind, h a (by simp)]
    exact ih (fun f hf => h f (by simp [hf]))
theorem pequal_struct (d : Nat) (t : TypeId) (fs : Array Field) (xs : Array Value) (hu : J.und t = some (.struct fs)) (hst : J.P.stoodInHeld t = false)
    (h : ∀ f ∈ fs.toList, ∃ v, pureRun J.P (part f.type xs f.offset) = some v ∧ pureRun J.P (Op.equalIn d f.type v v) = some true) : pureRun J.P (Op.equalIn (d + 1) t (.agg xs) (.agg xs)) = some true := by
  unfold Op.equalIn
  rw [pureRun_bind, pu hu]
  simp only [Option.bind_some]
  rw [pureRun_bind]
  show Option.bind (some J.P) _ = _
  simp only [Option.bind_some, hst, Bool.false_eq_true, if_false]
  rw [pureRun_bind, ← Array.forIn_toList, forIn_yield]
  · rfl
  · intro f hf
    obtain ⟨v, h1, h2⟩ := h f hf
    by_cases hn : f.name ≠ "_"
    · rw [if_pos hn, pureRun_bind, h1]
      simp only [Option.bind_some]
      rw [pureRun_bind, h1]
      simp only [Option.bind_some]
      rw [pureRun_bind, h2]
      rfl
    · rw [if_neg hn]; rfl
theorem pequal (d : Nat) (k p n : Int) (x : ByteArray) : pureRun J.P (Op.equalIn (d + 2) 31 (.agg #[.int .i64 k, .int .i64 p, .string x, .int .i64 n]) (.agg #[.int .i64 k, .int .i64 p, .string x, .int .i64 n])) = some true := by
  refine pequal_struct (d + 1) 31 fields31 _ und31 (by kernel_rfl) (fun f hf => ?_)
  have e3 : ∀ a : Int, pureRun J.P (Op.equalIn (d + 1) 3 (.int .i64 a) (.int .i64 a)) = some true := fun a => by rw [pint d 3 .i64 .i64 a a (by simp)]; simp
  have e2 : ∀ a : Int, pureRun J.P (Op.equalIn (d + 1) 2 (.int .i64 a) (.int .i64 a)) = some true := fun a => by rw [pint d 2 .i64 .i64 a a (by simp)]; simp
  have e9 : pureRun J.P (Op.equalIn (d + 1) 9 (.string x) (.string x)) = some true := by rw [pstr d 9 x x (by simp), ba_self]
  simp only [fields31, List.mem_cons, List.not_mem_nil, or_false] at hf
  rcases hf with rfl | rfl | rfl | rfl
  · exact ⟨_, ppart 3 _ 0 _ (by simp) rfl, e3 k⟩
  · exact ⟨_, ppart 3 _ 1 _ (by simp) rfl, e3 p⟩
  · exact ⟨_, ppart 9 _ 2 _ (by simp) rfl, e9⟩
  · exact ⟨_, ppart 2 _ 3 _ (by simp) rfl, e2 n⟩
theorem guard31 (op : BinOp) (x y : Operand) (a b : Array Value) (ho : op = .eql ∨ op = .neq) : pureRun J.P (eqGuard op 31 x y (.agg a) (.agg b)) = some () := by
  have h : J.P.eqGuardType J.P.depth 31 = false := by kernel_rfl
  unfold eqGuard
  rcases ho with rfl | rfl
  all_goals
    simp only [Bool.not_true, Bool.false_eq_true, if_false]
    rw [pureRun_bind]
    show Option.bind (some J.P) _ = _
    simp only [Option.bind_some]
    rw [pureRun_bind]
    show Option.bind (some J.P) _ = _
    simp only [Option.bind_some, h]
    rfl
theorem binR_pure2 {op : BinOp} {t : TypeId} {x y : Operand} {a b v : Value} {H : IH} (hn : nilEq a b = none) (hf : (flat a && flat b) = true) (hg : pureRun J.P (eqGuard op t x y a b) = some ()) (hb : pureRun J.P (binOp op t a b) = some v) (hv : flat v = true) :
    binR J op t x y a b H = some (.val v H) := by
  have : pureR (pureRun J.P (do eqGuard op t x y a b; binOp op t a b)) H = some (.val v H) := by
    rw [pureRun_bind, hg]
    simp only [Option.bind_some, hb, pureR, hv, if_true]
  unfold binR
  rw [hn]
  cases op <;> simp only [hf, if_true] <;> exact this
@[simp] theorem neq31 (x y : Operand) (k p n : Int) (s : ByteArray) (H : IH) : binR J .neq 31 x y (.agg #[.int .i64 k, .int .i64 p, .string s, .int .i64 n]) (.agg #[.int .i64 k, .int .i64 p, .string s, .int .i64 n]) H = some (.val (.bool false) H) := by
  refine binR_pure2 rfl (by simp [flat, flatN]) (guard31 .neq x y _ _ (.inr rfl)) ?_ rfl
  show pureRun J.P (do pure (Value.bool (!(← Op.equal 31 _ _))) : Sem Value) = _
  rw [pureRun_bind]
  have := pequal 9998 k p n s
  unfold Op.equal Op.maxDepth
  rw [this]; rfl
@[simp] theorem eql31 (x y : Operand) (k p n : Int) (s : ByteArray) (H : IH) : binR J .eql 31 x y (.agg #[.int .i64 k, .int .i64 p, .string s, .int .i64 n]) (.agg #[.int .i64 k, .int .i64 p, .string s, .int .i64 n]) H = some (.val (.bool true) H) := by
  refine binR_pure2 rfl (by simp [flat, flatN]) (guard31 .eql x y _ _ (.inl rfl)) ?_ rfl
  show pureRun J.P (do pure (Value.bool (← Op.equal 31 _ _)) : Sem Value) = _
  rw [pureRun_bind]
  have := pequal 9998 k p n s
  unfold Op.equal Op.maxDepth
  rw [this]; rfl
end Go.Proofs.YtjbcjcibnjbpcaaDoor.Idl
namespace Go.Proofs.YtjbcjcibnjbpcaaDoor.Idl
open Go
set_option maxHeartbeats 8000000
set_option linter.unusedSimpArgs false
def cutF (s : ByteArray) : ByteArray := if 3000 < s.size then s.extract 0 3000 else s
theorem c12 (H : IH) (s : ByteArray) : cal J okAll 12 #[.string s] H = some (.ret (.string (cutF s)), H) := by
  rw [cal12 _ _ (by simp)]
  unfold cutF
  by_cases h : 3000 < s.size
  · have hD : (3000 : Int) < s.size := by omega
    have hsl := sliceS_some s 0 3000 (by omega) (by omega)
    simp [C12, R12, regsOf, fin, iresult1, hD, h, hsl, bound_int]
  · have hD : ¬ (3000 : Int) < s.size := by omega
    simp [C12, R12, regsOf, fin, iresult1, hD, h]
theorem cutF_size (s : ByteArray) : (cutF s).size ≤ 3000 := by
  unfold cutF
  split
  · simp; omega
  · omega
theorem flatten_at (n : Nat) : ∀ (l : List (List Value)) (i : Nat) (x : List Value), (∀ x ∈ l, x.length = n) → l[i]? = some x → (l.flatten.drop (i * n)).take n = x ∧ i * n + n ≤ l.flatten.length := by
  intro l
  induction l with
  | nil => intro i x _ h; simp at h
  | cons a l ih =>
    intro i x h hx
    have ha := h a (by simp)
    cases i with
    | zero =>
      simp only [List.getElem?_cons_zero, Option.some.injEq] at hx
      subst hx
      simp only [Nat.zero_mul, List.drop_zero, List.flatten_cons, Nat.zero_add, List.length_append]
      exact ⟨by rw [List.take_append_of_le_length (by omega), List.take_of_length_le (by omega)], by omega⟩
    | succ i =>
      simp only [List.getElem?_cons_succ] at hx
      obtain ⟨e1, e2⟩ := ih i x (fun y hy => h y (by simp [hy])) hx
      rw [List.flatten_cons, Nat.add_mul, Nat.one_mul, List.length_append]
      refine ⟨?_, by omega⟩
      rw [← e1, Nat.add_comm, ← ha, ← List.drop_drop, List.drop_left]
theorem tks_cell {H : IH} {b c : Nat} {l : List (Nat × Tk)} {lo : Nat} (hv : TksAt H (.slice (some ⟨b, 0, none⟩) l.length c) l lo) {i : Nat} (hi : i < l.length) : cellsOf (H.get b) (i * 4) 4 = some (tkC l[i]) := by
  rcases hv.2 with ⟨h, _⟩ | ⟨b', _, _, h, hg⟩
  · cases h
  · have hb : b = b' := by simp only [Value.slice.injEq, Option.some.injEq, Addr.mk.injEq] at h; exact h.1.1
    subst hb
    have hl : (l.map tkC)[i]? = some (tkC l[i]) := by simp [hi]
    obtain ⟨e1, e2⟩ := flatten_at 4 (l.map tkC) i _ (fun x hx => (hv.1 x hx).1) hl
    rw [hg]
    simp only [cellsOf]
    rw [if_pos e2, e1]
theorem loop15 (H : IH) (b b' c c' lo : Nat) (l : List (Nat × Tk)) (hl : l.length < 2 ^ 39) (hv : TksAt H (.slice (some ⟨b, 0, none⟩) l.length c) l lo) (hv' : TksAt H (.slice (some ⟨b', 0, none⟩) l.length c') l lo) : ∀ (n i : Nat) (T : Regs), l.length - i = n → i ≤ l.length →
    T.at 0 = .slice (some ⟨b, 0, none⟩) l.length c → T.at 1 = .slice (some ⟨b', 0, none⟩) l.length c' → T.at 12 = .int .i64 (l.length : Int) → T.at 13 = .int .i64 (i : Int) →
    ∃ T', run J okAll (.loop L15_0) T H = some (.exit 0, T', H) := by
  intro n
  induction n with
  | zero =>
    intro i T hn hi t0 t1 t12 t13
    have hlt : ¬ ((i : Int) < l.length) := by omega
    rw [r_loop]
    simp [L15_0, t0, t1, t12, t13, hlt]
  | succ n ih =>
    intro i T hn hi t0 t1 t12 t13
    have hlt : i < l.length := by omega
    have w1 : IntKind.i64.wrap ((i : Int) + 1) = (i : Int) + 1 := wrap64 _ (by omega) (by omega)
    have k1 := tks_cell hv hlt
    have k2 := tks_cell hv' hlt
    have : ∃ T1, run J okAll (.loop L15_0) T H = run J okAll (.loop L15_0) T1 H ∧ T1.at 0 = .slice (some ⟨b, 0, none⟩) l.length c ∧ T1.at 1 = .slice (some ⟨b', 0, none⟩) l.length c' ∧ T1.at 12 = .int .i64 (l.length : Int) ∧ T1.at 13 = .int .i64 ((i : Int) + 1) := by
      rw [r_loop]
      simp [L15_0, t0, t1, t12, t13, hlt, iindexAddr, k1, k2, tkC, w1, isEff, oblig, veq]
      exact ⟨_, rfl, by simp [t0], by simp [t1], by simp [t12], by simp⟩
    obtain ⟨T1, e0, f0, f1, f12, f13⟩ := this
    rw [e0]
    exact ih (i + 1) T1 (by omega) (by omega) f0 f1 f12 (by rw [f13]; simp)
theorem c15 (H : IH) (v v' : Value) (l : List (Nat × Tk)) (lo : Nat) (hl : l.length < 2 ^ 39) (hv : TksAt H v l lo) (hv' : TksAt H v' l lo) : cal J okAll 15 #[v, v'] H = some (.ret (.bool true), H) := by
  rw [cal15 _ _ (by simp)]
  by_cases h0 : l = []
  · subst h0
    have a : v = .slice none 0 0 ∨ ∃ b, v = .slice (some ⟨b, 0, none⟩) 0 capU := by
      rcases hv.2 with ⟨h, _⟩ | ⟨b, _, _, h, _⟩
      · exact .inl h
      · exact .inr ⟨b, h⟩
    have a' : v' = .slice none 0 0 ∨ ∃ b, v' = .slice (some ⟨b, 0, none⟩) 0 capU := by
      rcases hv'.2 with ⟨h, _⟩ | ⟨b, _, _, h, _⟩
      · exact .inl h
      · exact .inr ⟨b, h⟩
    have e : ∀ T : Regs, T.at 12 = .int .i64 0 → T.at 13 = .int .i64 0 → ∃ T', run J okAll (.loop L15_0) T H = some (.exit 0, T', H) := fun T t12 t13 => by
      rw [r_loop]
      simp [L15_0, t12, t13]
    rcases a with rfl | ⟨b, rfl⟩ <;> rcases a' with rfl | ⟨b', rfl⟩
    all_goals
      simp [C15, R15, regsOf, fin, iresult1]
      generalize hX : run J okAll (.loop L15_0) _ _ = X
      obtain ⟨T1, e1, t12, t13⟩ : ∃ T1, run J okAll (.loop L15_0) T1 H = X ∧ T1.at 12 = .int .i64 0 ∧ T1.at 13 = .int .i64 0 := ⟨_, hX, by simp, by simp⟩
      obtain ⟨T', r⟩ := e T1 t12 t13
      rw [← e1, r]
      simp [fin, iresult1]
  · obtain ⟨b, rfl⟩ : ∃ b, v = .slice (some ⟨b, 0, none⟩) l.length capU := by
      rcases hv.2 with ⟨_, h⟩ | ⟨b, _, _, h, _⟩
      · rw [List.map_eq_nil_iff] at h; exact absurd h h0
      · rw [List.length_map] at h; exact ⟨b, h⟩
    obtain ⟨b', rfl⟩ : ∃ b, v' = .slice (some ⟨b, 0, none⟩) l.length capU := by
      rcases hv'.2 with ⟨_, h⟩ | ⟨b, _, _, h, _⟩
      · rw [List.map_eq_nil_iff] at h; exact absurd h h0
      · rw [List.length_map] at h; exact ⟨b, h⟩
    have key := fun T => loop15 H b b' capU capU lo l hl hv hv' _ 0 T rfl (by omega)
    simp [C15, R15, regsOf, fin, iresult1]
    generalize hX : run J okAll (.loop L15_0) _ _ = X
    obtain ⟨T1, e1, t0, t1, t12, t13⟩ : ∃ T1, run J okAll (.loop L15_0) T1 H = X ∧ T1.at 0 = .slice (some ⟨b, 0, none⟩) l.length capU ∧ T1.at 1 = .slice (some ⟨b', 0, none⟩) l.length capU ∧ T1.at 12 = .int .i64 (l.length : Int) ∧ T1.at 13 = .int .i64 ((0 : Nat) : Int) := ⟨_, hX, by simp, by simp, by simp, by simp⟩
    obtain ⟨T', r⟩ := key T1 t0 t1 t12 t13
    rw [← e1, r]
    simp [fin, iresult1]
end Go.Proofs.YtjbcjcibnjbpcaaDoor.Idl
namespace Go.Proofs.YtjbcjcibnjbpcaaDoor.Idl
open Go
set_option maxHeartbeats 8000000
set_option linter.unusedSimpArgs false
def bytesI (s : ByteArray) : List Int := s.data.toList.map fun b => ((b.toNat : Nat) : Int)
theorem bytesI_cells (s : ByteArray) : (bytesI s).map (Value.int .u8) = bytesCells s := by simp [bytesI, bytesCells]
theorem bytesI_length (s : ByteArray) : (bytesI s).length = s.size := by simp [bytesI]
theorem strOf_bytesI (s : ByteArray) : strOf (bytesI s) = s := by
  apply ByteArray.ext
  have : ∀ l : List UInt8, (l.map fun b => UInt8.ofNat ((b.toNat : Nat) : Int).toNat) = l := fun l => by
    induction l with
    | nil => rfl
    | cons a l ih => simp only [List.map_cons, ih, List.cons.injEq, and_true]; exact u8_round a
  simp only [strOf, bytesI, List.map_map]
  show ((List.map _ s.data.toList).toArray) = _
  rw [show ((fun n : Int => UInt8.ofNat n.toNat) ∘ fun b : UInt8 => ((b.toNat : Nat) : Int)) = fun b => UInt8.ofNat ((b.toNat : Nat) : Int).toNat from rfl, this]
theorem strOf_append (l m : List Int) : strOf (l ++ m) = strOf l ++ strOf m := by
  apply ByteArray.ext
  simp [strOf, ByteArray.data_append]
/-- v's row lies in block x. -/
def Own (v : Value) (x : Nat) : Prop := ∃ n k, v = .slice (some ⟨x, 0, none⟩) n k
theorem BsAt.own {H : IH} {v : Value} {l : List Int} {lo x : Nat} (h : BsAt J 5 H v l lo) (ho : Own v x) : lo ≤ x ∧ x < H.next := by
  obtain ⟨n, k, rfl⟩ := ho
  rcases h with ⟨h, _⟩ | ⟨b, h1, h2, h3, _⟩
  · cases h
  · simp only [Value.slice.injEq, Option.some.injEq, Addr.mk.injEq] at h3
    obtain ⟨⟨rfl, _⟩, _⟩ := h3
    exact ⟨h1, h2⟩
theorem app1' {H : IH} {v : Value} {l : List Int} {lo : Nat} (hv : BsAt J 5 H v l lo) (hlo : lo ≤ H.next) (hl : l.length < 2 ^ 40) (c : Int) :
    ∃ v' H', iappend J #[40, 40] v (.slice (some ⟨H.next, 0, none⟩) 1 1) (H.push (.cells [.int .u8 c] 5 false)) = some (v', H') ∧ BsAt J 5 H' v' (l ++ [c]) lo ∧ H.next ≤ H'.next ∧ (∀ x, x < H.next → ¬ Own v x → H'.get x = H.get x) ∧ ∀ x, Own v' x → H.next ≤ x := by
  rcases hv with ⟨rfl, rfl⟩ | ⟨b, h1, h2, rfl, h4⟩
  · refine ⟨.slice (some ⟨H.next + 1, 0, none⟩) 1 capU, (H.push (.cells [.int .u8 c] 5 false)).push (.cells [.int .u8 c] 5 false), ?_, .inr ⟨H.next + 1, by omega, by simp, by simp, ?_⟩, by simp; omega, fun x hx _ => ?_, fun x ho => ?_⟩
    · simp [iappend, ilenOf, ifirst, Value.cells]
    · have : H.next + 1 = (H.push (.cells [.int .u8 c] 5 false)).next := rfl
      rw [this, IH.get_push_same]; rfl
    · rw [IH.get_push_other _ _ _ (by simp; omega), IH.get_push_other _ _ _ (by omega)]
    · obtain ⟨n, k, e⟩ := ho
      simp only [Value.slice.injEq, Option.some.injEq, Addr.mk.injEq] at e
      omega
  · have hb : (H.push (.cells [.int .u8 c] 5 false)).get b = some (.cells (l.map (Value.int .u8)) 5 false) := by rw [IH.get_push_other _ _ _ h2]; exact h4
    have hcap : ((l.length + 1) * 3 ≤ 2 ^ 47) := by omega
    refine ⟨.slice (some ⟨H.next + 1, 0, none⟩) (l.length + 1) capU, ((H.push (.cells [.int .u8 c] 5 false)).set b .dead).push (.cells (l.map (Value.int .u8) ++ [.int .u8 c]) 5 false), ?_, .inr ⟨H.next + 1, by omega, by simp, by simp, ?_⟩, by simp; omega, fun x hx hno => ?_, fun x ho => ?_⟩
    · simp [iappend, ilenOf, ifirst, Value.cells, hb, plain1, hcap, capU, take_map]
    · have : H.next + 1 = ((H.push (.cells [.int .u8 c] 5 false)).set b .dead).next := rfl
      rw [this, IH.get_push_same]; simp
    · have hxb : x ≠ b := fun e => hno ⟨_, _, by rw [e]⟩
      rw [IH.get_push_other _ _ _ (by simp; omega), IH.get_set_other _ _ _ _ hxb, IH.get_push_other _ _ _ (by omega)]
    · obtain ⟨n, k, e⟩ := ho
      simp only [Value.slice.injEq, Option.some.injEq, Addr.mk.injEq] at e
      omega
theorem appS {H : IH} {v : Value} {l : List Int} {lo : Nat} (hv : BsAt J 5 H v l lo) (hlo : lo ≤ H.next) (s : ByteArray) (hl : l.length + s.size < 2 ^ 40) :
    ∃ v' H', iappend J #[40, 9] v (.string s) H = some (v', H') ∧ BsAt J 5 H' v' (l ++ bytesI s) lo ∧ H.next ≤ H'.next ∧ (∀ x, x < H.next → ¬ Own v x → H'.get x = H.get x) ∧ (s.size = 0 → v' = v) ∧ ∀ x, Own v' x → Own v x ∨ H.next ≤ x := by
  by_cases hz : s.size = 0
  · have hs0 : bytesI s = [] := List.length_eq_zero_iff.1 (by rw [bytesI_length]; exact hz)
    refine ⟨v, H, ?_, by rw [hs0, List.append_nil]; exact hv, Nat.le_refl _, fun _ _ _ => rfl, fun _ => rfl, fun _ h => .inl h⟩
    rcases hv with ⟨rfl, _⟩ | ⟨b, _, _, rfl, _⟩ <;> simp [iappend, ilenOf, hz]
  · have htk : (bytesCells s).take s.size = bytesCells s := List.take_of_length_le (by rw [bytesCells_length]; exact Nat.le_refl _)
    have hall : ∀ x ∈ bytesCells s, plain1 x = true := fun x hx => by
      unfold bytesCells at hx
      obtain ⟨b, _, rfl⟩ := List.mem_map.1 hx
      rfl
    rcases hv with ⟨rfl, rfl⟩ | ⟨b, h1, h2, rfl, h4⟩
    · have hcap : s.size * 3 ≤ 140737488355328 := by simp at hl; omega
      refine ⟨.slice (some ⟨H.next, 0, none⟩) s.size capU, H.push (.cells (bytesCells s) 5 false), ?_, .inr ⟨H.next, hlo, by simp, ?_, ?_⟩, by simp, fun x hx _ => IH.get_push_other _ _ _ hx, fun e => absurd e hz, fun x ho => ?_⟩
      · simp [iappend, ilenOf, ifirst, hz, htk, hcap, bytesCells_length, Value.cells]
      · simp [bytesI_length]
      · rw [IH.get_push_same, List.nil_append, bytesI_cells]
      · obtain ⟨n, k, e⟩ := ho
        simp only [Value.slice.injEq, Option.some.injEq, Addr.mk.injEq] at e
        right; omega
    · have hcap : (l.length + s.size) * 3 ≤ 140737488355328 := by omega
      refine ⟨.slice (some ⟨H.next, 0, none⟩) (l.length + s.size) capU, (H.set b .dead).push (.cells (l.map (Value.int .u8) ++ bytesCells s) 5 false), ?_, .inr ⟨H.next, hlo, by simp, ?_, ?_⟩, by simp, fun x hx hno => ?_, fun e => absurd e hz, fun x ho => ?_⟩
      · simp [iappend, ilenOf, ifirst, hz, htk, hcap, bytesCells_length, Value.cells, h4, take_map]
        exact hall
      · simp [bytesI_length]
      · have : H.next = (H.set b .dead).next := rfl
        rw [this, IH.get_push_same, List.map_append, bytesI_cells]
      · have hxb : x ≠ b := fun e => hno ⟨_, _, by rw [e]⟩
        rw [IH.get_push_other _ _ _ (by simpa using hx), IH.get_set_other _ _ _ _ hxb]
      · obtain ⟨n, k, e⟩ := ho
        simp only [Value.slice.injEq, Option.some.injEq, Addr.mk.injEq] at e
        right; omega
/-- A Builder in block b with the row v: what was written. -/
def Bd (H : IH) (b : Nat) (v : Value) (l : List Int) (lo : Nat) : Prop :=
  b < lo ∧ lo ≤ H.next ∧ ∃ a, H.get b = some (.cells [.pointer a, v] 53 false) ∧ (a = none ∨ a = some ⟨b, 0, none⟩) ∧ BsAt J 5 H v l lo ∧ (l = [] → v = .slice none 0 0)
theorem Bd.own {H : IH} {b x lo : Nat} {v : Value} {l : List Int} (h : Bd H b v l lo) (ho : Own v x) : lo ≤ x ∧ x < H.next := by
  obtain ⟨_, _, _, _, _, hv, _⟩ := h
  exact hv.own ho
theorem BsAt.set {H : IH} {v : Value} {l : List Int} {lo b : Nat} (h : BsAt J 5 H v l lo) (hb : b < lo) (x : Blk) : BsAt J 5 (H.set b x) v l lo := by
  rcases h with h | ⟨c, h1, h2, h3, h4⟩
  · exact .inl h
  · exact .inr ⟨c, h1, h2, h3, by rw [IH.get_set_other _ _ _ _ (by omega)]; exact h4⟩
@[simp] theorem bp51 (x y : Operand) (H : IH) : binR J .eql 51 x y (.pointer none) (.pointer none) H = some (.val (.bool true) H) := binR_pure J H rfl rfl rfl (by kernel_rfl) rfl
@[simp] theorem hb62 : hasBody J 62 = false := id rfl
@[simp] theorem id62 : J.ident 62 = true := id rfl
theorem c53 (H : IH) (b : Nat) (a : Option Addr) (v : Value) (h : H.get b = some (.cells [.pointer a, v] 53 false)) (ha : a = none ∨ a = some ⟨b, 0, none⟩) (_hp : plain1 v = true) :
    cal J okAll 53 #[.pointer (some ⟨b, 0, none⟩)] H = some (.ret (.tuple #[]), H.set b (.cells [.pointer (some ⟨b, 0, none⟩), v] 53 false)) := by
  rw [cal53 _ _ (by simp)]
  rcases ha with rfl | rfl
  · simp [C53, R53, regsOf, fin, h, fitsNil, nilEq, iconvert, istore, Value.cells, plain1, overlay]
  · have : H.set b (.cells [.pointer (some ⟨b, 0, none⟩), v] 53 false) = H := IH.set_same _ _ _ h
    rw [this]
    simp [C53, R53, regsOf, fin, h, fitsNil, nilEq]
/-- All that was there is as it was but block b and the row v. -/
def FrB (b : Nat) (v : Value) (H H' : IH) : Prop := H.next ≤ H'.next ∧ ∀ x, x < H.next → x ≠ b → ¬ Own v x → H'.get x = H.get x
theorem Bd.mono {H H' : IH} {b lo : Nat} {v : Value} {l : List Int} (h : Bd H b v l lo) (f : Fr H.next H H') : Bd H' b v l lo := by
  obtain ⟨hb, hlo, a, hg, ha, hv, hn⟩ := h
  refine ⟨hb, Nat.le_trans hlo f.1, a, by rw [f.2 b (by omega)]; exact hg, ha, ?_, hn⟩
  rcases hv with h | ⟨c, h1, h2, h3, h4⟩
  · exact .inl h
  · exact .inr ⟨c, h1, by have := f.1; omega, h3, by rw [f.2 c h2]; exact h4⟩
theorem BsAt.plain {H : IH} {v : Value} {l : List Int} {lo : Nat} (h : BsAt J 5 H v l lo) : plain1 v = true := by
  rcases h with ⟨rfl, _⟩ | ⟨c, h1, h2, rfl, h4⟩ <;> rfl
theorem BsAt.slice {H : IH} {v : Value} {l : List Int} {lo : Nat} (h : BsAt J 5 H v l lo) : ∃ a n c, v = .slice a n c := by
  rcases h with ⟨rfl, _⟩ | ⟨c, h1, h2, rfl, h4⟩ <;> exact ⟨_, _, _, rfl⟩
theorem c25 (H : IH) (b : Nat) (v : Value) (l : List Int) (lo : Nat) (c : Int) (hB : Bd H b v l lo) (hl : l.length < 2 ^ 39) :
    ∃ H' v', FrB b v H H' ∧ cal J okAll 25 #[.pointer (some ⟨b, 0, none⟩), .int .u8 c] H = some (.ret .nilIface, H') ∧ Bd H' b v' (l ++ [c]) lo ∧ ∀ x, Own v' x → H.next ≤ x := by
  obtain ⟨hb, hlo, a, hg, ha, hv, hnil⟩ := hB
  have k := c53 H b a v hg ha hv.plain
  have hv1 := hv.set hb (.cells [.pointer (some ⟨b, 0, none⟩), v] 53 false)
  obtain ⟨v', H2, e2, hv2, hn2, hf2, ho2⟩ := app1' hv1 (by simpa using hlo) (by omega) c
  have hb1 := build1 bt40 (H.set b (.cells [.pointer (some ⟨b, 0, none⟩), v] 53 false)) c
  have hnob : ¬ Own v b := fun ho => by have := hv.own ho; omega
  have hg2 : H2.get b = some (.cells [.pointer (some ⟨b, 0, none⟩), v] 53 false) := by rw [hf2 b (by simp; omega) hnob]; simp
  simp only [IH.next_set] at e2 hb1 hn2 hf2 ho2
  refine ⟨H2.set b (.cells [.pointer (some ⟨b, 0, none⟩), v'] 53 false), v', ⟨hn2, fun x hx hxb hno => ?_⟩, ?_, ⟨hb, by simpa using Nat.le_trans hlo hn2, _, IH.get_set_same _ _ _, .inr rfl, hv2.set hb _, fun e => by simp at e⟩, ho2⟩
  · rw [IH.get_set_other _ _ _ _ hxb, hf2 x hx hno, IH.get_set_other _ _ _ _ hxb]
  · obtain ⟨va, vn, vc, rfl⟩ := hv2.slice
    rw [cal25 _ _ (by simp)]
    simp [C25, R25, regsOf, fin, iresult1, k, iparts, hb1, e2, hg2, istore, Value.cells, overlay, plain1]
theorem c26 (H : IH) (b : Nat) (v : Value) (l : List Int) (lo : Nat) (s : ByteArray) (hB : Bd H b v l lo) (hl : l.length + s.size < 2 ^ 39) :
    ∃ H' v', FrB b v H H' ∧ cal J okAll 26 #[.pointer (some ⟨b, 0, none⟩), .string s] H = some (.ret (.tuple #[.int .i64 (s.size : Int), .nilIface]), H') ∧ Bd H' b v' (l ++ bytesI s) lo ∧ ∀ x, Own v' x → Own v x ∨ H.next ≤ x := by
  obtain ⟨hb, hlo, a, hg, ha, hv, hnil⟩ := hB
  have k := c53 H b a v hg ha hv.plain
  have hv1 := hv.set hb (.cells [.pointer (some ⟨b, 0, none⟩), v] 53 false)
  obtain ⟨v', H2, e2, hv2, hn2, hf2, hz2, ho2⟩ := appS hv1 (by simpa using hlo) s (by omega)
  have hnob : ¬ Own v b := fun ho => by have := hv.own ho; omega
  have hg2 : H2.get b = some (.cells [.pointer (some ⟨b, 0, none⟩), v] 53 false) := by rw [hf2 b (by simp; omega) hnob]; simp
  simp only [IH.next_set] at hn2 hf2 ho2
  refine ⟨H2.set b (.cells [.pointer (some ⟨b, 0, none⟩), v'] 53 false), v', ⟨hn2, fun x hx hxb hno => ?_⟩, ?_, ⟨hb, by simpa using Nat.le_trans hlo hn2, _, IH.get_set_same _ _ _, .inr rfl, hv2.set hb _, fun e => ?_⟩, ho2⟩
  · rw [IH.get_set_other _ _ _ _ hxb, hf2 x hx hno, IH.get_set_other _ _ _ _ hxb]
  rotate_left
  · rw [List.append_eq_nil_iff] at e
    have : s.size = 0 := by rw [← bytesI_length, e.2]; rfl
    rw [hz2 this]; exact hnil e.1
  · obtain ⟨va, vn, vc, rfl⟩ := hv2.slice
    rw [cal26 _ _ (by simp)]
    simp [C26, R26, regsOf, fin, iresult1, k, iparts, e2, hg2, istore, Value.cells, overlay, plain1]
theorem c29 (H : IH) (b : Nat) (v : Value) (l : List Int) (lo : Nat) (hB : Bd H b v l lo) (hl : l.length < 2 ^ 39) :
    ∃ H', FrB b v H H' ∧ cal J okAll 29 #[.pointer (some ⟨b, 0, none⟩)] H = some (.ret (.string (strOf l)), H') := by
  obtain ⟨hb, hlo, a, hg, ha, hv, hnil⟩ := hB
  rw [cal29 _ _ (by simp)]
  rcases hv with ⟨rfl, rfl⟩ | ⟨c, h1, h2, rfl, h4⟩
  · refine ⟨H, ⟨Nat.le_refl _, fun _ _ _ _ => rfl⟩, ?_⟩
    simp [C29, R29, regsOf, fin, iresult1, hg, isliceData, iunsafeString, isEff, oblig, veq]
    rfl
  · cases hz : l with
    | nil =>
      have := hnil hz
      cases this
    | cons x r =>
      have hlen : l.length = r.length + 1 := by rw [hz]; rfl
      refine ⟨H.set c (.cells (l.map (Value.int .u8)) 5 true), ⟨by simp, fun y hy hyb hno => IH.get_set_other _ _ _ _ (fun e => hno ⟨(x :: r).length, capU, by rw [e]⟩)⟩, ?_⟩
      rw [← hz]
      have hm := bytesOf_ints l
      have hn0 : 0 < l.length := by omega
      have hn1 : (l.length : Int) < 9223372036854775808 := by omega
      have hsd : isliceData (.slice (some ⟨c, 0, none⟩) l.length capU) = some (.pointer (some ⟨c, 0, none⟩)) := by rw [hlen]; rfl
      simp [C29, R29, regsOf, fin, iresult1, hg, hsd, iunsafeString, h4, hn0, hn1, take_map, hm, isEff, oblig, veq, strOf]
end Go.Proofs.YtjbcjcibnjbpcaaDoor.Idl
namespace Go.Proofs.YtjbcjcibnjbpcaaDoor.Idl
open Go
set_option maxHeartbeats 16000000
set_option linter.unusedSimpArgs false
/-- A number's digits. -/
def natD : Nat → Nat → List Int
  | 0, n => [48 + ((n % 10 : Nat) : Int)]
  | k + 1, n => if n < 10 then [48 + ((n : Nat) : Int)] else natD k (n / 10) ++ [48 + ((n % 10 : Nat) : Int)]
def fmtL (n : Int) : List Int := if n < 0 then 45 :: natD 20 n.natAbs else natD 20 n.toNat
/-- A text as it is quoted. -/
def quoC (c : Int) : List Int :=
  if c = 34 ∨ c = 92 then [92, c] else if c = 10 then [92, 110] else if c = 9 then [92, 116]
  else if c < 32 ∨ 126 < c then [92, 48 + c / 100, 48 + c / 10 % 10, 48 + c % 10] else [c]
def quoL (s : ByteArray) : List Int := 34 :: ((bytesI s).flatMap quoC ++ [34])
def FmtOk (n : Int) : Prop := ∀ H : IH, ∃ H', Fr H.next H H' ∧ cal J okAll 27 #[.int .i64 n, .int .i64 10] H = some (.ret (.string (strOf (fmtL n))), H')
def QuoOk (s : ByteArray) : Prop := ∀ H : IH, ∃ H', Fr H.next H H' ∧ cal J okAll 28 #[.string s] H = some (.ret (.string (strOf (quoL s))), H')
def TokOk (t : Tk) : Prop := (t.kind = 1 → FmtOk t.n) ∧ (t.kind = 2 → QuoOk t.text)
def tkS (t : Tk) : ByteArray := if t.kind = 1 then strOf (fmtL t.n) else if t.kind = 2 then strOf (quoL t.text) else t.text
def prF : Bool → List (Nat × Tk) → List Int
  | _, [] => []
  | first, t :: r => (if first then [] else [32]) ++ (bytesI (tkS t.2) ++ prF false r)
theorem natD_dec : ∀ (k u : Nat), u < 10 ^ (k + 1) → natD k u = (Lib.decDigits u).map fun b => ((b.toNat : Nat) : Int) := by
  have one : ∀ u : Nat, u < 10 → [48 + ((u : Nat) : Int)] = (Lib.decDigits u).map fun b => ((b.toNat : Nat) : Int) := fun u h => by
    rw [Lib.decDigits_one h]
    simp only [List.map_cons, List.map_nil, List.cons.injEq, and_true]
    rw [UInt8.toNat_ofNat']
    omega
  intro k
  induction k with
  | zero =>
    intro u h
    have h10 : u < 10 := by omega
    rw [← one u h10]
    unfold natD
    rw [Nat.mod_eq_of_lt h10]
  | succ k ih =>
    intro u h
    unfold natD
    by_cases h10 : u < 10
    · rw [if_pos h10]; exact one u h10
    · rw [if_neg h10, ih (u / 10) (by rw [Nat.pow_succ] at h; omega)]
      conv => rhs; rw [Lib.decDigits]
      rw [dif_neg h10, List.map_append]
      congr 1
      simp only [List.map_cons, List.map_nil, List.cons.injEq, and_true]
      rw [UInt8.toNat_ofNat']
      omega
theorem fmtL_itoa (n : Int) (h0 : -9223372036854775808 ≤ n) (h1 : n ≤ 9223372036854775807) : strOf (fmtL n) = ⟨(Lib.itoa n).toArray⟩ := by
  have key : fmtL n = (Lib.itoa n).map fun b => ((b.toNat : Nat) : Int) := by
    unfold fmtL Lib.itoa
    split
    · rw [natD_dec 20 n.natAbs (by omega)]; rfl
    · rw [natD_dec 20 n.toNat (by omega)]
  rw [key]
  have u8l : ∀ l : List UInt8, ((l.map fun b => ((b.toNat : Nat) : Int)).map fun n : Int => UInt8.ofNat n.toNat) = l := fun l => by
    induction l with
    | nil => rfl
    | cons a l ih => simp only [List.map_cons, ih, List.cons.injEq, and_true]; exact u8_round a
  unfold strOf
  rw [u8l]
theorem fmt_ok (n : Int) (h0 : -9223372036854775808 ≤ n) (h1 : n ≤ 9223372036854775807) : FmtOk n := fun H => by
  refine ⟨H, Fr.refl _ _, ?_⟩
  have hk : J.hook 27 (#[Value.int .i64 n, Value.int .i64 10] : Array Value).toList = some (.string ⟨(Lib.itoa n).toArray⟩) := by
    show hookT 27 [.int .i64 n, .int .i64 10] = _
    unfold hookT
    simp only [if_true]
    rw [if_pos ⟨trivial, h0, h1⟩]
  rw [cal_hook hk, fmtL_itoa n h0 h1]
end Go.Proofs.YtjbcjcibnjbpcaaDoor.Idl
namespace Go.Proofs.YtjbcjcibnjbpcaaDoor.Idl
open Go
set_option maxHeartbeats 16000000
set_option linter.unusedSimpArgs false
/-- Tokens in a row that is there. -/
def TkRow (H : IH) (tb : Nat) (l : List (Nat × Tk)) : Prop := ∀ i (h : i < l.length), cellsOf (H.get tb) (i * 4) 4 = some (tkC l[i])
theorem loop17 (tb b lo c : Nat) (l : List (Nat × Tk)) (hl : l.length < 2 ^ 30) (htb : tb < lo) (hne : tb ≠ b) (hok : ∀ t ∈ l, TokOk t.2) : ∀ (n i : Nat) (acc : List Int) (H : IH) (v : Value) (T : Regs),
    l.length - i = n → i ≤ l.length → acc.length + (prF (decide (i = 0)) (l.drop i)).length < 2 ^ 39 → TkRow H tb l → Bd H b v acc lo →
    T.at 3 = .pointer (some ⟨b, 0, none⟩) → T.at 6 = .slice (some ⟨tb, 0, none⟩) l.length c → T.at 7 = .int .i64 (l.length : Int) → T.at 8 = .int .i64 (i : Int) →
    ∃ T' H' v', run J okAll (.loop L17_0) T H = some (.exit 0, T', H') ∧ H.next ≤ H'.next ∧ (∀ x, x < lo → x ≠ b → H'.get x = H.get x) ∧ Bd H' b v' (acc ++ prF (decide (i = 0)) (l.drop i)) lo ∧ T'.at 3 = .pointer (some ⟨b, 0, none⟩) := by
  intro n
  induction n with
  | zero =>
    intro i acc H v T hn hi hsz hrow hB t3 t6 t7 t8
    have hlt : ¬ ((i : Int) < l.length) := by omega
    have hd : l.drop i = [] := List.drop_of_length_le (by omega)
    have : ∃ T', run J okAll (.loop L17_0) T H = some (.exit 0, T', H) ∧ T'.at 3 = .pointer (some ⟨b, 0, none⟩) := by
      rw [r_loop]
      simp [L17_0, t3, t6, t7, t8, hlt]
    obtain ⟨T', e, a⟩ := this
    refine ⟨T', H, v, e, Nat.le_refl _, fun _ _ _ => rfl, ?_, a⟩
    rw [hd]
    simpa [prF] using hB
  | succ n ih =>
    intro i acc H v T hn hi hsz hrow hB t3 t6 t7 t8
    have hlt : i < l.length := by omega
    have w1 : IntKind.i64.wrap ((i : Int) + 1) = (i : Int) + 1 := wrap64 _ (by omega) (by omega)
    have w0 : IntKind.i64.wrap 1 = 1 := rfl
    have hd : l.drop i = l[i] :: l.drop (i + 1) := List.drop_eq_getElem_cons hlt
    have hc := hrow i hlt
    have hto := hok l[i] (List.getElem_mem hlt)
    rw [hd] at hsz ⊢
    simp only [prF, List.length_append] at hsz ⊢
    have hdf : decide (i + 1 = 0) = false := decide_eq_false (by omega)
    generalize hte : l[i] = t at *
    -- the token's cell
    have hB1 : Bd (H.push (.cells (tkC t) 31 false)) b v acc lo := hB.mono ((Fr.refl _ _).push (Nat.le_refl _) _)
    have hno1 : ¬ Own v H.next := fun ho => by have := hB.own ho; omega
    have hlo := hB.2.1
    have hb := hB.1
    -- the blank
    obtain ⟨H2, v2, hB2, hn2, hf2, hno2, hx2, e2⟩ : ∃ H2 v2, Bd H2 b v2 (acc ++ (if (decide (i = 0)) then [] else [32])) lo ∧ H.next + 1 ≤ H2.next ∧ (∀ x, x < lo → x ≠ b → H2.get x = H.get x) ∧ ¬ Own v2 H.next ∧
        H2.get H.next = some (.cells (tkC t) 31 false) ∧ (0 < i → cal J okAll 25 #[.pointer (some ⟨b, 0, none⟩), .int .u8 32] (H.push (.cells (tkC t) 31 false)) = some (.ret .nilIface, H2)) ∧ (i = 0 → H2 = H.push (.cells (tkC t) 31 false)) := by
      by_cases hi0 : i = 0
      · refine ⟨H.push (.cells (tkC t) 31 false), v, ?_, by simp, fun x hx _ => IH.get_push_other _ _ _ (by omega), hno1, IH.get_push_same _ _, fun h => by omega, fun _ => rfl⟩
        simpa [hi0] using hB1
      · obtain ⟨H2, v2, f, e, hB2, ho⟩ := c25 (H.push (.cells (tkC t) 31 false)) b v acc lo 32 hB1 (by omega)
        refine ⟨H2, v2, by simpa [hi0] using hB2, f.1, fun x hx hxb => ?_, fun h => ?_, ?_, fun _ => e, fun h => absurd h hi0⟩
        · have hno : ¬ Own v x := fun ho => by have := hB.own ho; omega
          rw [f.2 x (by simp; omega) hxb hno, IH.get_push_other _ _ _ (by omega)]
        · have := ho _ h; simp at this; omega
        · rw [f.2 H.next (by simp) (by omega) hno1]; exact IH.get_push_same _ _
    -- the token's text
    have put : ∀ (H3 : IH) (x : ByteArray), Fr H2.next H2 H3 → (acc ++ (if (decide (i = 0)) then [] else [32])).length + x.size < 2 ^ 39 → ∃ H4 v4, cal J okAll 26 #[.pointer (some ⟨b, 0, none⟩), .string x] H3 = some (.ret (.tuple #[.int .i64 (x.size : Int), .nilIface]), H4) ∧
        Bd H4 b v4 (acc ++ ((if (decide (i = 0)) then [] else [32]) ++ bytesI x)) lo ∧ H.next ≤ H4.next ∧ (∀ y, y < lo → y ≠ b → H4.get y = H.get y) := fun H3 x f3 hx => by
      have hB3 := hB2.mono f3
      obtain ⟨H4, v4, f4, e4, hB4, ho4⟩ := c26 H3 b v2 _ lo x hB3 hx
      refine ⟨H4, v4, e4, by rw [← List.append_assoc]; exact hB4, by have := f3.1; have := f4.1; omega, fun y hy hyb => ?_⟩
      have hno : ¬ Own v2 y := fun ho => by have := hB2.own ho; omega
      rw [f4.2 y (by have := f3.1; omega) hyb hno, f3.2 y (by omega), hf2 y hy hyb]
    have hnb : ¬ H.next = b := by omega
    have hsz2 : (acc ++ (if (decide (i = 0)) then [] else [32])).length + (tkS t.2).size < 2 ^ 39 := by
      rw [← bytesI_length]
      simp only [List.length_append]
      omega
    have step : ∃ T1 H4 v4, run J okAll (.loop L17_0) T H = run J okAll (.loop L17_0) T1 H4 ∧ Bd H4 b v4 (acc ++ ((if (decide (i = 0)) then [] else [32]) ++ bytesI (tkS t.2))) lo ∧ H.next ≤ H4.next ∧ (∀ y, y < lo → y ≠ b → H4.get y = H.get y) ∧
        T1.at 3 = .pointer (some ⟨b, 0, none⟩) ∧ T1.at 6 = .slice (some ⟨tb, 0, none⟩) l.length c ∧ T1.at 7 = .int .i64 (l.length : Int) ∧ T1.at 8 = .int .i64 ((i : Int) + 1) := by
      simp only [tkC] at e2 hx2 hc
      by_cases k1 : t.2.kind = 1
      · have k1D : decide (t.2.kind = 1) = true := decide_eq_true k1
        obtain ⟨H3, f3, e3⟩ := hto.1 k1 H2
        have hts : tkS t.2 = strOf (fmtL t.2.n) := if_pos k1
        rw [hts] at hsz2 ⊢
        obtain ⟨H4, v4, e4, hB4, hn4, hf4⟩ := put H3 _ f3 hsz2
        have go : ∃ T1, run J okAll (.loop L17_0) T H = run J okAll (.loop L17_0) T1 H4 ∧ T1.at 3 = .pointer (some ⟨b, 0, none⟩) ∧ T1.at 6 = .slice (some ⟨tb, 0, none⟩) l.length c ∧ T1.at 7 = .int .i64 (l.length : Int) ∧ T1.at 8 = .int .i64 ((i : Int) + 1) := by
          by_cases hi0 : i = 0
          · have e2' := e2.2 hi0
            subst hi0
            subst e2'
            rw [r_loop]
            simp [L17_0, t3, t6, t7, t8, hlt, iindexAddr, hc, inew, istore, Value.cells, plain1, overlay, push_set, w1, w0, k1D, e3, e4]
            exact ⟨_, rfl, by simp [t3], by simp [t6], by simp [t7], by simp⟩
          · have e2' := e2.1 (by omega)
            have hi0' : 0 < i := by omega
            rw [r_loop]
            simp [L17_0, t3, t6, t7, t8, hlt, iindexAddr, hc, inew, istore, Value.cells, plain1, overlay, push_set, w1, w0, hi0', e2', hx2, k1D, e3, e4]
            exact ⟨_, rfl, by simp [t3], by simp [t6], by simp [t7], by simp⟩
        obtain ⟨T1, g0, g1⟩ := go
        exact ⟨T1, H4, v4, g0, hB4, hn4, hf4, g1⟩
      · have k1D : decide (t.2.kind = 1) = false := decide_eq_false k1
        by_cases k2 : t.2.kind = 2
        · have k2D : decide (t.2.kind = 2) = true := decide_eq_true k2
          obtain ⟨H3, f3, e3⟩ := hto.2 k2 H2
          have hts : tkS t.2 = strOf (quoL t.2.text) := by unfold tkS; rw [if_neg k1, if_pos k2]
          rw [hts] at hsz2 ⊢
          obtain ⟨H4, v4, e4, hB4, hn4, hf4⟩ := put H3 _ f3 hsz2
          have go : ∃ T1, run J okAll (.loop L17_0) T H = run J okAll (.loop L17_0) T1 H4 ∧ T1.at 3 = .pointer (some ⟨b, 0, none⟩) ∧ T1.at 6 = .slice (some ⟨tb, 0, none⟩) l.length c ∧ T1.at 7 = .int .i64 (l.length : Int) ∧ T1.at 8 = .int .i64 ((i : Int) + 1) := by
            by_cases hi0 : i = 0
            · have e2' := e2.2 hi0
              subst hi0
              subst e2'
              rw [r_loop]
              simp [L17_0, t3, t6, t7, t8, hlt, iindexAddr, hc, inew, istore, Value.cells, plain1, overlay, push_set, w1, w0, k1D, k2D, e3, e4]
              exact ⟨_, rfl, by simp [t3], by simp [t6], by simp [t7], by simp⟩
            · have e2' := e2.1 (by omega)
              have hi0' : 0 < i := by omega
              rw [r_loop]
              simp [L17_0, t3, t6, t7, t8, hlt, iindexAddr, hc, inew, istore, Value.cells, plain1, overlay, push_set, w1, w0, hi0', e2', hx2, k1D, k2D, e3, e4]
              exact ⟨_, rfl, by simp [t3], by simp [t6], by simp [t7], by simp⟩
          obtain ⟨T1, g0, g1⟩ := go
          exact ⟨T1, H4, v4, g0, hB4, hn4, hf4, g1⟩
        · have hts : tkS t.2 = t.2.text := by unfold tkS; rw [if_neg k1, if_neg k2]
          rw [hts] at hsz2 ⊢
          obtain ⟨H4, v4, e4, hB4, hn4, hf4⟩ := put H2 _ (Fr.refl _ _) hsz2
          have go : ∃ T1, run J okAll (.loop L17_0) T H = run J okAll (.loop L17_0) T1 H4 ∧ T1.at 3 = .pointer (some ⟨b, 0, none⟩) ∧ T1.at 6 = .slice (some ⟨tb, 0, none⟩) l.length c ∧ T1.at 7 = .int .i64 (l.length : Int) ∧ T1.at 8 = .int .i64 ((i : Int) + 1) := by
            by_cases hi0 : i = 0
            · have e2' := e2.2 hi0
              subst hi0
              subst e2'
              rw [r_loop]
              simp [L17_0, t3, t6, t7, t8, hlt, iindexAddr, hc, inew, istore, Value.cells, plain1, overlay, push_set, w1, w0, k1, k2, e4]
              exact ⟨_, rfl, by simp [t3], by simp [t6], by simp [t7], by simp⟩
            · have e2' := e2.1 (by omega)
              have hi0' : 0 < i := by omega
              rw [r_loop]
              simp [L17_0, t3, t6, t7, t8, hlt, iindexAddr, hc, inew, istore, Value.cells, plain1, overlay, push_set, w1, w0, hi0', e2', hx2, k1, k2, e4]
              exact ⟨_, rfl, by simp [t3], by simp [t6], by simp [t7], by simp⟩
          obtain ⟨T1, g0, g1⟩ := go
          exact ⟨T1, H4, v4, g0, hB4, hn4, hf4, g1⟩
    obtain ⟨T1, H4, v4, e0, hB4, hn4, hf4, f3, f6, f7, f8⟩ := step
    have hrow4 : TkRow H4 tb l := fun j hj => by rw [hf4 tb htb hne]; exact hrow j hj
    obtain ⟨T', H', v', r1, r2, r3, r4, r5⟩ := ih (i + 1) _ H4 v4 T1 (by omega) (by omega) (by rw [hdf]; simp only [List.length_append]; omega) hrow4 hB4 f3 f6 f7 (by rw [f8]; simp)
    refine ⟨T', H', v', by rw [e0, r1], by omega, fun x hx hxb => by rw [r3 x hx hxb, hf4 x hx hxb], ?_, r5⟩
    rw [hdf] at r4
    simpa [List.append_assoc] using r4
end Go.Proofs.YtjbcjcibnjbpcaaDoor.Idl
namespace Go.Proofs.YtjbcjcibnjbpcaaDoor.Idl
open Go
set_option maxHeartbeats 16000000
set_option maxRecDepth 100000
set_option linter.unusedSimpArgs false
theorem c17 (H : IH) (v : Value) (l : List (Nat × Tk)) (hl : l.length < 2 ^ 30) (hok : ∀ t ∈ l, TokOk t.2) (hsz : (prF true l).length < 2 ^ 39)
    (hv : (v = .slice none 0 0 ∧ l = []) ∨ ∃ tb c, v = .slice (some ⟨tb, 0, none⟩) l.length c ∧ tb < H.next ∧ TkRow H tb l) :
    ∃ H', Fr H.next H H' ∧ cal J okAll 17 #[v] H = some (.ret (.string (strOf (prF true l))), H') := by
  have hB : Bd (H.push (.cells [.pointer none, .slice none 0 0] 53 false)) H.next (.slice none 0 0) [] (H.next + 1) :=
    ⟨by omega, by simp, none, IH.get_push_same _ _, .inl rfl, .inl ⟨rfl, rfl⟩, fun _ => rfl⟩
  rw [cal17 _ _ (by simp)]
  rcases hv with ⟨rfl, rfl⟩ | ⟨tb, c, rfl, htb, hrow⟩
  · obtain ⟨H', f, e⟩ := c29 _ _ _ _ _ hB (by simp)
    refine ⟨H', ⟨by have := f.1; simp at this; omega, fun x hx => by rw [f.2 x (by simp; omega) (by omega) (fun ⟨n, k, ho⟩ => by cases ho), IH.get_push_other _ _ _ hx]⟩, ?_⟩
    simp [C17, R17, regsOf, fin, iresult1, inew, Value.cells]
    generalize hX : run J okAll (.loop L17_0) _ _ = X
    have : ∃ T', X = some (.exit 0, T', H.push (.cells [.pointer none, .slice none 0 0] 53 false)) ∧ T'.at 3 = .pointer (some ⟨H.next, 0, none⟩) := by
      rw [← hX, r_loop]
      simp [L17_0]
    obtain ⟨T', e1, e2⟩ := this
    rw [e1]
    simp [e2, e, fin, iresult1, prF]
  · have hne : tb ≠ H.next := by omega
    have hrow1 : TkRow (H.push (.cells [.pointer none, .slice none 0 0] 53 false)) tb l := fun i hi => by rw [IH.get_push_other _ _ _ htb]; exact hrow i hi
    have key := fun T => loop17 tb H.next (H.next + 1) c l hl (by omega) hne hok _ 0 [] _ (.slice none 0 0) T rfl (by omega) (by simpa using hsz) hrow1 hB
    simp [C17, R17, regsOf, fin, iresult1, inew, Value.cells]
    generalize hX : run J okAll (.loop L17_0) _ _ = X
    obtain ⟨T1, e1, t3, t6, t7, t8⟩ : ∃ T1, run J okAll (.loop L17_0) T1 (H.push (.cells [.pointer none, .slice none 0 0] 53 false)) = X ∧ T1.at 3 = .pointer (some ⟨H.next, 0, none⟩) ∧ T1.at 6 = .slice (some ⟨tb, 0, none⟩) l.length c ∧ T1.at 7 = .int .i64 (l.length : Int) ∧ T1.at 8 = .int .i64 ((0 : Nat) : Int) :=
      ⟨_, hX, by simp, by simp, by simp, by simp⟩
    obtain ⟨T', H', v', r1, r2, r3, r4, r5⟩ := key T1 t3 t6 t7 t8
    simp only [List.drop_zero, List.nil_append, decide_true] at r4
    obtain ⟨H2, f, e⟩ := c29 _ _ _ _ _ r4 hsz
    rw [← e1, r1]
    refine ⟨H2, ⟨by have := f.1; simp at r2; omega, fun x hx => ?_⟩, ?_⟩
    · rw [f.2 x (by simp at r2; omega) (by omega) (fun ho => by have := r4.own ho; omega), r3 x (by omega) (by omega), IH.get_push_other _ _ _ hx]
    · simp [r5, e, fin, iresult1]
def exA : ByteArray := ⟨#[118, 97, 108, 32, 120, 61, 126, 49]⟩
def exB : ByteArray := ⟨#[40, 42, 32, 97, 32, 40, 42, 32, 98, 32, 42, 41, 32, 42, 41, 32, 99]⟩
def exC : ByteArray := ⟨#[52, 54, 49, 49, 54, 56, 54, 48, 49, 56, 52, 50, 55, 51, 56, 55, 57, 48, 52]⟩
def toksA : List (Nat × Tk) := [(0, ⟨6, ⟨#[118, 97, 108]⟩, 0, 3, true⟩), (4, ⟨3, ⟨#[120]⟩, 0, 5, true⟩), (5, ⟨6, ⟨#[61]⟩, 0, 6, true⟩), (6, ⟨6, ⟨#[126]⟩, 0, 7, true⟩), (7, ⟨1, ⟨#[]⟩, 1, 8, true⟩)]
def toksB : List (Nat × Tk) := [(16, ⟨3, ⟨#[99]⟩, 0, 17, true⟩)]
theorem lexA : lexR exA = .ok toksA := by kernel_rfl
theorem lexB : lexR exB = .ok toksB := by kernel_rfl
theorem lexC : lexR exC = .err 10 0 := by kernel_rfl
theorem okA : ∀ t ∈ toksA, TokOk t.2 := by
  intro t ht
  simp only [toksA, List.mem_cons, List.not_mem_nil, or_false] at ht
  rcases ht with rfl | rfl | rfl | rfl | rfl
  · exact ⟨fun h => absurd h (by decide), fun h => absurd h (by decide)⟩
  · exact ⟨fun h => absurd h (by decide), fun h => absurd h (by decide)⟩
  · exact ⟨fun h => absurd h (by decide), fun h => absurd h (by decide)⟩
  · exact ⟨fun h => absurd h (by decide), fun h => absurd h (by decide)⟩
  · exact ⟨fun _ => fmt_ok 1 (by omega) (by omega), fun h => absurd h (by decide)⟩
theorem prA : strOf (prF true toksA) = ⟨#[118, 97, 108, 32, 120, 32, 61, 32, 126, 32, 49]⟩ := by kernel_rfl
end Go.Proofs.YtjbcjcibnjbpcaaDoor.Idl
namespace Go.Proofs.YtjbcjcibnjbpcaaDoor.Idl
open Go
set_option maxHeartbeats 16000000
set_option maxRecDepth 100000
set_option linter.unusedSimpArgs false
theorem c16 (H : IH) (hG : Glob H) : ∃ H', Fr H.next H H' ∧ cal J okAll 16 #[] H = some (.ret (.bool true), H') := by
  have h9 := hG.2.2
  obtain ⟨H1, v1, f1, e1, hv1⟩ := c13 H exA hG (by decide)
  have hG1 := hG.mono h9 f1
  obtain ⟨H2, v2, f2, e2, hv2⟩ := c13 H1 exB hG1 (by decide)
  have f12 : Fr H.next H H2 := f1.trans' f2 f1.1
  have hG2 := hG.mono h9 f12
  obtain ⟨H3, v3, f3, e3, hv3⟩ := c13 H2 exC hG2 (by decide)
  have f13 : Fr H.next H H3 := f12.trans' f3 f12.1
  rw [lexA] at e1 hv1
  rw [lexB] at e2 hv2
  rw [lexC] at e3 hv3
  obtain ⟨b1, l1, rfl, g1⟩ : ∃ b1, b1 < H1.next ∧ v1 = .slice (some ⟨b1, 0, none⟩) 5 capU ∧ H1.get b1 = some (.cells (toksA.map tkC).flatten 31 false) := by
    rcases hv1.2 with ⟨_, h⟩ | ⟨b, _, h2, h3, h4⟩
    · cases h
    · exact ⟨b, h2, h3, h4⟩
  obtain ⟨b2, l2, rfl, g2⟩ : ∃ b2, b2 < H2.next ∧ v2 = .slice (some ⟨b2, 0, none⟩) 1 capU ∧ H2.get b2 = some (.cells (toksB.map tkC).flatten 31 false) := by
    rcases hv2.2 with ⟨_, h⟩ | ⟨b, _, h2, h3, h4⟩
    · cases h
    · exact ⟨b, h2, h3, h4⟩
  have g13 : H3.get b1 = some (.cells (toksA.map tkC).flatten 31 false) := by rw [f3.2 b1 (by have := f2.1; omega), f2.2 b1 l1]; exact g1
  have g23 : H3.get b2 = some (.cells (toksB.map tkC).flatten 31 false) := by rw [f3.2 b2 l2]; exact g2
  have hv13 : TksAt H3 (.slice (some ⟨b1, 0, none⟩) toksA.length capU) toksA H.next := ⟨hv1.1, .inr ⟨b1, by
    rcases hv1.2 with ⟨_, h⟩ | ⟨b, h1, h2, h3, h4⟩
    · cases h
    · simp only [Value.slice.injEq, Option.some.injEq, Addr.mk.injEq] at h3; omega, by have := f2.1; have := f3.1; omega, rfl, g13⟩⟩
  obtain ⟨H4, f4, e4⟩ := c17 H3 (.slice (some ⟨b1, 0, none⟩) 5 capU) toksA (by decide) okA (by decide) (.inr ⟨b1, capU, rfl, by have := f2.1; have := f3.1; omega, fun i hi => tks_cell hv13 hi⟩)
  rw [prA] at e4
  refine ⟨H4, f13.trans' f4 f13.1, ?_⟩
  unfold exA at e1
  unfold exB at e2
  unfold exC at e3
  have x1 : cellOf (H3.get b1) 19 = some (.int .i64 1) := by rw [g13]; rfl
  have x2 : cellOf (H3.get b1) 14 = some (.string ⟨#[126]⟩) := by rw [g13]; rfl
  have x3 : cellOf (H3.get b2) 1 = some (.int .i64 16) := by rw [g23]; rfl
  simp only [LR.errno, LR.pos] at e1 e2 e3
  rw [cal16 _ _ (by simp)]
  simp [C16, R16, regsOf, fin, iresult1, e1, e2, e3, e4, iindexAddr, x1, x2, x3]
theorem lexF_len (s : ByteArray) : ∀ (k p : Nat) (acc : List (Nat × Tk)), acc.length ≤ 4000 → (lexF s k p acc).toks.length ≤ 4000 := by
  intro k
  induction k with
  | zero => intro p acc _; simp [lexF, LR.toks]
  | succ k ih =>
    intro p acc h
    simp only [lexF]
    split
    · simp [LR.toks]
    · split
      · exact h
      · split
        · simp [LR.toks]
        · split
          · simp [LR.toks]
          · exact ih _ _ (by simp; omega)
theorem lexR_len (s : ByteArray) : (lexR s).toks.length ≤ 4000 := by
  unfold lexR
  split
  · simp [LR.toks]
  · exact lexF_len s _ _ [] (by simp)
theorem c3 (H : IH) (hG : Glob H) (s : ByteArray) : ∃ H', Fr H.next H H' ∧ cal J okAll 3 #[.string s] H = some (.ret (.bool true), H') := by
  have h9 := hG.2.2
  have hs := cutF_size s
  have k := c12 H s
  obtain ⟨H1, v1, f1, e1, hv1⟩ := c13 H (cutF s) hG (by omega)
  have hG1 := hG.mono h9 f1
  obtain ⟨H2, v2, f2, e2, hv2⟩ := c14 H1 (cutF s) (by omega)
  have f12 : Fr H.next H H2 := f1.trans' f2 f1.1
  have hG2 := hG.mono h9 f12
  have hlen : (lexR (cutF s)).toks.length < 2 ^ 39 := by
    have := lexR_len (cutF s)
    omega
  have hv1' : TksAt H2 v1 (lexR (cutF s)).toks H.next := hv1.mono f2.1 (fun x hx1 hx2 => f2.2 x hx2)
  have hv2' : TksAt H2 v2 (lexR (cutF s)).toks H.next := hv2.low f1.1
  have e15 := c15 H2 v1 v2 _ H.next hlen hv1' hv2'
  obtain ⟨H3, f3, e16⟩ := c16 H2 hG2
  refine ⟨H3, f12.trans' f3 f12.1, ?_⟩
  rw [cal3 _ _ (by simp)]
  simp [C3, R3, regsOf, fin, iresult1, k, e1, e2, e15, e16]
end Go.Proofs.YtjbcjcibnjbpcaaDoor.Idl
namespace Go.Proofs.YtjbcjcibnjbpcaaDoor.Idl
open Go Go.ChangeShapes Go.WideShapes Go.ChangeAt Go.RowKit
set_option maxRecDepth 100000
set_option linter.unusedSimpArgs false
theorem laid_mem {P : Program} {w : World} : ∀ (l : List (String × DataW Unit)) (ps : List MemPlace), DataW.LaidVars P w l ps → ∀ x ∈ l, ∃ g t cs fuel p, P.globalNamed x.1 = some g ∧ (P.globals[g]?).map (·.type) = some t ∧ w.var? P x.1 = some cs ∧
    DataW.trod (fun _ => ()) P w 0 (fun _ => true) false fuel t cs.toList = some (x.2, p) ∧ ∀ y ∈ MemPlace.row ⟨g, 0, none⟩ cs.size, y ∈ ps := by
  intro l
  induction l with
  | nil => intro ps _ x hx; simp at hx
  | cons a l ih =>
    intro ps h x hx
    obtain ⟨n, d⟩ := a
    obtain ⟨g, t, cs, fuel, p, q, h1, h2, h3, h4, h5, h6⟩ := h
    rcases List.mem_cons.1 hx with rfl | hx
    · exact ⟨g, t, cs, fuel, p, h1, h2, h3, h4, fun y hy => by rw [h6]; simp [hy]⟩
    · obtain ⟨g', t', cs', fuel', p', k1, k2, k3, k4, k5⟩ := ih q h5 x hx
      exact ⟨g', t', cs', fuel', p', k1, k2, k3, k4, fun y hy => by rw [h6]; simp [k5 y hy]⟩
theorem var_heap {P : Program} {w : World} {n : String} {g : Nat} {cs : Array Value} (hg : P.globalNamed n = some g) (h : w.var? P n = some cs) : ∃ t fr, w.heap[g]? = some (.cells cs t fr) := by
  unfold World.var? at h
  rw [hg] at h
  simp only [Option.bind_some] at h
  split at h
  · rename_i e; cases h; exact ⟨_, _, e⟩
  · cases h
def aspD : List Int := (List.range 256).map fun c : Nat => spI (c : Int)
theorem ascii_heap {W : World} (h : laidMet Tryd.prog Rows.lexReadsRow.laid W) : ∃ rc re fr, W.heap[0]? = some (.cells rc re fr) ∧ rc.size = 256 ∧ ∀ c : Nat, c < 256 → rc[c]? = some (.int .u8 (spI c)) := by
  obtain ⟨ps, hv, _, _⟩ := h
  obtain ⟨g, t, cs, fuel, p, hg, ht, hvar, hd, _⟩ := laid_mem _ _ hv ("strings.asciiSpace", Rows.laid_strings_asciiSpace) (by simp [Rows.lexReadsRow])
  simp only at hg ht hvar hd
  obtain rfl := Option.some.inj ((show Tryd.prog.globalNamed "strings.asciiSpace" = some 0 by kernel_rfl).symm.trans hg)
  obtain rfl := Option.some.inj ((show (Tryd.prog.globals[0]?).map (·.type) = some 77 by kernel_rfl).symm.trans ht)
  obtain ⟨t', fr, hh⟩ := var_heap hg hvar
  have c5 : Tryd.prog.cellsOf 5 = 1 := by kernel_rfl
  have c77 : Tryd.prog.cellsOf 77 = 256 := by kernel_rfl
  have hu5 : Tryd.prog.underlying 5 = some (.int .u8) := by kernel_rfl
  have hlen : aspD.length = 256 := by kernel_rfl
  have hlay : (Rows.laid_strings_asciiSpace : DataW Unit) = .agg (aspD.map fun n => .lit (.int .u8 n)) := by kernel_rfl
  obtain ⟨xs, m, _, ex, hcl, hl, hel⟩ := DataW.trod_array (show Tryd.prog.underlying 77 = some (.array 256 5) by kernel_rfl) hd
  rw [c77] at hcl
  refine ⟨cs, t', fr, hh, by simpa using hcl, fun r hr => ?_⟩
  have hE := hel r hr
  rw [c5, Nat.mul_one, List.getElem?_eq_getElem (by omega)] at hE
  obtain ⟨z, e1, e2, _⟩ := DataW.trod_int hu5 hE
  rw [hlay] at ex
  have e3 : (xs.map (·.1)) = aspD.map fun n => .lit (.int .u8 n) := (DataW.agg.inj (Prod.mk.inj ex).1).symm
  have e4 : (xs.map (·.1))[r]? = (aspD.map fun n => (DataW.lit (.int .u8 n) : DataW Unit))[r]? := by rw [e3]
  rw [List.getElem?_map, List.getElem?_map, List.getElem?_eq_getElem (by omega : r < xs.length), List.getElem?_eq_getElem (by omega : r < aspD.length), e2] at e4
  have hz : z = spI (r : Int) := by
    simp only [Option.map_some, Option.some.injEq, DataW.lit.injEq, Lit.int.injEq, true_and] at e4
    rw [e4]
    simp [aspD]
  have : cs.toList[r]? = some (.int .u8 z) := by
    have h0 : ((cs.toList.drop r).take 1)[0]? = some (.int .u8 z) := by rw [e1]; rfl
    simpa using h0
  rw [← hz]
  simpa using this
theorem err_heap {W : World} (h : laidMet Tryd.prog Rows.lexReadsRow.laid W) : ∃ rc re fr a, W.heap[4]? = some (.cells rc re fr) ∧ rc[0]? = some (.iface 129 (.pointer (some a))) ∧ a.spot = none := by
  obtain ⟨ps, hv, _, hok⟩ := h
  obtain ⟨g, t, cs, fuel, p, hg, ht, hvar, hd, hps⟩ := laid_mem _ _ hv ("strconv.ErrRange", Rows.laid_strconv_ErrRange) (by simp [Rows.lexReadsRow])
  simp only at hg ht hvar hd
  obtain rfl := Option.some.inj ((show Tryd.prog.globalNamed "strconv.ErrRange" = some 4 by kernel_rfl).symm.trans hg)
  obtain rfl := Option.some.inj ((show (Tryd.prog.globals[4]?).map (·.type) = some 55 by kernel_rfl).symm.trans ht)
  obtain ⟨t', fr, hh⟩ := var_heap hg hvar
  have hu : Tryd.prog.underlying 55 = some (TypeDesc.interface #[("Error", 60)]) := by kernel_rfl
  cases fuel with
  | zero => simp [DataW.trod] at hd
  | succ fuel =>
  obtain ⟨L, hL⟩ : ∃ L, L = cs.toList := ⟨_, rfl⟩
  rw [← hL] at hd
  have key : ∃ u v y, L = [.iface u v] ∧ Tryd.prog.typeName? 3 u = some "*errors.errorString" ∧ DataW.trod (fun _ => ()) Tryd.prog W 0 (fun _ => true) false fuel u v.cells.toList = some y ∧ y.1 = .ptr (.agg [.lit (.string [118, 97, 108, 117, 101, 32, 111, 117, 116, 32, 111, 102, 32, 114, 97, 110, 103, 101])]) := by
    cases L with
    | nil => simp [DataW.trod, hu] at hd
    | cons x r => cases r with
      | cons y r => simp [DataW.trod, hu] at hd
      | nil =>
        cases x <;> try (simp [DataW.trod, hu] at hd; done)
        case nilIface => simp [DataW.trod, hu, Rows.laid_strconv_ErrRange] at hd
        case iface u v =>
          simp only [DataW.trod, hu] at hd
          cases hn : Tryd.prog.typeName? 3 u with
          | none => rw [hn] at hd; cases hd
          | some name =>
            rw [hn] at hd
            simp only at hd
            cases hq : DataW.trod (fun _ => ()) Tryd.prog W 0 (fun _ => true) false fuel u v.cells.toList with
            | none => rw [hq] at hd; cases hd
            | some y =>
              rw [hq] at hd
              simp only [Option.map_some, Option.some.injEq, Prod.mk.injEq, Rows.laid_strconv_ErrRange, DataW.iface.injEq] at hd
              exact ⟨u, v, y, rfl, by rw [hn, hd.1.1], hq, hd.1.2⟩
  obtain ⟨u, v, y, rfl, hname, htr, hy⟩ := key
  have hstar : "*" ++ "errors.errorString" = "*errors.errorString" := by decide
  have hu129 : u = 129 := typeName_ptr_named (nm := "errors.errorString") (tp := 129) (by rw [hstar]; kernel_rfl) (by kernel_rfl) (by decide) u (by rw [hstar]; exact hname)
  subst hu129
  have hu2 : Tryd.prog.underlying 129 = some (.pointer 131) := by kernel_rfl
  have hcs : cs[0]? = some (.iface 129 v) := by
    have : cs.toList[0]? = some (.iface 129 v) := by rw [← hL]; rfl
    simpa using this
  have hcell : W.cell? ⟨4, 0, none⟩ = some (.iface 129 v) := by rw [cell_at hh]; exact hcs
  have hsz : cs.size = 1 := by
    have := congrArg List.length hL
    simpa using this.symm
  obtain ⟨_, hwide⟩ := hok 4 0 (hps _ (by rw [hsz]; decide))
  obtain ⟨a, rfl⟩ := okWide_pointer hu2 (hwide _ _ hcell)
  rcases DataW.trod_pointer hu2 htr with ⟨h1, h2⟩ | ⟨a', cs', y', n, _, h1, _, h3, _⟩
  · rw [h2] at hy; cases hy
  · have ha : a = some a' := by
      have : [Value.pointer a] = [.pointer (some a')] := h1
      simpa using this
    subst ha
    refine ⟨cs, t', fr, a', hh, hcs, ?_⟩
    have c131 : Tryd.prog.cellsOf 131 = 1 := by kernel_rfl
    rw [c131] at h3
    unfold World.cells? at h3
    simp only [Nat.zero_le, if_true] at h3
    have : ∃ v0, W.cell? (a'.add 0) = some v0 := by
      rw [show List.range 1 = [0] from rfl] at h3
      cases hq : W.cell? (a'.add 0) with
      | some v0 => exact ⟨v0, rfl⟩
      | none => simp [hq] at h3
    obtain ⟨v0, hv0⟩ := this
    have hs := World.cell?_spot hv0
    simpa [Addr.add] using hs
theorem pow_tab {W : World} (h : laidMet Tryd.prog Rows.lexReadsRow.laid W) : Lib.TabIs Tryd.prog W "internal/strconv.uint64pow10" .u64 Lib.pow10Tab := by
  obtain ⟨ps, hv, _, _⟩ := h
  obtain ⟨g, t, cs, fuel, p, hg, ht, hvar, hd, _⟩ := laid_mem _ _ hv ("internal/strconv.uint64pow10", Rows.laid_internal_strconv_uint64pow10) (by simp [Rows.lexReadsRow])
  simp only at hg ht hvar hd
  obtain rfl := Option.some.inj ((show Tryd.prog.globalNamed "internal/strconv.uint64pow10" = some 2 by kernel_rfl).symm.trans hg)
  obtain rfl := Option.some.inj ((show (Tryd.prog.globals[2]?).map (·.type) = some 107 by kernel_rfl).symm.trans ht)
  rw [show (Rows.laid_internal_strconv_uint64pow10 : DataW Unit) = Lib.tabData .u64 Lib.pow10Tab by kernel_rfl] at hd
  unfold Lib.TabIs
  rw [hvar, ← Lib.cells_of_tab (show Tryd.prog.underlying 107 = some (.array 20 87) by kernel_rfl) (by kernel_rfl) (by kernel_rfl) (by kernel_rfl) hd]
theorem keep0 {W : World} (h : laidMet Tryd.prog Rows.lexReadsRow.laid W) : J.keep W.heap.size W := fun w' hw => by
  have hp := pow_tab h
  show Lib.TabIs Tryd.prog w' _ _ _
  have hg : Tryd.prog.globalNamed "internal/strconv.uint64pow10" = some 2 := by kernel_rfl
  obtain ⟨t, fr, hh⟩ := var_heap hg hp
  unfold Lib.TabIs at hp ⊢
  rw [← hp]
  unfold World.var?
  rw [hg]
  simp only [Option.bind_some]
  rw [hw 2 (heap_lt hh)]
end Go.Proofs.YtjbcjcibnjbpcaaDoor.Idl
namespace Go.Proofs.YtjbcjcibnjbpcaaDoor.Idl
open Go Go.ChangeShapes Go.WideShapes Go.ChangeAt Go.RowKit
set_option maxRecDepth 100000
set_option linter.unusedSimpArgs false
def aspB : Blk := .cells (aspD.map (Value.int .u8)) 77 true
theorem aspB_ok : AspB aspB := by
  refine ⟨_, true, rfl, by kernel_rfl, fun c hc => ?_⟩
  simp [aspD, hc]
def H0 : IH := { next := 10, t := (Tr.leaf.set 0 aspB).set 4 (.cells [.iface 129 (.pointer (some ⟨9, 0, none⟩))] 55 true) }
theorem H0_get (b : Nat) (x : Blk) (h : H0.get b = some x) : (b = 0 ∧ x = aspB) ∨ (b = 4 ∧ x = .cells [.iface 129 (.pointer (some ⟨9, 0, none⟩))] 55 true) := by
  unfold H0 IH.get at h
  simp only [Tr.get_set] at h
  split at h
  · rename_i e; exact .inr ⟨e, (Option.some.inj h).symm⟩
  · split at h
    · rename_i e; exact .inl ⟨e, (Option.some.inj h).symm⟩
    · simp [Tr.get_leaf] at h
theorem H0_glob : Glob H0 := by
  refine ⟨⟨aspB, aspB_ok, ?_⟩, ⟨_, ⟨129, ⟨9, 0, none⟩, true, rfl⟩, ?_⟩, ?_⟩
  · unfold H0 IH.get; simp only [Tr.get_set]; rfl
  · unfold H0 IH.get; simp only [Tr.get_set]; rfl
  · decide
theorem start {W : World} (h : laidMet Tryd.prog Rows.lexReadsRow.laid W) : ∃ ι, Sim J W.heap.size ι H0 W := by
  obtain ⟨rc, re, fr, h1, h2, h3⟩ := ascii_heap h
  obtain ⟨rc4, re4, fr4, a, k1, k2, k3⟩ := err_heap h
  have hJ : J.P = Tryd.prog := rfl
  have hsz : Tryd.prog.globals.size = 9 := by kernel_rfl
  refine ⟨fun b => if b = 9 then ⟨a.block, a.off, 0, 0⟩ else if b = 0 then ⟨0, 0, 256, rc.size⟩ else if b = 4 then ⟨4, 0, 1, rc4.size⟩ else ⟨b, 0, 0, 0⟩, ⟨Nat.le_refl _, fun g hg => ?_, fun b x hb => ?_, fun b cs e pr hb => ?_, fun b cs e hb => ?_, fun b es pr hb => ?_, fun b s p hb => ?_, keep0 h, fun b b' x x' hb hb' _ _ _ hw => ?_⟩⟩
  · rw [hJ, hsz] at hg
    have hn : H0.next = 10 := rfl
    refine ⟨by omega, ?_, ?_⟩
    all_goals
      rw [if_neg (by omega)]
      split
      · rename_i e; first | exact e.symm | rfl
      · split
        · rename_i e; first | exact e.symm | rfl
        · rfl
  · have hn : H0.next = 10 := rfl
    rcases H0_get b x hb with ⟨rfl, _⟩ | ⟨rfl, _⟩ <;> omega
  · rcases H0_get b _ hb with ⟨rfl, hx⟩ | ⟨rfl, hx⟩
    · unfold aspB at hx
      cases hx
      refine ⟨rc, re, fr, h1, fun i v hv => ?_, rfl, by simp, fun hf => by cases hf⟩
      rw [List.getElem?_map] at hv
      cases hq : aspD[i]? with
      | none => rw [hq] at hv; cases hv
      | some n =>
        rw [hq] at hv
        cases hv
        have hlen : aspD.length = 256 := by kernel_rfl
        have hi : i < 256 := by rw [← hlen]; exact (List.getElem?_eq_some_iff.1 hq).1
        have hn : n = spI (i : Int) := by
          have : aspD[i]? = some (spI (i : Int)) := by simp [aspD, hi]
          rw [hq] at this; exact Option.some.inj this
        subst hn
        exact ⟨_, by simpa using h3 i hi, .int _ _⟩
    · cases hx
      refine ⟨rc4, re4, fr4, k1, fun i v hv => ?_, rfl, by simp, fun hf => by cases hf⟩
      cases i with
      | zero =>
        cases hv
        refine ⟨_, by simpa using k2, .iface _ (.ptr ⟨rfl, by decide, ?_⟩)⟩
        obtain ⟨ab, ao, asp⟩ := a
        simp only at k3
        subst k3
        simp
      | succ i => simp at hv
  · rcases H0_get b _ hb with ⟨rfl, hx⟩ | ⟨rfl, hx⟩
    · unfold aspB at hx; cases hx
    · cases hx
  · rcases H0_get b _ hb with ⟨rfl, hx⟩ | ⟨rfl, hx⟩
    · unfold aspB at hx; cases hx
    · cases hx
  · rcases H0_get b _ hb with ⟨rfl, hx⟩ | ⟨rfl, hx⟩
    · unfold aspB at hx; cases hx
    · cases hx
  · exfalso
    rcases H0_get b _ hb with ⟨rfl, rfl⟩ | ⟨rfl, rfl⟩ <;> rcases H0_get b' _ hb' with ⟨rfl, rfl⟩ | ⟨rfl, rfl⟩ <;> simp [writable, aspB] at hw
theorem keptBut_of_below {w w' : World} (h : Below w.heap.size w w') (may : MemPlace → Prop) : w.keptBut w' may := by
  have hr := World.keptBut_refl w may
  refine ⟨h.os, h.output, fun i hi => ?_⟩
  rw [h.block i hi]
  exact hr.2.2 i hi
/-- A law that the ideal machine shows to answer true is true. -/
theorem law_calls {W : World} (hL : laidMet Tryd.prog Rows.lexReadsRow.laid W) {f : FuncId} {args : Array Value} {H' : IH} (hf : args.toList.all flat = true) (hc : cal J okAll f args H0 = some (.ret (.bool true), H')) :
    Calls Tryd.prog f args W fun e W' => e = .returned (.bool true) ∧ Below W.heap.size W W' := by
  obtain ⟨ι, hS⟩ := start hL
  obtain ⟨k, hk⟩ := of_cal hc
  have hl : LRel ι H0.next args.toList args.toList := ⟨rfl, fun i x y hx hy => by
    rw [hx] at hy
    cases hy
    have := List.all_eq_true.1 hf x (List.mem_of_getElem? hx)
    exact VRel.ofFlat this⟩
  refine (sound W.heap.size k f args args H0 ι W _ _ hS hl (hk k (Nat.le_refl _))).mono fun e W' hp => ?_
  obtain ⟨ι', _, _, hB, v', rfl, hv⟩ := hp
  cases hv
  exact ⟨rfl, hB⟩
end Go.Proofs.YtjbcjcibnjbpcaaDoor.Idl
namespace Go.Proofs.YtjbcjcibnjbpcaaDoor.Idl
open Go Go.RowKit

section
variable (J : Env) (T : Regs) (H : IH) (dst : Option Tmp) (type : TypeId) (pos : String) (after : Array Edge) (guard : Option (Nat × Bool))
def minV (a b : Value) : Option Value :=
  match a, b with
  | .int k x, .int _ y => some (.int k (min x y))
  | _, _ => none
def maxV (a b : Value) : Option Value :=
  match a, b with
  | .int k x, .int _ y => some (.int k (max x y))
  | _, _ => none
@[simp] theorem minV_int (k k' : IntKind) (x y : Int) : minV (.int k x) (.int k' y) = some (.int k (min x y)) := rfl
@[simp] theorem maxV_int (k k' : IntKind) (x y : Int) : maxV (.int k x) (.int k' y) = some (.int k (max x y)) := rfl
theorem iop_min (x y : Operand) (t u : TypeId) (k k' : IntKind) (a b : Int) (hx : iev T x = .int k a) (hy : iev T y = .int k' b) :
    iop J ⟨dst, .call ⟨.builtin .min, #[x, y], #[t, u]⟩, type, pos, after, guard⟩ T H = some (.val (.int k (min a b)) H) := by
  have e1 : execOp (iev T) ⟨dst, .call ⟨.builtin .min, #[x, y], #[t, u]⟩, type, pos, after, guard⟩ = (do pure (.value (← Builtin.min_ #[t, u] type #[.int k a, .int k' b])) : Sem Next) := by
    simp only [execOp, resolve]
    simp [hx, hy]
    rfl
  have hm : (if b < a then b else a) = min a b := by rw [Int.min_def]; split <;> split <;> omega
  refine ipure_of J T H (by simp [Op.operands, Call.operands, hx, hy, flat, flatN]) ?_ rfl
  rw [e1, ← hm]
  rfl
theorem iop_max (x y : Operand) (t u : TypeId) (k k' : IntKind) (a b : Int) (hx : iev T x = .int k a) (hy : iev T y = .int k' b) :
    iop J ⟨dst, .call ⟨.builtin .max, #[x, y], #[t, u]⟩, type, pos, after, guard⟩ T H = some (.val (.int k (max a b)) H) := by
  have e1 : execOp (iev T) ⟨dst, .call ⟨.builtin .max, #[x, y], #[t, u]⟩, type, pos, after, guard⟩ = (do pure (.value (← Builtin.max_ #[t, u] type #[.int k a, .int k' b])) : Sem Next) := by
    simp only [execOp, resolve]
    simp [hx, hy]
    rfl
  have hm : (if b > a then b else a) = max a b := by rw [Int.max_def]; split <;> split <;> omega
  refine ipure_of J T H (by simp [Op.operands, Call.operands, hx, hy, flat, flatN]) ?_ rfl
  rw [e1, ← hm]
  rfl
@[simp] theorem iop_min_q (x y : Operand) (t u : TypeId) : iop J ⟨dst, .call ⟨.builtin .min, #[x, y], #[t, u]⟩, type, pos, after, guard⟩ T H =
    lenQ (minV (iev T x) (iev T y)) H (iopP J ⟨dst, .call ⟨.builtin .min, #[x, y], #[t, u]⟩, type, pos, after, guard⟩ T H) := by
  cases hx : iev T x with
  | int k a => cases hy : iev T y with
    | int k' b => exact iop_min J T H dst type pos after guard x y t u k k' a b hx hy
    | _ => rfl
  | _ => rfl
@[simp] theorem iop_max_q (x y : Operand) (t u : TypeId) : iop J ⟨dst, .call ⟨.builtin .max, #[x, y], #[t, u]⟩, type, pos, after, guard⟩ T H =
    lenQ (maxV (iev T x) (iev T y)) H (iopP J ⟨dst, .call ⟨.builtin .max, #[x, y], #[t, u]⟩, type, pos, after, guard⟩ T H) := by
  cases hx : iev T x with
  | int k a => cases hy : iev T y with
    | int k' b => exact iop_max J T H dst type pos after guard x y t u k k' a b hx hy
    | _ => rfl
  | _ => rfl
end
end Go.Proofs.YtjbcjcibnjbpcaaDoor.Idl
namespace Go.Proofs.YtjbcjcibnjbpcaaDoor.Idl
open Go
set_option maxHeartbeats 8000000
set_option linter.unusedSimpArgs false
/-- A row of bytes. -/
def ByL (l : List Int) : Prop := ∀ x ∈ l, 0 ≤ x ∧ x < 256
theorem ByL.append {l m : List Int} (h : ByL l) (h' : ByL m) : ByL (l ++ m) := fun x hx => by
  rcases List.mem_append.1 hx with a | a
  · exact h x a
  · exact h' x a
theorem bt_strOf (l : List Int) (h : ByL l) (i : Nat) (hi : i < l.length) : bt (strOf l) i = l[i] := by
  have hx := h l[i] (List.getElem_mem hi)
  unfold bt
  simp only [strOf, List.getElem?_map, List.getElem?_eq_getElem hi, Option.map_some, Option.getD_some]
  have : (UInt8.ofNat (l[i]).toNat).toNat = (l[i]).toNat := by
    rw [UInt8.toNat_ofNat']
    omega
  rw [this]
  omega
/-- From i on the text is l. -/
def At (s : ByteArray) (i : Nat) (l : List Int) : Prop := i + l.length = s.size ∧ ∀ j (h : j < l.length), bt s (i + j) = l[j]
theorem At.start (l : List Int) (h : ByL l) : At (strOf l) 0 l := ⟨by rw [strOf_size]; omega, fun j hj => by rw [Nat.zero_add]; exact bt_strOf l h j hj⟩
theorem At.drop {s : ByteArray} {i : Nat} {l m : List Int} (h : At s i (l ++ m)) : At s (i + l.length) m := by
  refine ⟨by have := h.1; rw [List.length_append] at this; omega, fun j hj => ?_⟩
  have := h.2 (l.length + j) (by rw [List.length_append]; omega)
  rw [List.getElem_append_right (by omega)] at this
  rw [Nat.add_assoc, this]
  congr 1
  omega
theorem At.head {s : ByteArray} {i : Nat} {a : Int} {l : List Int} (h : At s i (a :: l)) : i < s.size ∧ bt s i = a := ⟨by have := h.1; simp at this; omega, by have := h.2 0 (by simp); simpa using this⟩
theorem At.tail {s : ByteArray} {i : Nat} {a : Int} {l : List Int} (h : At s i (a :: l)) : At s (i + 1) l := At.drop (l := [a]) h
theorem prefixB2 (s : ByteArray) (i : Nat) (hi : i ≤ s.size) (a b : UInt8) : prefixB (s.extract i s.size) ⟨#[a, b]⟩ = (decide (i + 2 ≤ s.size) && (decide (bt s i = a.toNat) && decide (bt s (i + 1) = b.toNat))) := by
  cases h : prefixB (s.extract i s.size) ⟨#[a, b]⟩ with
  | true =>
    have hle := prefixB_le s ⟨#[a, b]⟩ i h hi
    have h2 : (ByteArray.mk #[a, b]).size = 2 := rfl
    have e0 := prefixB_bt _ _ h 0 (by omega)
    have e1 := prefixB_bt _ _ h 1 (by omega)
    rw [bt_suf s i 0 (by omega)] at e0
    rw [bt_suf s i 1 (by omega)] at e1
    have b0 : bt ⟨#[a, b]⟩ 0 = a.toNat := rfl
    have b1 : bt ⟨#[a, b]⟩ 1 = b.toNat := rfl
    rw [b0] at e0
    rw [b1] at e1
    rw [Nat.add_zero] at e0
    simp [e0, e1]
    omega
  | false =>
    symm
    rw [Bool.eq_false_iff]
    intro hc
    simp only [Bool.and_eq_true, decide_eq_true_eq] at hc
    obtain ⟨c1, c2, c3⟩ := hc
    have : prefixB (s.extract i s.size) ⟨#[a, b]⟩ = true := by
      unfold prefixB
      have h2 : (ByteArray.mk #[a, b]).size = 2 := rfl
      rw [h2, size_suf]
      simp only [Bool.and_eq_true, decide_eq_true_eq]
      refine ⟨by omega, ?_⟩
      rw [ext_ext s i 0 2 (by omega)]
      have g0 := bt_eq s i (by omega)
      have g1 := bt_eq s (i + 1) (by omega)
      have x0 : s[i] = a := UInt8.toNat_inj.1 (by omega)
      have x1 : s[i + 1] = b := UInt8.toNat_inj.1 (by omega)
      apply ByteArray.ext
      rw [ByteArray.data_extract]
      apply Array.ext
      · simp
        have : s.data.size = s.size := rfl
        omega
      · intro j h1 h3
        have h3' : j < 2 := h3
        have hj : j = 0 ∨ j = 1 := by omega
        rcases hj with rfl | rfl
        · simp
          exact x0
        · simp
          exact x1
    rw [h] at this; cases this
theorem openB (s : ByteArray) (i : Nat) (hi : i ≤ s.size) : prefixB (s.extract i s.size) ⟨#[40, 42]⟩ = (decide (i + 2 ≤ s.size) && (decide (bt s i = 40) && decide (bt s (i + 1) = 42))) := prefixB2 s i hi 40 42
theorem closeB (s : ByteArray) (i : Nat) (hi : i ≤ s.size) : prefixB (s.extract i s.size) ⟨#[42, 41]⟩ = (decide (i + 2 ≤ s.size) && (decide (bt s i = 42) && decide (bt s (i + 1) = 41))) := prefixB2 s i hi 42 41
theorem remL_open (s : ByteArray) (n i : Nat) (d : Int) (l : List Int) (h : At s i (40 :: 42 :: l)) : remL s (n + 1) d i = remL s n (d + 1) (i + 2) := by
  have h0 := h.head
  have h1 := h.tail.head
  simp only [remL]
  rw [if_pos h0.1, openB s i (by omega)]
  simp [h0.2, h1.2]
  omega
theorem remL_close (s : ByteArray) (n i : Nat) (d : Int) (l : List Int) (h : At s i (42 :: 41 :: l)) : remL s (n + 1) d i = if d - 1 = 0 then ((i + 2 : Nat) : Int) else remL s n (d - 1) (i + 2) := by
  have h0 := h.head
  have h1 := h.tail.head
  have h2 : i + 2 ≤ s.size := by omega
  simp only [remL]
  rw [if_pos h0.1, openB s i (by omega), closeB s i (by omega)]
  simp [h0.2, h1.2, h2]
theorem remL_other (s : ByteArray) (n i : Nat) (d a : Int) (l : List Int) (h : At s i (a :: l)) (h40 : a ≠ 40) (h42 : a ≠ 42) : remL s (n + 1) d i = remL s n d (i + 1) := by
  have h0 := h.head
  simp only [remL]
  rw [if_pos h0.1, openB s i (by omega), closeB s i (by omega)]
  simp [h0.2, h40, h42]
theorem remL_none (s : ByteArray) (n i : Nat) (d : Int) (h : s.size ≤ i) : remL s (n + 1) d i = -1 := by simp only [remL]; rw [if_neg (by omega)]
def opL : List Int := [40, 42, 32, 98, 32]
def clL : List Int := [42, 41, 32]
theorem rem_opens (s : ByteArray) (r : List Int) : ∀ (k n i : Nat) (d : Int), At s i ((List.replicate k opL).flatten ++ r) → remL s (n + 4 * k) d i = remL s n (d + k) (i + 5 * k) ∧ At s (i + 5 * k) r := by
  intro k
  induction k with
  | zero => intro n i d h; simpa using h
  | succ k ih =>
    intro n i d h
    rw [List.replicate_succ, List.flatten_cons, List.append_assoc] at h
    have h5 := At.drop (l := opL) h
    have h1 : At s i (40 :: 42 :: 32 :: 98 :: 32 :: ((List.replicate k opL).flatten ++ r)) := h
    have h3 := h1.tail.tail
    obtain ⟨e1, e2⟩ := ih n (i + 5) (d + 1) h5
    rw [show n + 4 * (k + 1) = n + 4 * k + 1 + 1 + 1 + 1 by omega, remL_open s _ i d _ h1, remL_other s _ _ _ 32 _ h3 (by decide) (by decide), remL_other s _ _ _ 98 _ h3.tail (by decide) (by decide), remL_other s _ _ _ 32 _ h3.tail.tail (by decide) (by decide)]
    rw [show i + 2 + 1 + 1 + 1 = i + 5 by omega, e1]
    refine ⟨?_, by rw [show i + 5 * (k + 1) = i + 5 + 5 * k by omega]; exact e2⟩
    congr 1
    · push_cast; omega
    · omega
theorem rem_closes (s : ByteArray) (r : List Int) : ∀ (k n i : Nat) (d : Int), (k : Int) < d → At s i ((List.replicate k clL).flatten ++ r) → remL s (n + 2 * k) d i = remL s n (d - k) (i + 3 * k) ∧ At s (i + 3 * k) r := by
  intro k
  induction k with
  | zero => intro n i d _ h; simpa using h
  | succ k ih =>
    intro n i d hd h
    rw [List.replicate_succ, List.flatten_cons, List.append_assoc] at h
    have h3 := At.drop (l := clL) h
    have h1 : At s i (42 :: 41 :: 32 :: ((List.replicate k clL).flatten ++ r)) := h
    push_cast at hd
    obtain ⟨e1, e2⟩ := ih n (i + 3) (d - 1) (by omega) h3
    rw [show n + 2 * (k + 1) = n + 2 * k + 1 + 1 by omega, remL_close s _ i d _ h1, if_neg (by omega), remL_other s _ _ _ 32 _ h1.tail.tail (by decide) (by decide)]
    rw [show i + 2 + 1 = i + 3 by omega, e1]
    refine ⟨?_, by rw [show i + 3 * (k + 1) = i + 3 + 3 * k by omega]; exact e2⟩
    congr 1
    · push_cast; omega
    · omega
end Go.Proofs.YtjbcjcibnjbpcaaDoor.Idl
namespace Go.Proofs.YtjbcjcibnjbpcaaDoor.Idl
open Go
set_option maxHeartbeats 8000000
set_option maxRecDepth 100000
set_option linter.unusedSimpArgs false
def deepL (n m : Nat) : List Int := [97, 32] ++ ((List.replicate n opL).flatten ++ ((List.replicate m clL).flatten ++ [99]))
theorem byl_rep (l : List Int) (h : ByL l) (n : Nat) : ByL (List.replicate n l).flatten := by
  induction n with
  | zero => intro x hx; simp at hx
  | succ n ih => rw [List.replicate_succ, List.flatten_cons]; exact h.append ih
theorem byl_op : ByL opL := by intro x hx; simp [opL] at hx; omega
theorem byl_cl : ByL clL := by intro x hx; simp [clL] at hx; omega
theorem byl_deep (n m : Nat) : ByL (deepL n m) :=
  ByL.append (by intro x hx; simp at hx; omega) (ByL.append (byl_rep _ byl_op n) (ByL.append (byl_rep _ byl_cl m) (by intro x hx; simp at hx; omega)))
theorem rep_len (l : List Int) (n : Nat) : ((List.replicate n l).flatten).length = n * l.length := by simp
theorem deep_len (n m : Nat) : (deepL n m).length = 2 + 5 * n + 3 * m + 1 := by
  simp only [deepL, List.length_append, rep_len]
  simp [opL, clL]
  omega
/-- A name of one letter that a byte follows which is none of a name's. -/
theorem tok_one (s : ByteArray) (p : Nat) (a : Int) (l : List Int) (h : At s p (a :: l)) (hl : l = [] ∨ ∃ b r, l = b :: r ∧ letterB b = false) (hd : digitB a = false) (h34 : a ≠ 34) (h39 : a ≠ 39) (hs : smallB a = true)
    (x : ByteArray) (hx : strOf [a] = x) (hk : kindW a (lookW x kwL) = 3) : tokF s p = ⟨3, x, 0, p + 1, true⟩ := by
  have h0 := h.head
  have hsp : span letterB s p = p + 1 := by
    rw [span_step letterB s p h0.1, bt_eq s p h0.1, h0.2, letter_of_small (.inl hs), if_pos rfl]
    rcases hl with rfl | ⟨b, r, rfl, hb⟩
    · exact span_end _ _ _ (by have := h.1; simp at this; omega)
    · have h1 := h.tail.head
      rw [span_step letterB s (p + 1) h1.1, bt_eq s (p + 1) h1.1, h1.2, hb]; rfl
  have hex : s.extract p (p + 1) = x := by rw [ext_one s p h0.1, h0.2]; exact hx
  unfold tokF
  rw [h0.2, hd, hsp, hex, hk, hs]
  simp [h34, h39]
theorem rem_at (t : ByteArray) (n m : Nat) (h : At t 0 ((List.replicate n opL).flatten ++ ((List.replicate m clL).flatten ++ [99]))) (hn : 1 ≤ n) (hm : m ≤ n) : remS t = if m < n then -1 else ((8 * n - 1 : Nat) : Int) := by
  have hsz : t.size = 5 * n + 3 * m + 1 := by
    have := h.1
    simp only [List.length_append, rep_len] at this
    simp [opL, clL] at this
    omega
  have hp : prefixB t ⟨#[40, 42]⟩ = true := by
    obtain ⟨k, rfl⟩ : ∃ k, n = k + 1 := ⟨n - 1, by omega⟩
    rw [List.replicate_succ, List.flatten_cons, List.append_assoc] at h
    have h1 : At t 0 (40 :: 42 :: _) := h
    have e := openB t 0 (by omega)
    rw [suf_zero] at e
    rw [e, h1.head.2, h1.tail.head.2]
    have := h1.tail.head.1
    simp
    omega
  unfold remS
  rw [if_pos hp]
  by_cases hlt : m < n
  · rw [if_pos hlt, remL_fuel t (t.size + 1) (t.size + 1 + 1 + 2 * m + 4 * n) 0 0 (by omega) (by omega)]
    obtain ⟨e1, a1⟩ := rem_opens t _ n (t.size + 1 + 1 + 2 * m) 0 0 h
    obtain ⟨e2, a2⟩ := rem_closes t _ m (t.size + 1 + 1) _ (0 + n) (by omega) a1
    rw [e1, e2, remL_other t _ _ _ 99 _ a2 (by decide) (by decide)]
    exact remL_none t _ _ _ (by have := a2.1; simp at this; omega)
  · obtain ⟨k, rfl⟩ : ∃ k, n = k + 1 := ⟨n - 1, by omega⟩
    have hmk : m = k + 1 := by omega
    subst hmk
    rw [if_neg hlt, remL_fuel t (t.size + 1) (t.size + 1 + 1 + 2 * k + 4 * (k + 1)) 0 0 (by omega) (by omega)]
    obtain ⟨e1, a1⟩ := rem_opens t _ (k + 1) (t.size + 1 + 1 + 2 * k) 0 0 h
    have hrep : (List.replicate (k + 1) clL).flatten ++ [99] = (List.replicate k clL).flatten ++ (42 :: 41 :: 32 :: [99]) := by
      rw [List.replicate_succ', List.flatten_append, List.append_assoc]; rfl
    rw [hrep] at a1
    obtain ⟨e2, a2⟩ := rem_closes t _ k (t.size + 1 + 1) _ (0 + ((k + 1 : Nat) : Int)) (by push_cast; omega) a1
    rw [e1, e2, remL_close t _ _ _ _ a2, if_pos (by push_cast; omega)]
    congr 1
    omega
theorem lex_deep (n m : Nat) (hn : 1 ≤ n) (hm : m ≤ n) (hn3 : n ≤ 300) : lexR (strOf (deepL n m)) = if m < n then .err 10 2 else .ok [(0, ⟨3, ⟨#[97]⟩, 0, 1, true⟩), (8 * n + 2, ⟨3, ⟨#[99]⟩, 0, 8 * n + 3, true⟩)] := by
  have hA := At.start _ (byl_deep n m)
  have hsz : (strOf (deepL n m)).size = 2 + 5 * n + 3 * m + 1 := by rw [strOf_size, deep_len]
  generalize strOf (deepL n m) = s at *
  have h1 : At s 0 (97 :: 32 :: ((List.replicate n opL).flatten ++ ((List.replicate m clL).flatten ++ [99]))) := hA
  have h2 : At s 1 (32 :: ((List.replicate n opL).flatten ++ ((List.replicate m clL).flatten ++ [99]))) := h1.tail
  have h3 : At s 2 ((List.replicate n opL).flatten ++ ((List.replicate m clL).flatten ++ [99])) := h2.tail
  have t0 := tok_one s 0 97 _ h1 (.inr ⟨_, _, rfl, rfl⟩) rfl (by decide) (by decide) rfl ⟨#[97]⟩ (by kernel_rfl) (by kernel_rfl)
  have hAt : At (s.extract 2 s.size) 0 ((List.replicate n opL).flatten ++ ((List.replicate m clL).flatten ++ [99])) := ⟨by have := h3.1; rw [size_suf]; omega, fun j hj => by
    rw [bt_suf s 2 _ (by have := h3.1; omega)]; have := h3.2 j hj; rw [Nat.zero_add]; exact this⟩
  have hr := rem_at _ n m hAt hn hm
  have p0 : prefixB (s.extract 0 s.size) ⟨#[40, 42]⟩ = false := by rw [openB s 0 (by omega), h1.head.2]; simp
  have b2 : bt s 2 = 40 := by
    obtain ⟨k, rfl⟩ : ∃ k, n = k + 1 := ⟨n - 1, by omega⟩
    rw [List.replicate_succ, List.flatten_cons, List.append_assoc] at h3
    have h4 : At s 2 (40 :: _) := h3
    exact h4.head.2
  unfold lexR
  rw [if_neg (by omega)]
  rw [lexF_tok s 0 (by omega) (by rw [h1.head.2]; rfl) ((remS_zero _).2 p0), t0]
  simp only [Bool.true_eq_false, if_false, List.length_nil, List.nil_append]
  rw [if_neg (by decide)]
  obtain ⟨f, hf⟩ : ∃ f, s.size = f + 2 := ⟨s.size - 2, by omega⟩
  rw [lexF_blank s (0 + 1) (by omega) (by rw [show 0 + 1 = 1 from rfl, h2.head.2]; rfl)]
  by_cases hlt : m < n
  · rw [if_pos hlt] at hr ⊢
    rw [hf]
    exact lexF_open s 2 (by omega) (by rw [b2]; rfl) (by rw [hr]; decide) _ _
  · rw [if_neg hlt] at hr ⊢
    have hmn : m = n := by omega
    subst hmn
    rw [show 0 + 1 + 1 = 2 from rfl, lexF_remark s 2 (by omega) (by rw [b2]; rfl) (by rw [hr]; omega), hr]
    obtain ⟨k, rfl⟩ : ∃ k, m = k + 1 := ⟨m - 1, by omega⟩
    have hrep : (List.replicate (k + 1) clL).flatten ++ [99] = ((List.replicate k clL).flatten ++ [42, 41]) ++ (32 :: [99]) := by
      rw [List.replicate_succ', List.flatten_append, List.append_assoc, List.append_assoc]; rfl
    rw [hrep, ← List.append_assoc] at h3
    have h5 := At.drop h3
    have hln : 2 + ((List.replicate (k + 1) opL).flatten ++ ((List.replicate k clL).flatten ++ [42, 41])).length = 8 * (k + 1) + 1 := by
      simp only [List.length_append, rep_len]
      simp [opL, clL]
      omega
    rw [hln] at h5
    have e1 : 2 + ((((8 * (k + 1) - 1 : Nat) : Int)).toNat) = 8 * (k + 1) + 1 := by simp; omega
    rw [e1, lexF_blank s _ h5.head.1 (by rw [h5.head.2]; rfl)]
    have h6 := h5.tail
    have t1 := tok_one s _ 99 [] h6 (.inl rfl) rfl (by decide) (by decide) rfl ⟨#[99]⟩ (by kernel_rfl) (by kernel_rfl)
    have p1 : prefixB (s.extract (8 * (k + 1) + 1 + 1) s.size) ⟨#[40, 42]⟩ = false := by rw [openB s _ (by have := h6.head.1; omega), h6.head.2]; simp
    rw [hf, lexF_tok s _ h6.head.1 (by rw [h6.head.2]; rfl) ((remS_zero _).2 p1), t1]
    simp only [Bool.true_eq_false, if_false]
    rw [if_neg (by decide), lexF_end s _ (by omega) (by omega)]
    rfl
end Go.Proofs.YtjbcjcibnjbpcaaDoor.Idl
namespace Go.Proofs.YtjbcjcibnjbpcaaDoor.Idl
open Go
set_option maxHeartbeats 16000000
set_option maxRecDepth 100000
set_option linter.unusedSimpArgs false
theorem sadd (l m : List Int) (h : l.length + m.length < 2 ^ 40) (x y : Operand) (H : IH) : binR J .add 9 x y (.string (strOf l)) (.string (strOf m)) H = some (.val (.string (strOf (l ++ m))) H) := by
  rw [bin_sadd J H 9 x y _ _ (eq_false (by rw [strOf_size, strOf_size]; omega)), strOf_append]
theorem TksAt.slice {H : IH} {v : Value} {l : List (Nat × Tk)} {lo : Nat} (h : TksAt H v l lo) : ∃ a c, v = .slice a l.length c := by
  rcases h.2 with ⟨h1, h2⟩ | ⟨b, _, _, h1, _⟩
  · rw [List.map_eq_nil_iff] at h2; subst h2; exact ⟨_, _, h1⟩
  · rw [List.length_map] at h1; exact ⟨_, _, h1⟩
theorem TksAt.row {H : IH} {v : Value} {l : List (Nat × Tk)} {lo : Nat} (h : TksAt H v l lo) (hl : l ≠ []) : ∃ b, lo ≤ b ∧ b < H.next ∧ v = .slice (some ⟨b, 0, none⟩) l.length capU ∧ H.get b = some (.cells (l.map tkC).flatten 31 false) := by
  rcases h.2 with ⟨h1, h2⟩ | ⟨b, h0, h1, h2, h3⟩
  · rw [List.map_eq_nil_iff] at h2; exact absurd h2 hl
  · rw [List.length_map] at h2; exact ⟨b, h0, h1, h2, h3⟩
theorem loop10_0 (H : IH) (N : Nat) (hN : N ≤ 300) (v0 v1 : Value) : ∀ (k i : Nat) (l : List Int) (T : Regs), N - i = k → i ≤ N → l.length + 5 * k < 2 ^ 30 →
    T.at 0 = v0 → T.at 1 = v1 → T.at 5 = .string (strOf l) → T.at 15 = .int .i64 (N : Int) → T.at 16 = .int .i64 (i : Int) →
    ∃ T', run J okAll (.loop L10_0) T H = some (.exit 0, T', H) ∧ T'.at 0 = v0 ∧ T'.at 1 = v1 ∧ T'.at 5 = .string (strOf (l ++ (List.replicate k opL).flatten)) := by
  intro k
  induction k with
  | zero =>
    intro i l T hk hi hl t0 t1 t5 t15 t16
    have hlt : ¬ ((i : Int) < N) := by omega
    rw [r_loop]
    simp [L10_0, t0, t1, t5, t15, t16, hlt]
  | succ k ih =>
    intro i l T hk hi hl t0 t1 t5 t15 t16
    have hlt : i < N := by omega
    have w1 : IntKind.i64.wrap ((i : Int) + 1) = (i : Int) + 1 := wrap64 _ (by omega) (by omega)
    have hbl : opL.length = 5 := rfl
    have ha := fun x y => sadd l opL (by omega) x y H
    have hc : (⟨#[40, 42, 32, 98, 32]⟩ : ByteArray) = strOf opL := by kernel_rfl
    rw [← hc] at ha
    have : ∃ T1, run J okAll (.loop L10_0) T H = run J okAll (.loop L10_0) T1 H ∧ T1.at 0 = v0 ∧ T1.at 1 = v1 ∧ T1.at 5 = .string (strOf (l ++ opL)) ∧ T1.at 15 = .int .i64 (N : Int) ∧ T1.at 16 = .int .i64 ((i : Int) + 1) := by
      rw [r_loop]
      simp [L10_0, t0, t1, t5, t15, t16, hlt, w1, ha]
      exact ⟨_, rfl, by simp [t0], by simp [t1], by simp, by simp [t15], by simp⟩
    obtain ⟨T1, e0, f0, f1, f5, f15, f16⟩ := this
    obtain ⟨T', g0, g1, g2, g3⟩ := ih (i + 1) (l ++ opL) T1 (by omega) (by omega) (by rw [List.length_append]; omega) f0 f1 f5 f15 (by rw [f16]; simp)
    refine ⟨T', by rw [e0, g0], g1, g2, ?_⟩
    rw [g3, List.replicate_succ, List.flatten_cons, List.append_assoc]
theorem loop10_1 (H : IH) (N : Nat) (hN : N ≤ 300) (v0 v1 : Value) : ∀ (k i : Nat) (l : List Int) (T : Regs), N - i = k → i ≤ N → l.length + 3 * k < 2 ^ 30 →
    T.at 0 = v0 → T.at 1 = v1 → T.at 5 = .string (strOf l) → T.at 23 = .int .i64 (N : Int) → T.at 24 = .int .i64 (i : Int) →
    ∃ T', run J okAll (.loop L10_1) T H = some (.exit 2, T', H) ∧ T'.at 0 = v0 ∧ T'.at 1 = v1 ∧ T'.at 5 = .string (strOf (l ++ (List.replicate k clL).flatten)) := by
  intro k
  induction k with
  | zero =>
    intro i l T hk hi hl t0 t1 t5 t15 t16
    have hlt : ¬ ((i : Int) < N) := by omega
    rw [r_loop]
    simp [L10_1, t0, t1, t5, t15, t16, hlt]
  | succ k ih =>
    intro i l T hk hi hl t0 t1 t5 t15 t16
    have hlt : i < N := by omega
    have w1 : IntKind.i64.wrap ((i : Int) + 1) = (i : Int) + 1 := wrap64 _ (by omega) (by omega)
    have hbl : clL.length = 3 := rfl
    have ha := fun x y => sadd l clL (by omega) x y H
    have hc : (⟨#[42, 41, 32]⟩ : ByteArray) = strOf clL := by kernel_rfl
    rw [← hc] at ha
    have : ∃ T1, run J okAll (.loop L10_1) T H = run J okAll (.loop L10_1) T1 H ∧ T1.at 0 = v0 ∧ T1.at 1 = v1 ∧ T1.at 5 = .string (strOf (l ++ clL)) ∧ T1.at 23 = .int .i64 (N : Int) ∧ T1.at 24 = .int .i64 ((i : Int) + 1) := by
      rw [r_loop]
      simp [L10_1, t0, t1, t5, t15, t16, hlt, w1, ha]
      exact ⟨_, rfl, by simp [t0], by simp [t1], by simp, by simp [t15], by simp⟩
    obtain ⟨T1, e0, f0, f1, f5, f15, f16⟩ := this
    obtain ⟨T', g0, g1, g2, g3⟩ := ih (i + 1) (l ++ clL) T1 (by omega) (by omega) (by rw [List.length_append]; omega) f0 f1 f5 f15 (by rw [f16]; simp)
    refine ⟨T', by rw [e0, g0], g1, g2, ?_⟩
    rw [g3, List.replicate_succ, List.flatten_cons, List.append_assoc]
theorem c10 (H : IH) (hG : Glob H) (n c : Int) : ∃ H', Fr H.next H H' ∧ cal J okAll 10 #[.int .i64 n, .int .i64 c] H = some (.ret (.bool true), H') := by
  have h9 := hG.2.2
  obtain ⟨N, hN⟩ : ∃ N : Nat, max 1 (min n 300) = (N : Int) := ⟨(max 1 (min n 300)).toNat, by omega⟩
  obtain ⟨C, hC⟩ : ∃ C : Nat, max 0 (min c 300) = (C : Int) := ⟨(max 0 (min c 300)).toNat, by omega⟩
  have hN1 : 1 ≤ N ∧ N ≤ 300 := by omega
  obtain ⟨M, hM⟩ : ∃ M : Nat, min (C : Int) (N : Int) = (M : Int) := ⟨min C N, by omega⟩
  have hMN : M ≤ N ∧ (C < N → M < N) ∧ (¬ C < N → M = N) := by omega
  have hlx := lex_deep N M hN1.1 hMN.1 hN1.2
  have hsz : (strOf (deepL N M)).size < 2 ^ 39 := by rw [strOf_size, deep_len]; omega
  obtain ⟨H1, v1, f1, e1, hv1⟩ := c13 H (strOf (deepL N M)) hG hsz
  have hG1 := hG.mono h9 f1
  obtain ⟨H2, f2, e2⟩ := c16 H1 hG1
  refine ⟨H2, f1.trans' f2 f1.1, ?_⟩
  rw [hlx] at e1 hv1
  have k0 := fun T => loop10_0 H N hN1.2 (.int .i64 (N : Int)) (.int .i64 (C : Int)) N 0 [97, 32] T (by omega) (by omega) (by simp; omega)
  have k1 := fun T => loop10_1 H M (by omega) (.int .i64 (N : Int)) (.int .i64 (C : Int)) M 0 ([97, 32] ++ (List.replicate N opL).flatten) T (by omega) (by omega) (by rw [List.length_append, rep_len]; simp [opL]; omega)
  have ha := fun x y => sadd ([97, 32] ++ (List.replicate N opL).flatten ++ (List.replicate M clL).flatten) [99] (by simp only [List.length_append, rep_len]; simp [opL, clL]; omega) x y H
  have hc99 : (⟨#[99]⟩ : ByteArray) = strOf [99] := by kernel_rfl
  have hc97 : (⟨#[97, 32]⟩ : ByteArray) = strOf [97, 32] := by kernel_rfl
  have hdl : [97, 32] ++ (List.replicate N opL).flatten ++ (List.replicate M clL).flatten ++ [99] = deepL N M := by simp only [deepL, List.append_assoc]
  rw [hdl, ← hc99] at ha
  generalize strOf (deepL N M) = s at *
  rw [cal10 _ _ (by simp)]
  simp [C10, R10, regsOf, fin, iresult1, hN, hC]
  generalize hX : run J okAll (.loop L10_0) _ _ = X
  obtain ⟨T1, x1, a0, a1, a5, a15, a16⟩ : ∃ T1, run J okAll (.loop L10_0) T1 H = X ∧ T1.at 0 = .int .i64 (N : Int) ∧ T1.at 1 = .int .i64 (C : Int) ∧ T1.at 5 = .string (strOf [97, 32]) ∧ T1.at 15 = .int .i64 (N : Int) ∧ T1.at 16 = .int .i64 ((0 : Nat) : Int) :=
    ⟨_, hX, by simp, by simp, by simp [hc97], by simp, by simp⟩
  obtain ⟨T2, r1, b0, b1, b5⟩ := k0 T1 a0 a1 a5 a15 a16
  rw [← x1, r1]
  clear hX
  simp [b0, b1, b5, hM]
  generalize hX : run J okAll (.loop L10_1) _ _ = X
  obtain ⟨T3, x3, a0, a1, a5, a15, a16⟩ : ∃ T3, run J okAll (.loop L10_1) T3 H = X ∧ T3.at 0 = .int .i64 (N : Int) ∧ T3.at 1 = .int .i64 (C : Int) ∧ T3.at 5 = .string (strOf ([97, 32] ++ (List.replicate N opL).flatten)) ∧ T3.at 23 = .int .i64 (M : Int) ∧ T3.at 24 = .int .i64 ((0 : Nat) : Int) :=
    ⟨_, hX, by simp [b0], by simp [b1], by simp [b5], by simp, by simp⟩
  obtain ⟨T4, r3, d0, d1, d5⟩ := k1 T3 a0 a1 a5 a15 a16
  rw [← x3, r3]
  clear hX
  generalize strOf ([97, 32] ++ (List.replicate N opL).flatten ++ (List.replicate M clL).flatten) = s2 at d5 ha
  by_cases hlt : C < N
  · rw [if_pos (hMN.2.1 hlt)] at e1 hv1
    obtain ⟨ba, cv, rfl⟩ := hv1.slice
    simp only [LR.errno, LR.pos, LR.toks, List.length_nil] at e1
    simp [d0, d1, d5, ha, e1, hlt, e2, fin, iresult1]
  · rw [if_neg (by omega)] at e1 hv1
    have hltD : decide ((C : Int) < N) = false := decide_eq_false (by omega)
    obtain ⟨b1, _, l1, rfl, g1⟩ := hv1.row (by simp [LR.toks])
    simp only [LR.errno, LR.pos, LR.toks] at e1 g1
    have xc : cellOf (H1.get b1) 6 = some (.string ⟨#[99]⟩) := by rw [g1]; rfl
    simp [d0, d1, d5, ha, e1, hlt, e2, iindexAddr, xc, fin, iresult1]
end Go.Proofs.YtjbcjcibnjbpcaaDoor.Idl
namespace Go.Proofs.YtjbcjcibnjbpcaaDoor.Idl
open Go
set_option maxHeartbeats 8000000
set_option maxRecDepth 100000
set_option linter.unusedSimpArgs false
theorem signF_byte (s : ByteArray) (p : Nat) (c : Int) (hp : p < s.size) (hc : bt s p = c) : ∀ S : List ByteArray, (∀ x ∈ S, 0 < x.size) → signF s p S = signF s p (S.filter fun x => bt x 0 == c) := by
  intro S
  induction S with
  | nil => intro _; rfl
  | cons x S ih =>
    intro h
    have hi := ih (fun y hy => h y (by simp [hy]))
    by_cases hx : bt x 0 = c
    · have hxb : (bt x 0 == c) = true := by simp [hx]
      rw [List.filter_cons, hxb]
      simp only [if_true, signF]
      rw [hi]
    · have hxb : (bt x 0 == c) = false := by simp [hx]
      have hpf : prefixB (s.extract p s.size) x = false := by
        cases h2 : prefixB (s.extract p s.size) x with
        | false => rfl
        | true =>
          have := prefixB_bt _ _ h2 0 (h x (by simp))
          rw [bt_suf s p 0 (by omega), Nat.add_zero, hc] at this
          exact absurd this.symm hx
      rw [List.filter_cons, hxb]
      simp only [Bool.false_eq_true, if_false, signF, hpf]
      exact hi
/-- The token of a semicolon. -/
theorem tok_semi (s : ByteArray) (p : Nat) (hp : p < s.size) (hb : bt s p = 59) : tokF s p = ⟨6, ⟨#[59]⟩, 0, p + 1, true⟩ := by
  have hf : signsL.filter (fun x => bt x 0 == (59 : Int)) = [⟨#[59]⟩] := by kernel_rfl
  have h1 : prefixB (s.extract p s.size) ⟨#[59]⟩ = true := by
    have := prefixB1 (s.extract p s.size) 59
    rw [size_suf, bt_suf s p 0 (by omega), Nat.add_zero, hb] at this
    rw [this]
    simp
    omega
  have hs : signF s p signsL = some ⟨#[59]⟩ := by
    rw [signF_byte s p 59 hp hb signsL signs_pos, hf]
    simp only [signF, h1, if_true]
  unfold tokF
  rw [hb, hs]
  rfl
def semiL : List Int := [59, 32]
theorem byl_semi : ByL semiL := by intro x hx; simp [semiL] at hx; omega
theorem lex_semi (s : ByteArray) (N : Nat) : ∀ (k j f : Nat) (acc : List (Nat × Tk)), N = j + k → At s (2 * j) ((List.replicate k semiL).flatten) → acc.length = j → j ≤ 4000 → s.size < f + 2 * j →
    (N ≤ 4000 → ∃ l, lexF s f (2 * j) acc = .ok l ∧ l.length = N) ∧ (4000 < N → lexF s f (2 * j) acc = .err 2 8000) := by
  intro k
  induction k with
  | zero =>
    intro j f acc hN hA hl hj hf
    have hsz : s.size = 2 * j := by have := hA.1; simp at this; omega
    obtain ⟨f, rfl⟩ : ∃ g, f = g + 1 := ⟨f - 1, by omega⟩
    rw [lexF_end s _ (by omega) (by omega)]
    exact ⟨fun _ => ⟨acc, rfl, by omega⟩, fun h => by omega⟩
  | succ k ih =>
    intro j f acc hN hA hl hj hf
    rw [List.replicate_succ, List.flatten_cons] at hA
    have h1 : At s (2 * j) (59 :: 32 :: (List.replicate k semiL).flatten) := hA
    have h0 := h1.head
    have h2 := h1.tail.head
    have h3 := h1.tail.tail
    obtain ⟨f, rfl⟩ : ∃ g, f = g + 1 := ⟨f - 1, by omega⟩
    have p0 : prefixB (s.extract (2 * j) s.size) ⟨#[40, 42]⟩ = false := by rw [openB s _ (by omega), h0.2]; simp
    rw [lexF_tok s _ h0.1 (by rw [h0.2]; rfl) ((remS_zero _).2 p0), tok_semi s _ h0.1 h0.2]
    simp only [Bool.true_eq_false, if_false]
    by_cases h4 : acc.length = 4000
    · rw [if_pos h4]
      have : j = 4000 := by omega
      subst this
      exact ⟨fun h => by omega, fun _ => rfl⟩
    · rw [if_neg h4, lexF_blank s _ h2.1 (by rw [h2.2]; rfl), show 2 * j + 1 + 1 = 2 * (j + 1) by omega]
      exact ih (j + 1) f _ (by omega) (by rw [show 2 * (j + 1) = 2 * j + 1 + 1 by omega]; exact h3) (by simp; omega) (by omega) (by omega)
theorem lex_blanks (s : ByteArray) : ∀ (k i f : Nat), At s i (List.replicate k 32) → s.size < f + i → lexF s f i [] = .ok [] := by
  intro k
  induction k with
  | zero =>
    intro i f hA hf
    have hsz : s.size = i := by have := hA.1; simp at this; omega
    obtain ⟨f, rfl⟩ : ∃ g, f = g + 1 := ⟨f - 1, by omega⟩
    rw [lexF_end s _ (by omega) (by omega)]
  | succ k ih =>
    intro i f hA hf
    rw [List.replicate_succ] at hA
    rw [lexF_blank s i hA.head.1 (by rw [hA.head.2]; rfl)]
    exact ih (i + 1) f hA.tail (by omega)
theorem byl_32 (n : Nat) : ByL (List.replicate n 32) := fun x hx => by have := List.eq_of_mem_replicate hx; omega
theorem lexR_blanks (n : Nat) : lexR (strOf (List.replicate n 32)) = if 16384 < n then .err 2 0 else .ok [] := by
  have hA := At.start _ (byl_32 n)
  have hsz : (strOf (List.replicate n 32)).size = n := by rw [strOf_size]; simp
  unfold lexR
  rw [hsz]
  by_cases h : 16384 < n
  · rw [if_pos h, if_pos h]
  · rw [if_neg h, if_neg h]
    exact lex_blanks _ n 0 _ hA (by rw [hsz]; omega)
theorem lexR_semi (n : Nat) (hn : n ≤ 5000) : (n ≤ 4000 → ∃ l, lexR (strOf (List.replicate n semiL).flatten) = .ok l ∧ l.length = n) ∧ (4000 < n → lexR (strOf (List.replicate n semiL).flatten) = .err 2 8000) := by
  have hA := At.start _ (byl_rep semiL byl_semi n)
  have hsz : (strOf (List.replicate n semiL).flatten).size = 2 * n := by rw [strOf_size, rep_len]; simp [semiL]; omega
  unfold lexR
  rw [if_neg (by omega)]
  exact lex_semi _ n n 0 _ [] (by omega) hA rfl (by omega) (by omega)
/-- The bytes of the law's second text, one after the other. -/
def patI (j : Nat) : Int := if j % 2 = 0 then 59 else 32
theorem pat_eq (n : Nat) : (List.range (2 * n)).map patI = (List.replicate n semiL).flatten := by
  induction n with
  | zero => rfl
  | succ n ih =>
    rw [show 2 * (n + 1) = 2 * n + 1 + 1 by omega, List.range_succ, List.range_succ, List.map_append, List.map_append, ih, List.replicate_succ', List.flatten_append]
    have e0 : patI (2 * n) = 59 := if_pos (by omega)
    have e1 : patI (2 * n + 1) = 32 := if_neg (by omega)
    simp [e0, e1, semiL]
end Go.Proofs.YtjbcjcibnjbpcaaDoor.Idl
namespace Go.Proofs.YtjbcjcibnjbpcaaDoor.Idl
open Go
set_option maxHeartbeats 16000000
set_option maxRecDepth 100000
set_option linter.unusedSimpArgs false
def rowB (l : List Int) : Blk := .cells (l.map (Value.int .u8)) 5 false
theorem bytesCells_strOf (l : List Int) (h : ByL l) : bytesCells (strOf l) = l.map (Value.int .u8) := by
  unfold bytesCells
  simp only [strOf, List.map_map]
  apply List.map_congr_left
  intro x hx
  have := h x hx
  have e : (UInt8.ofNat x.toNat).toNat = x.toNat := by rw [UInt8.toNat_ofNat']; omega
  simp only [Function.comp, e]
  congr 1
  omega
theorem conv_row (H : IH) (b cap : Nat) (l : List Int) (pr : Bool) (h : H.get b = some (.cells (l.map (Value.int .u8)) 5 pr)) : iconvert J 40 9 (.slice (some ⟨b, 0, none⟩) l.length cap) H = some (.string (strOf l), H) := by
  simp [iconvert, h, take_map, bytesOf_ints, strOf]
theorem rowB_store (done rest : List Int) (x c : Int) : overlay ((done ++ x :: rest).map (Value.int .u8)) done.length [.int .u8 c] = (done ++ c :: rest).map (Value.int .u8) := by
  unfold overlay
  have e1 : (done.map (Value.int IntKind.u8)).length = done.length := by simp
  rw [List.map_append, List.take_append_of_le_length (by simp), List.take_of_length_le (by simp), ← e1]
  rw [show (done.map (Value.int IntKind.u8)).length + [Value.int IntKind.u8 c].length = (done.map (Value.int IntKind.u8)).length + 1 from rfl, ← List.drop_drop, List.drop_left]
  simp
theorem loop11_0 (H : IH) (g c N : Nat) (hN : N ≤ 20000) (v0 : Value) : ∀ (k i : Nat) (T : Regs), i + k = N →
    T.at 0 = v0 → T.at 6 = .slice (some ⟨g, 0, none⟩) N c → T.at 26 = .int .i64 (N : Int) → T.at 27 = .int .i64 (i : Int) →
    ∃ T', run J okAll (.loop L11_0) T (H.set g (rowB (List.replicate i (32 : Int) ++ List.replicate k 0))) = some (.exit 0, T', H.set g (rowB (List.replicate N (32 : Int)))) ∧ T'.at 0 = v0 ∧ T'.at 6 = .slice (some ⟨g, 0, none⟩) N c := by
  intro k
  induction k with
  | zero =>
    intro i T hk t0 t6 t26 t27
    have hiN : i = N := by omega
    subst hiN
    rw [List.replicate_zero, List.append_nil, r_loop]
    simp [L11_0, t0, t6, t26, t27]
  | succ k ih =>
    intro i T hk t0 t6 t26 t27
    have hlt : i < N := by omega
    have w1 : IntKind.i64.wrap ((i : Int) + 1) = (i : Int) + 1 := wrap64 _ (by omega) (by omega)
    have hdl : (List.replicate i (32 : Int)).length = i := by simp
    have hgg : (H.set g (rowB (List.replicate i (32 : Int) ++ List.replicate (k + 1) 0))).get g = some (.cells ((List.replicate i (32 : Int) ++ (0 : Int) :: List.replicate k (0 : Int)).map (Value.int .u8)) 5 false) := by rw [IH.get_set_same]; rfl
    have hst := rowB_store (List.replicate i (32 : Int)) (List.replicate k 0) 0 (32)
    rw [hdl] at hst
    have hov : Blk.cells (overlay ((List.replicate i (32 : Int) ++ (0 : Int) :: List.replicate k (0 : Int)).map (Value.int .u8)) i [.int .u8 (32)]) 5 false = rowB (List.replicate (i + 1) (32 : Int) ++ List.replicate k 0) := by
      rw [hst, List.replicate_succ', List.append_assoc]; rfl
    have hln : ((List.replicate i (32 : Int) ++ (0 : Int) :: List.replicate k (0 : Int)).map (Value.int IntKind.u8)).length = N := by simp; omega
    generalize ((List.replicate i (32 : Int) ++ (0 : Int) :: List.replicate k (0 : Int)).map (Value.int IntKind.u8)) = row at *
    have hle : i + 1 ≤ row.length := by omega
    have : ∃ T1, run J okAll (.loop L11_0) T (H.set g (rowB (List.replicate i (32 : Int) ++ List.replicate (k + 1) 0))) = run J okAll (.loop L11_0) T1 (H.set g (rowB (List.replicate (i + 1) (32 : Int) ++ List.replicate k 0))) ∧ T1.at 0 = v0 ∧ T1.at 6 = .slice (some ⟨g, 0, none⟩) N c ∧ T1.at 26 = .int .i64 (N : Int) ∧ T1.at 27 = .int .i64 ((i : Int) + 1) := by
      rw [← hov]
      generalize rowB (List.replicate i (32 : Int) ++ List.replicate (k + 1) 0) = X0 at hgg ⊢
      rw [r_loop]
      simp [L11_0, t0, t6, t26, t27, hlt, w1, iindexAddr, hgg, hle, istore, Value.cells, plain1]
      exact ⟨_, rfl, by simp [t0], by simp [t6], by simp [t26], by simp⟩
    obtain ⟨T1, e0, f0, f6, f26, f27⟩ := this
    rw [e0]
    exact ih (i + 1) T1 (by omega) f0 f6 f26 (by rw [f27]; simp)
theorem loop11_1 (H : IH) (g c N : Nat) (hN : N ≤ 20000) (v0 : Value) : ∀ (k i : Nat) (T : Regs), i + k = N →
    T.at 0 = v0 → T.at 11 = .slice (some ⟨g, 0, none⟩) N c → T.at 67 = .int .i64 (N : Int) → T.at 68 = .int .i64 (i : Int) →
    ∃ T', run J okAll (.loop L11_1) T (H.set g (rowB ((List.range i).map patI ++ List.replicate k 0))) = some (.exit 2, T', H.set g (rowB ((List.range N).map patI))) ∧ T'.at 0 = v0 ∧ T'.at 11 = .slice (some ⟨g, 0, none⟩) N c := by
  intro k
  induction k with
  | zero =>
    intro i T hk t0 t11 t67 t68
    have hiN : i = N := by omega
    subst hiN
    rw [List.replicate_zero, List.append_nil, r_loop]
    simp [L11_1, t0, t11, t67, t68]
  | succ k ih =>
    intro i T hk t0 t11 t67 t68
    have hlt : i < N := by omega
    have w1 : IntKind.i64.wrap ((i : Int) + 1) = (i : Int) + 1 := wrap64 _ (by omega) (by omega)
    have hdl : ((List.range i).map patI).length = i := by simp
    have hgg : (H.set g (rowB ((List.range i).map patI ++ List.replicate (k + 1) 0))).get g = some (.cells (((List.range i).map patI ++ (0 : Int) :: List.replicate k (0 : Int)).map (Value.int .u8)) 5 false) := by rw [IH.get_set_same]; rfl
    have hrs : (List.range (i + 1)).map patI = (List.range i).map patI ++ [patI i] := by rw [List.range_succ, List.map_append]; rfl
    have hrem : (i : Int).tmod 2 = (i : Int) % 2 := Int.tmod_eq_emod_of_nonneg (by omega)
    have hpx : idxS ⟨#[59, 32]⟩ ((i : Int) % 2) = some (.int .u8 (patI i)) := by
      unfold patI
      rcases (by omega : i % 2 = 0 ∨ i % 2 = 1) with h | h
      · rw [show (i : Int) % 2 = 0 by omega, h]; rfl
      · rw [show (i : Int) % 2 = 1 by omega, h]; rfl
    have hst := rowB_store ((List.range i).map patI) (List.replicate k 0) 0 (patI i)
    rw [hdl] at hst
    have hov : Blk.cells (overlay (((List.range i).map patI ++ (0 : Int) :: List.replicate k (0 : Int)).map (Value.int .u8)) i [.int .u8 (patI i)]) 5 false = rowB ((List.range (i + 1)).map patI ++ List.replicate k 0) := by
      rw [hst, hrs, List.append_assoc]; rfl
    have hln : (((List.range i).map patI ++ (0 : Int) :: List.replicate k (0 : Int)).map (Value.int IntKind.u8)).length = N := by simp; omega
    generalize (((List.range i).map patI ++ (0 : Int) :: List.replicate k (0 : Int)).map (Value.int IntKind.u8)) = row at *
    have hle : i + 1 ≤ row.length := by omega
    have : ∃ T1, run J okAll (.loop L11_1) T (H.set g (rowB ((List.range i).map patI ++ List.replicate (k + 1) 0))) = run J okAll (.loop L11_1) T1 (H.set g (rowB ((List.range (i + 1)).map patI ++ List.replicate k 0))) ∧ T1.at 0 = v0 ∧ T1.at 11 = .slice (some ⟨g, 0, none⟩) N c ∧ T1.at 67 = .int .i64 (N : Int) ∧ T1.at 68 = .int .i64 ((i : Int) + 1) := by
      rw [← hov]
      generalize rowB ((List.range i).map patI ++ List.replicate (k + 1) 0) = X0 at hgg ⊢
      rw [r_loop]
      simp [L11_1, t0, t11, t67, t68, hlt, w1, iindexAddr, hgg, hle, istore, Value.cells, plain1, hrem, hpx]
      exact ⟨_, rfl, by simp [t0], by simp [t11], by simp [t67], by simp⟩
    obtain ⟨T1, e0, f0, f11, f67, f68⟩ := this
    rw [e0]
    exact ih (i + 1) T1 (by omega) f0 f11 f67 (by rw [f68]; simp)
end Go.Proofs.YtjbcjcibnjbpcaaDoor.Idl
namespace Go.Proofs.YtjbcjcibnjbpcaaDoor.Idl
open Go
set_option maxHeartbeats 16000000
set_option maxRecDepth 100000
set_option linter.unusedSimpArgs false
theorem zeros_row (n : Nat) : Blk.cells (List.replicate n (Value.int .u8 0)) 5 false = rowB (List.replicate n 0) := by
  unfold rowB
  rw [List.map_replicate]
theorem byl_0 (n : Nat) : ByL (List.replicate n 0) := fun x hx => by have := List.eq_of_mem_replicate hx; omega
theorem c11 (H : IH) (hG : Glob H) (n : Int) (wide : Bool) : ∃ H', Fr H.next H H' ∧ cal J okAll 11 #[.int .i64 n, .bool wide] H = some (.ret (.bool true), H') := by
  have h9 := hG.2.2
  obtain ⟨N, hN⟩ : ∃ N : Nat, max 0 (min n 20000) = (N : Int) := ⟨(max 0 (min n 20000)).toNat, by omega⟩
  have hN2 : N ≤ 20000 := by omega
  cases wide with
  | true =>
    have hlx := lexR_blanks N
    have hmk := mk40 H N (by omega)
    rw [zeros_row] at hmk
    have hc1 := conv_row (H.push (rowB (List.replicate N 0))) H.next N (List.replicate N 0) false (IH.get_push_same H _)
    rw [List.length_replicate] at hc1
    have hc2 := iconvert_str (strOf (List.replicate N 0)) (H.push (rowB (List.replicate N 0)))
    rw [strOf_size, List.length_replicate, bytesCells_strOf _ (byl_0 N)] at hc2
    have hrb : Blk.cells ((List.replicate N (0 : Int)).map (Value.int .u8)) 5 false = rowB (List.replicate N 0) := rfl
    rw [hrb] at hc2
    have k0 := fun T => loop11_0 ((H.push (rowB (List.replicate N 0))).push (rowB (List.replicate N 0))) (H.next + 1) capU N hN2 (.int .i64 (N : Int)) N 0 T (by omega)
    simp only [List.replicate_zero, List.nil_append] at k0
    rw [show ((H.push (rowB (List.replicate N 0))).push (rowB (List.replicate N 0))).set (H.next + 1) (rowB (List.replicate N 0)) = (H.push (rowB (List.replicate N 0))).push (rowB (List.replicate N 0)) from push_set (H.push (rowB (List.replicate N 0))) _ _,
      show ((H.push (rowB (List.replicate N 0))).push (rowB (List.replicate N 0))).set (H.next + 1) (rowB (List.replicate N 32)) = (H.push (rowB (List.replicate N 0))).push (rowB (List.replicate N 32)) from push_set (H.push (rowB (List.replicate N 0))) _ _] at k0
    have hc3 := conv_row ((H.push (rowB (List.replicate N 0))).push (rowB (List.replicate N 32))) (H.next + 1) capU (List.replicate N 32) false (IH.get_push_same (H.push (rowB (List.replicate N 0))) _)
    rw [List.length_replicate] at hc3
    have f0 : Fr H.next H ((H.push (rowB (List.replicate N 0))).push (rowB (List.replicate N 32))) := ((Fr.refl _ _).push (Nat.le_refl _) _).push (by simp) _
    generalize hH2 : (H.push (rowB (List.replicate N 0))).push (rowB (List.replicate N 32)) = H2 at *
    have hG2 := hG.mono h9 f0
    have hsz : (strOf (List.replicate N 32)).size < 2 ^ 39 := by rw [strOf_size, List.length_replicate]; omega
    obtain ⟨H3, v3, f3, e3, hv3⟩ := c13 H2 (strOf (List.replicate N 32)) hG2 hsz
    rw [hlx] at e3
    obtain ⟨H4, f4, e4⟩ := c16 H3 (hG2.mono (Nat.le_trans h9 f0.1) f3)
    refine ⟨H4, (f0.trans' f3 f0.1).trans' f4 (Nat.le_trans f0.1 f3.1), ?_⟩
    rw [cal11 _ _ (by simp)]
    simp [C11, R11, regsOf, fin, iresult1, hN, hmk, hc1, hc2]
    generalize hX : run J okAll (.loop L11_0) _ _ = X
    obtain ⟨T1, x1, t0, t6, t26, t27⟩ : ∃ T1, run J okAll (.loop L11_0) T1 ((H.push (rowB (List.replicate N 0))).push (rowB (List.replicate N 0))) = X ∧ T1.at 0 = .int .i64 (N : Int) ∧ T1.at 6 = .slice (some ⟨H.next + 1, 0, none⟩) N capU ∧ T1.at 26 = .int .i64 (N : Int) ∧ T1.at 27 = .int .i64 ((0 : Nat) : Int) :=
      ⟨_, hX, by simp, by simp, by simp, by simp⟩
    obtain ⟨T2, r1, b0, b6⟩ := k0 T1 t0 t6 t26 t27
    rw [← x1, r1]
    by_cases hbig : 16384 < N
    · rw [if_pos hbig] at e3
      have hb2 : ¬ (N : Int) ≤ 16384 := by omega
      simp only [LR.errno, LR.pos] at e3
      simp [b0, b6, hc3, e3, e4, hb2, fin, iresult1]
    · rw [if_neg hbig] at e3
      have hb2 : (N : Int) ≤ 16384 := by omega
      simp only [LR.errno, LR.pos] at e3
      simp [b0, b6, hc3, e3, e4, hb2, fin, iresult1]
  | false =>
    obtain ⟨M, hM⟩ : ∃ M : Nat, min (N : Int) 5000 = (M : Int) := ⟨min N 5000, by omega⟩
    have hM5 : M ≤ 5000 := by omega
    have w2 : IntKind.i64.wrap (2 * (M : Int)) = 2 * (M : Int) := wrap64 _ (by omega) (by omega)
    have hlx := lexR_semi M hM5
    have hmk := mk40 H (2 * M) (by omega)
    rw [zeros_row] at hmk
    push_cast at hmk
    have k0 := fun T => loop11_1 (H.push (rowB (List.replicate (2 * M) 0))) H.next (2 * M) (2 * M) (by omega) (.int .i64 (M : Int)) (2 * M) 0 T (by omega)
    simp only [List.range_zero, List.map_nil, List.nil_append] at k0
    rw [push_set, push_set, pat_eq] at k0
    have hpl : ((List.replicate M semiL).flatten).length = 2 * M := by rw [rep_len]; simp [semiL]; omega
    have hc3 := conv_row (H.push (rowB (List.replicate M semiL).flatten)) H.next (2 * M) (List.replicate M semiL).flatten false (IH.get_push_same H _)
    rw [hpl] at hc3
    have f0 : Fr H.next H (H.push (rowB (List.replicate M semiL).flatten)) := (Fr.refl _ _).push (Nat.le_refl _) _
    generalize hH2 : H.push (rowB (List.replicate M semiL).flatten) = H2 at *
    have hG2 := hG.mono h9 f0
    have hsz : (strOf (List.replicate M semiL).flatten).size < 2 ^ 39 := by rw [strOf_size, hpl]; omega
    obtain ⟨H3, v3, f3, e3, hv3⟩ := c13 H2 (strOf (List.replicate M semiL).flatten) hG2 hsz
    obtain ⟨H4, f4, e4⟩ := c16 H3 (hG2.mono (Nat.le_trans h9 f0.1) f3)
    refine ⟨H4, (f0.trans' f3 f0.1).trans' f4 (Nat.le_trans f0.1 f3.1), ?_⟩
    rw [cal11 _ _ (by simp)]
    simp [C11, R11, regsOf, fin, iresult1, hN, hM, w2, hmk]
    generalize hX : run J okAll (.loop L11_1) _ _ = X
    obtain ⟨T1, x1, t0, t11, t67, t68⟩ : ∃ T1, run J okAll (.loop L11_1) T1 (H.push (rowB (List.replicate (2 * M) 0))) = X ∧ T1.at 0 = .int .i64 (M : Int) ∧ T1.at 11 = .slice (some ⟨H.next, 0, none⟩) (2 * M) (2 * M) ∧ T1.at 67 = .int .i64 ((2 * M : Nat) : Int) ∧ T1.at 68 = .int .i64 ((0 : Nat) : Int) :=
      ⟨_, hX, by simp, by simp, by simp, by simp⟩
    obtain ⟨T2, r1, b0, b11⟩ := k0 T1 t0 t11 t67 t68
    rw [← x1, r1]
    by_cases hbig : 4000 < M
    · have hr := hlx.2 hbig
      rw [hr] at e3 hv3
      obtain ⟨ba, cv, rfl⟩ := hv3.slice
      have hb2 : (4000 : Int) < M := by omega
      simp only [LR.errno, LR.pos, LR.toks, List.length_nil] at e3
      simp [b0, b11, hc3, e3, e4, hb2, hbig, fin, iresult1]
    · obtain ⟨l, hr, hll⟩ := hlx.1 (by omega)
      rw [hr] at e3 hv3
      obtain ⟨ba, cv, rfl⟩ := hv3.slice
      have hb2 : ¬ (4000 : Int) < M := by omega
      simp only [LR.errno, LR.pos, LR.toks, hll] at e3
      simp [b0, b11, hc3, e3, e4, hb2, hbig, fin, iresult1]
end Go.Proofs.YtjbcjcibnjbpcaaDoor.Idl
namespace Go.Proofs.YtjbcjcibnjbpcaaDoor.Idl
open Go
set_option maxHeartbeats 8000000
set_option maxRecDepth 100000
set_option linter.unusedSimpArgs false
/-- n bytes from p on in s are those from q on in t. -/
def Same (s : ByteArray) (p : Nat) (t : ByteArray) (q n : Nat) : Prop := p + n ≤ s.size ∧ q + n ≤ t.size ∧ ∀ j, j < n → bt s (p + j) = bt t (q + j)
theorem Same.sub {s t : ByteArray} {p q n : Nat} (h : Same s p t q n) (k m : Nat) (hk : k + m ≤ n) : Same s (p + k) t (q + k) m :=
  ⟨by have := h.1; omega, by have := h.2.1; omega, fun j hj => by rw [Nat.add_assoc, Nat.add_assoc]; exact h.2.2 (k + j) (by omega)⟩
theorem bt_inj (s t : ByteArray) (i j : Nat) (hi : i < s.size) (hj : j < t.size) (h : bt s i = bt t j) : s[i] = t[j] := by
  have a := bt_eq s i hi
  have b := bt_eq t j hj
  exact UInt8.toNat_inj.1 (by omega)
theorem ext_same {s t : ByteArray} {p q n : Nat} (h : Same s p t q n) : s.extract p (p + n) = t.extract q (q + n) := by
  obtain ⟨h1, h2, h3⟩ := h
  apply ByteArray.ext
  rw [ByteArray.data_extract, ByteArray.data_extract]
  have e1 : s.data.size = s.size := rfl
  have e2 : t.data.size = t.size := rfl
  apply Array.ext
  · simp; omega
  · intro j g1 g2
    have hj : j < n := by simp at g1; omega
    have := bt_inj s t (p + j) (q + j) (by omega) (by omega) (h3 j hj)
    simp only [Array.getElem_extract]
    exact this
theorem prefixB_iff (s x : ByteArray) (p : Nat) (hp : p ≤ s.size) : prefixB (s.extract p s.size) x = true ↔ Same s p x 0 x.size := by
  constructor
  · intro h
    have hle := prefixB_le s x p h hp
    refine ⟨hle, by omega, fun j hj => ?_⟩
    have := prefixB_bt _ _ h j hj
    rw [bt_suf s p j (by omega)] at this
    rw [Nat.zero_add]; exact this
  · intro h
    have e := ext_same h
    rw [Nat.zero_add, suf_zero] at e
    unfold prefixB
    rw [size_suf, ext_ext s p 0 x.size h.1]
    simp only [Nat.add_zero, e, decide_true, Bool.and_true, decide_eq_true_eq]
    have := h.1
    omega
/-- Nothing behind what was read in t goes on with it. -/
def Stops (s : ByteArray) (e : Nat) (t : ByteArray) (f : Nat) : Prop := f = t.size ∨ (f < t.size ∧ (blankB (bt t f) = true ∨ (e < s.size ∧ bt t f = bt s e)))
theorem span_stop (q : Int → Bool) (s : ByteArray) : ∀ (n i : Nat), i + n ≤ s.size → (∀ j, j < n → q (bt s (i + j)) = true) → (i + n = s.size ∨ q (bt s (i + n)) = false) → span q s i = i + n := by
  intro n
  induction n with
  | zero =>
    intro i h1 _ h3
    rw [Nat.add_zero] at h3 ⊢
    by_cases hlt : i < s.size
    · have h3 := h3.resolve_left (by omega)
      rw [span_step q s i hlt, bt_eq s i hlt, h3]; rfl
    · exact span_end _ _ _ (by omega)
  | succ n ih =>
    intro i h1 h2 h3
    have h0 := h2 0 (by omega)
    rw [Nat.add_zero] at h0
    rw [span_step q s i (by omega), bt_eq s i (by omega), h0, if_pos rfl, ih (i + 1) (by omega) (fun j hj => by rw [show i + 1 + j = i + (j + 1) by omega]; exact h2 (j + 1) (by omega)) (by rw [show i + 1 + n = i + (n + 1) by omega]; exact h3)]
    omega
theorem span_not (q : Int → Bool) (s : ByteArray) : ∀ (n i : Nat), s.size - i = n → span q s i < s.size → q (bt s (span q s i)) = false := by
  intro n
  induction n with
  | zero => intro i h1 h2; rw [span_end q s i (by omega)] at h2; omega
  | succ n ih =>
    intro i h1 h2
    rw [span_step q s i (by omega), bt_eq s i (by omega)] at h2 ⊢
    cases hq : q (bt s i) with
    | true => rw [hq, if_pos rfl] at h2; rw [if_pos rfl]; exact ih (i + 1) (by omega) h2
    | false => simpa using hq
theorem span_same (q : Int → Bool) (s t : ByteArray) (i j : Nat) (hq : ∀ c, blankB c = true → q c = false) (hi : i ≤ s.size) (h : Same s i t j (span q s i - i)) (hs : Stops s (span q s i) t (j + (span q s i - i))) : span q t j = j + (span q s i - i) := by
  have hr := span_range q s i hi
  have ha := span_all q s _ i rfl hi
  refine span_stop q t _ j h.2.1 (fun k hk => ?_) ?_
  · rw [← h.2.2 k hk]; exact ha (i + k) (by omega) (by omega)
  · rcases hs with hs | ⟨h1, h2 | ⟨h2, h3⟩⟩
    · exact .inl hs
    · exact .inr (hq _ h2)
    · right; rw [h3]; exact span_not q s _ i rfl h2
theorem blank_digit (c : Int) (h : blankB c = true) : digitB c = false := by
  simp only [blankB, Bool.or_eq_true, decide_eq_true_eq] at h
  rcases h with ((h | h) | h) | h <;> subst h <;> rfl
theorem blank_letter (c : Int) (h : blankB c = true) : letterB c = false := by
  simp only [blankB, Bool.or_eq_true, decide_eq_true_eq] at h
  rcases h with ((h | h) | h) | h <;> subst h <;> rfl
/-! ### Texts -/
theorem escF_same (u v : ByteArray) (h0 : (escF u).2 ≠ 0) (h : Same u 0 v 0 (escF u).2.toNat) : escF v = escF u := by
  have hz := escF_size u
  obtain ⟨h1, h2, h3⟩ := h
  have hb : ∀ j, j < (escF u).2.toNat → bt v j = bt u j := fun j hj => by have := h3 j hj; rw [Nat.zero_add] at this; exact this.symm
  rcases hz with hz | ⟨hz, hs⟩ | ⟨hz, hs⟩
  · exact absurd hz h0
  · rw [hz] at hb h2
    have e0 := hb 0 (by decide)
    have hv : 1 ≤ v.size := by simpa using h2
    have hu : ¬ u.size = 0 := by omega
    have hv0 : ¬ v.size = 0 := by omega
    unfold escF at hz ⊢
    rw [if_neg hu] at hz ⊢
    rw [if_neg hv0, e0]
    by_cases a1 : bt u 0 = 110
    · rw [if_pos a1, if_pos a1]
    · rw [if_neg a1] at hz ⊢; rw [if_neg a1]
      by_cases a2 : bt u 0 = 116
      · rw [if_pos a2, if_pos a2]
      · rw [if_neg a2] at hz ⊢; rw [if_neg a2]
        by_cases a3 : bt u 0 = 92 ∨ bt u 0 = 34
        · rw [if_pos a3, if_pos a3]
        · rw [if_neg a3] at hz
          split at hz <;> simp at hz
  · rw [hz] at hb h2
    have e0 := hb 0 (by decide)
    have e1 := hb 1 (by decide)
    have e2 := hb 2 (by decide)
    have hv : 3 ≤ v.size := by simpa using h2
    have hu : ¬ u.size = 0 := by omega
    have hv0 : ¬ v.size = 0 := by omega
    unfold escF
    rw [if_neg hu, if_neg hv0, e0, e1, e2]
    have hiff : (3 ≤ v.size ∧ digitB (bt u 0) = true ∧ digitB (bt u 1) = true ∧ digitB (bt u 2) = true ∧ 100 * (bt u 0 - 48) + 10 * (bt u 1 - 48) + (bt u 2 - 48) ≤ 255) ↔ (3 ≤ u.size ∧ digitB (bt u 0) = true ∧ digitB (bt u 1) = true ∧ digitB (bt u 2) = true ∧ 100 * (bt u 0 - 48) + 10 * (bt u 1 - 48) + (bt u 2 - 48) ≤ 255) := ⟨fun h => ⟨hs, h.2⟩, fun h => ⟨hv, h.2⟩⟩
    simp only [hiff]
theorem txtF_same (s t : ByteArray) : ∀ (k i k' j : Nat) (l l' : List Int) (e : Nat), txtF s k i l = some (l', e) → Same s i t j (e - i) → t.size < k' + j → txtF t k' j l = some (l', j + (e - i)) := by
  intro k
  induction k with
  | zero => intro i k' j l l' e h; simp [txtF] at h
  | succ k ih =>
    intro i k' j l l' e h hS hk
    have hend := txtF_end s (k + 1) i l _ h
    simp only at hend
    have hS1 := hS.2.1
    obtain ⟨k', rfl⟩ : ∃ m, k' = m + 1 := ⟨k' - 1, by omega⟩
    have hb := hS.2.2 0 (by omega)
    rw [Nat.add_zero, Nat.add_zero] at hb
    simp only [txtF] at h ⊢
    rw [if_pos (show i < s.size by omega)] at h
    rw [if_pos (show j < t.size by omega), ← hb]
    by_cases c1 : bt s i = 34
    · rw [if_pos c1] at h ⊢
      cases h
      rw [show i + 1 - i = 1 by omega]
    · rw [if_neg c1] at h ⊢
      by_cases c2 : bt s i < 32
      · rw [if_pos c2] at h; cases h
      · rw [if_neg c2] at h ⊢
        by_cases c3 : bt s i ≠ 92
        · rw [if_pos c3] at h ⊢
          have he := txtF_end s _ _ _ _ h
          simp only at he
          have := ih (i + 1) k' (j + 1) _ _ _ h (by
            have := hS.sub 1 (e - (i + 1)) (by omega)
            exact this) (by omega)
          rw [this]
          congr 2
          omega
        · rw [if_neg c3] at h ⊢
          by_cases c4 : (escF (s.extract (i + 1) s.size)).2 = 0
          · rw [if_pos c4] at h; cases h
          · rw [if_neg c4] at h
            have he := txtF_end s _ _ _ _ h
            simp only at he
            have hesz := escF_size (s.extract (i + 1) s.size)
            have hee : escF (t.extract (j + 1) t.size) = escF (s.extract (i + 1) s.size) := by
              refine escF_same _ _ c4 ⟨?_, ?_, fun m hm => ?_⟩
              · rw [size_suf]; omega
              · rw [size_suf]; omega
              · have := hS.2.2 (1 + m) (by omega)
                rw [Nat.zero_add, bt_suf s (i + 1) m (by omega), bt_suf t (j + 1) m (by omega)]
                rw [Nat.add_assoc, Nat.add_assoc]; exact this
            rw [hee, if_neg c4]
            generalize hq : (escF (s.extract (i + 1) s.size)).2.toNat = w at *
            have := ih (i + w + 1) k' (j + w + 1) _ _ _ h (by
              have := hS.sub (w + 1) (e - (i + w + 1)) (by omega)
              rw [show i + (w + 1) = i + w + 1 by omega, show j + (w + 1) = j + w + 1 by omega] at this
              exact this) (by omega)
            rw [this]
            congr 2
            omega
end Go.Proofs.YtjbcjcibnjbpcaaDoor.Idl
namespace Go.Proofs.YtjbcjcibnjbpcaaDoor.Idl
open Go
set_option maxHeartbeats 8000000
set_option maxRecDepth 100000
set_option linter.unusedSimpArgs false
theorem signs_shape : ∀ y ∈ signsL, 0 < y.size ∧ y.size ≤ 2 ∧ blankB (bt y 0) = false ∧ blankB (bt y 1) = false := by decide
/-- What begins behind the end cannot be told apart. -/
theorem sign_fwd (s t : ByteArray) (p q n : Nat) (hn : 0 < n) (h : Same s p t q n) (hs : Stops s (p + n) t (q + n)) (y : ByteArray) (hy : y ∈ signsL) (hp : prefixB (t.extract q t.size) y = true) : prefixB (s.extract p s.size) y = true := by
  obtain ⟨y1, y2, y3, y4⟩ := signs_shape y hy
  have hq : q ≤ t.size := by have := h.2.1; omega
  obtain ⟨a1, _, a3⟩ := (prefixB_iff t y q hq).1 hp
  rw [prefixB_iff s y p (by have := h.1; omega)]
  by_cases hle : y.size ≤ n
  · exact ⟨by have := h.1; omega, by omega, fun j hj => by rw [h.2.2 j (by omega)]; exact a3 j hj⟩
  · have hn1 : n = 1 := by omega
    subst hn1
    have b1 := a3 1 (by omega)
    rw [Nat.zero_add] at b1
    rcases hs with hs | ⟨h1, h2 | ⟨h2, h3⟩⟩
    · omega
    · rw [b1] at h2; rw [y4] at h2; cases h2
    · refine ⟨by omega, by omega, fun j hj => ?_⟩
      rcases (by omega : j = 0 ∨ j = 1) with rfl | rfl
      · rw [h.2.2 0 (by omega)]; exact a3 0 hj
      · rw [← h3]; exact a3 1 hj
theorem signF_same (s t : ByteArray) (p q : Nat) (x : ByteArray) (h : Same s p t q x.size) (hx0 : 0 < x.size) (hs : Stops s (p + x.size) t (q + x.size)) : ∀ S : List ByteArray, (∀ y ∈ S, y ∈ signsL) → signF s p S = some x → signF t q S = some x := by
  intro S
  induction S with
  | nil => intro _ h; cases h
  | cons y S ih =>
    intro hS hx
    simp only [signF] at hx ⊢
    by_cases hp : prefixB (s.extract p s.size) y = true
    · rw [if_pos hp] at hx
      cases hx
      have : prefixB (t.extract q t.size) x = true := by
        have hps := (prefixB_iff s x p (by have := h.1; omega)).1 hp
        rw [prefixB_iff t x q (by have := h.2.1; omega)]
        exact ⟨h.2.1, by omega, fun j hj => by rw [← h.2.2 j hj]; exact hps.2.2 j hj⟩
      rw [if_pos this]
    · rw [if_neg hp] at hx
      have : ¬ prefixB (t.extract q t.size) y = true := fun h2 => hp (sign_fwd s t p q x.size hx0 h hs y (hS y (by simp)) h2)
      rw [if_neg this]
      exact ih (fun z hz => hS z (by simp [hz])) hx
theorem tok_same (s t : ByteArray) (p q : Nat) (hp : p < s.size) (hok : (tokF s p).ok = true) (h : Same s p t q ((tokF s p).fin - p)) (hs : Stops s (tokF s p).fin t (q + ((tokF s p).fin - p))) :
    tokF t q = { tokF s p with fin := q + ((tokF s p).fin - p) } := by
  have hend := tokF_end s p hp hok
  have hb : bt t q = bt s p := by have := h.2.2 0 (by omega); rw [Nat.add_zero, Nat.add_zero] at this; exact this.symm
  revert hok h hs hend
  unfold tokF
  rw [hb]
  cases hd : digitB (bt s p) with
  | true =>
    simp only [if_true]
    have r0 := span_range digitB s p (by omega)
    have hfin : ∀ r e, (numT r e).fin = e := fun r e => by
      cases r with
      | none => rfl
      | some r => simp only [numT]; split <;> rfl
    intro hok h hs hend
    rw [hfin] at h hs hend ⊢
    have e1 := span_same digitB s t p q blank_digit (by omega) h hs
    have e2 := ext_same h
    rw [show p + (span digitB s p - p) = span digitB s p by omega] at e2
    rw [e1, ← e2]
    generalize numF (s.extract p (span digitB s p)) ((s.extract p (span digitB s p)).size + 1) 0 0 = r
    cases r with
    | none => rfl
    | some r => simp only [numT]; split <;> rfl
  | false =>
    simp only [Bool.false_eq_true, if_false]
    by_cases h34 : bt s p = 34
    · simp only [if_pos h34]
      intro hok h hs hend
      cases hx : txtF s (s.size + 1) (p + 1) [] with
      | none => rw [hx] at hok; cases hok
      | some r =>
        obtain ⟨l, e⟩ := r
        rw [hx] at h hs hend
        simp only [txtT] at h hs hend ⊢
        have := txtF_same s t (s.size + 1) (p + 1) (t.size + 1) (q + 1) [] l e hx (by
          have := h.sub 1 (e - (p + 1)) (by omega)
          exact this) (by omega)
        rw [this]
        simp only [txtT, Tk.mk.injEq, true_and, and_true]
        omega
    · simp only [if_neg h34]
      by_cases h39 : bt s p = 39
      · simp only [if_pos h39]
        intro hok h hs hend
        have r0 := span_range letterB s (p + 1) (by omega)
        have h1 := h.sub 1 (span letterB s (p + 1) - (p + 1)) (by omega)
        have e1 := span_same letterB s t (p + 1) (q + 1) blank_letter (by omega) h1 (by
          rw [show q + 1 + (span letterB s (p + 1) - (p + 1)) = q + (span letterB s (p + 1) - p) by omega]; exact hs)
        have e2 := ext_same h
        rw [show p + (span letterB s (p + 1) - p) = span letterB s (p + 1) by omega] at e2
        rw [e1, show q + 1 + (span letterB s (p + 1) - (p + 1)) = q + (span letterB s (p + 1) - p) by omega, ← e2]
        simp only [Tk.mk.injEq, true_and]
        rw [decide_eq_decide]
        omega
      · simp only [if_neg h39]
        by_cases hw : (smallB (bt s p) || greatB (bt s p)) = true
        · rw [if_pos hw, if_pos hw]
          intro hok h hs hend
          have r0 := span_range letterB s p (by omega)
          have e1 := span_same letterB s t p q blank_letter (by omega) h hs
          have e2 := ext_same h
          rw [show p + (span letterB s p - p) = span letterB s p by omega] at e2
          rw [e1, ← e2]
        · rw [if_neg hw, if_neg hw]
          intro hok h hs hend
          cases hx : signF s p signsL with
          | none => rw [hx] at hok; cases hok
          | some x =>
            rw [hx] at h hs hend
            simp only [signT] at h hs hend ⊢
            rw [show p + x.size - p = x.size by omega] at h hs ⊢
            have := signF_same s t p q x h (signs_pos x (signF_mem s p _ _ hx).1) hs signsL (fun y hy => hy) hx
            rw [this]
/-! ### Remarks and blanks -/
theorem pre_same (s t : ByteArray) (i j n : Nat) (x : ByteArray) (h : Same s i t j n) (hx : x.size ≤ n) : prefixB (t.extract j t.size) x = prefixB (s.extract i s.size) x := by
  have h1 := h.1
  have h2 := h.2.1
  rw [Bool.eq_iff_iff, prefixB_iff t x j (by omega), prefixB_iff s x i (by omega)]
  exact ⟨fun a => ⟨by omega, by omega, fun k hk => by rw [h.2.2 k (by omega)]; exact a.2.2 k hk⟩, fun a => ⟨by omega, by omega, fun k hk => by rw [← h.2.2 k (by omega)]; exact a.2.2 k hk⟩⟩
theorem rem_two (s : ByteArray) : ∀ (n i : Nat) (d : Int), remL s n d i = -1 ∨ (i : Int) + 2 ≤ remL s n d i := by
  intro n
  induction n with
  | zero => intro i d; left; rfl
  | succ n ih =>
    intro i d
    simp only [remL]
    split
    · split
      · have := ih (i + 2) (d + 1); omega
      · split
        · split
          · right; omega
          · have := ih (i + 2) (d - 1); omega
        · have := ih (i + 1) d; omega
    · left; rfl
theorem rem_same (s t : ByteArray) : ∀ (n i m j : Nat) (d : Int) (e : Nat), remL s n d i = (e : Int) → Same s i t j (e - i) → t.size < m + j → remL t m d j = ((j + (e - i) : Nat) : Int) := by
  intro n
  induction n with
  | zero => intro i m j d e h; simp only [remL] at h; omega
  | succ n ih =>
    intro i m j d e h hS hm
    have h2 := rem_two s (n + 1) i d
    have hS1 := hS.1
    have hS2 := hS.2.1
    obtain ⟨m, rfl⟩ : ∃ k, m = k + 1 := ⟨m - 1, by omega⟩
    have p1 := pre_same s t i j _ ⟨#[40, 42]⟩ hS (by show 2 ≤ e - i; omega)
    have p2 := pre_same s t i j _ ⟨#[42, 41]⟩ hS (by show 2 ≤ e - i; omega)
    rw [h] at h2
    simp only [remL] at h ⊢
    rw [if_pos (by omega : i < s.size)] at h
    rw [if_pos (by omega : j < t.size), p1, p2]
    by_cases c1 : prefixB (s.extract i s.size) ⟨#[40, 42]⟩ = true
    · rw [if_pos c1] at h ⊢
      have hr := rem_two s n (i + 2) (d + 1)
      rw [h] at hr
      rw [ih (i + 2) m (j + 2) (d + 1) e h (hS.sub 2 (e - (i + 2)) (by omega)) (by omega)]
      congr 1; omega
    · rw [if_neg c1] at h ⊢
      by_cases c2 : prefixB (s.extract i s.size) ⟨#[42, 41]⟩ = true
      · rw [if_pos c2] at h ⊢
        by_cases c3 : d - 1 = 0
        · rw [if_pos c3] at h ⊢
          congr 1; omega
        · rw [if_neg c3] at h ⊢
          have hr := rem_two s n (i + 2) (d - 1)
          rw [h] at hr
          rw [ih (i + 2) m (j + 2) (d - 1) e h (hS.sub 2 (e - (i + 2)) (by omega)) (by omega)]
          congr 1; omega
      · rw [if_neg c2] at h ⊢
        have hr := rem_two s n (i + 1) d
        rw [h] at hr
        rw [ih (i + 1) m (j + 1) d e h (hS.sub 1 (e - (i + 1)) (by omega)) (by omega)]
        congr 1; omega
theorem skip_same (s t : ByteArray) : ∀ (N p q e : Nat), s.size - p < N → p ≤ s.size → skipL s (s.size + 1) p = (e, -1) → Same s p t q (e - p) → skipL t (t.size + 1) q = skipL t (t.size + 1) (q + (e - p)) := by
  intro N
  induction N with
  | zero => intro p q e h; omega
  | succ N ih =>
    intro p q e hN hps hsk hS
    have hge := (skipL_ge s (s.size + 1) p).1
    rw [hsk] at hge
    simp only at hge
    by_cases hpe : e = p
    · subst hpe; simp
    · have hlt : p < s.size := by have := hS.1; omega
      have hqt : q < t.size := by have := hS.2.1; omega
      have hb : bt t q = bt s p := by have := hS.2.2 0 (by omega); rw [Nat.add_zero, Nat.add_zero] at this; exact this.symm
      rw [skip_step s p hlt] at hsk
      rw [skip_step t q hqt, hb]
      by_cases c1 : blankB (bt s p) = true
      · rw [if_pos c1] at hsk ⊢
        have := ih (p + 1) (q + 1) e (by omega) (by omega) hsk (hS.sub 1 (e - (p + 1)) (by omega))
        rw [this]
        congr 1; omega
      · rw [if_neg c1] at hsk ⊢
        by_cases c2 : prefixB (s.extract p s.size) ⟨#[40, 42]⟩ = true
        · rw [if_pos c2] at hsk
          by_cases c3 : remS (s.extract p s.size) < 0
          · rw [if_pos c3] at hsk; exact absurd (congrArg Prod.snd hsk) (by simp only; omega)
          · rw [if_neg c3] at hsk
            have hS0 : remS (s.extract p s.size) = remL (s.extract p s.size) ((s.extract p s.size).size + 1) 0 0 := if_pos c2
            have hr := remL_suf s p (by omega) ((s.extract p s.size).size + 1) 0 0
            rw [show p + 0 = p from rfl, ← hS0, if_neg c3] at hr
            have hge2 := (skipL_ge s (s.size + 1) (p + (remS (s.extract p s.size)).toNat)).1
            rw [hsk] at hge2
            simp only at hge2
            have h2 := rem_two s ((s.extract p s.size).size + 1) p 0
            rw [hr] at h2
            generalize hrr : (remS (s.extract p s.size)).toNat = r at *
            have hrz : remS (s.extract p s.size) = (r : Int) := by omega
            have hsr := hS.sub 0 r (by omega)
            rw [Nat.add_zero, Nat.add_zero] at hsr
            have ht := rem_same s t ((s.extract p s.size).size + 1) p ((t.extract q t.size).size + 1) q 0 (p + r) (by rw [hr, hrz]; push_cast; omega) (by rw [show p + r - p = r by omega]; exact hsr) (by rw [size_suf]; omega)
            have hpt := pre_same s t p q r ⟨#[40, 42]⟩ hsr (by show 2 ≤ r; omega)
            rw [c2] at hpt
            have hS1 : remS (t.extract q t.size) = remL (t.extract q t.size) ((t.extract q t.size).size + 1) 0 0 := if_pos hpt
            have hr2 := remL_suf t q (by omega) ((t.extract q t.size).size + 1) 0 0
            rw [show q + 0 = q from rfl, ← hS1, ht] at hr2
            have hrt : remS (t.extract q t.size) = (r : Int) := by
              by_cases hneg : remS (t.extract q t.size) < 0
              · rw [if_pos hneg] at hr2; omega
              · rw [if_neg hneg] at hr2; omega
            rw [if_pos hpt, if_neg (by omega), hrt]
            have := ih (p + r) (q + r) e (by omega) (by have := hS.1; omega) hsk (hS.sub r (e - (p + r)) (by omega))
            rw [show ((r : Int)).toNat = r by omega, this]
            congr 1; omega
        · rw [if_neg c2] at hsk; exact absurd (congrArg Prod.fst hsk) (by simp only; omega)
end Go.Proofs.YtjbcjcibnjbpcaaDoor.Idl
namespace Go.Proofs.YtjbcjcibnjbpcaaDoor.Idl
open Go
set_option maxHeartbeats 8000000
set_option maxRecDepth 100000
set_option linter.unusedSimpArgs false
/-- Tokens that follow one another from a place on to the end. -/
def Chain (s : ByteArray) : Nat → List (Nat × Tk) → Prop
  | p, [] => skipL s (s.size + 1) p = (s.size, -1)
  | p, t :: r => skipL s (s.size + 1) p = (t.1, -1) ∧ t.1 < s.size ∧ t.2 = tokF s t.1 ∧ t.2.ok = true ∧ Chain s t.2.fin r
theorem skipL_le (s : ByteArray) : ∀ (n p : Nat), p ≤ s.size → (skipL s n p).1 ≤ s.size := by
  intro n
  induction n with
  | zero => intro p h; exact h
  | succ n ih =>
    intro p h
    simp only [skipL]
    split
    · split
      · exact ih _ (by omega)
      · split
        · split
          · exact h
          · have := remL_le s (s.size + 1) p 0
            exact ih _ (by omega)
        · exact h
    · exact h
theorem lexF_chain (s : ByteArray) : ∀ (f p : Nat) (acc l : List (Nat × Tk)), p ≤ s.size → s.size < f + p → lexF s f p acc = .ok l → ∃ r, l = acc ++ r ∧ Chain s p r := by
  intro f
  induction f with
  | zero => intro p acc l h1 h2 h; omega
  | succ f ih =>
    intro p acc l h1 h2 h
    have hge := skipL_ge s (s.size + 1) p
    have hle := skipL_le s (s.size + 1) p h1
    simp only [lexF] at h
    split at h
    · cases h
    · rename_i hneg
      have hs2 : (skipL s (s.size + 1) p).2 = -1 := by rcases hge.2 with h | h <;> omega
      split at h
      · rename_i hend
        cases h
        exact ⟨[], by simp, Prod.ext hend hs2⟩
      · rename_i hne
        split at h
        · cases h
        · rename_i hok
          split at h
          · cases h
          · have hok' : (tokF s (skipL s (s.size + 1) p).1).ok = true := by simpa using hok
            have hlt : (skipL s (s.size + 1) p).1 < s.size := by omega
            have hte := tokF_end s _ hlt hok'
            obtain ⟨r, hr, hc⟩ := ih _ _ l hte.2 (by omega) h
            refine ⟨((skipL s (s.size + 1) p).1, tokF s (skipL s (s.size + 1) p).1) :: r, by rw [hr, List.append_assoc]; rfl, Prod.ext rfl hs2, hlt, rfl, hok', hc⟩
theorem lexR_chain (s : ByteArray) (l : List (Nat × Tk)) (h : lexR s = .ok l) : Chain s 0 l := by
  unfold lexR at h
  split at h
  · cases h
  · obtain ⟨r, hr, hc⟩ := lexF_chain s _ 0 [] l (by omega) (by omega) h
    simp at hr
    subst hr
    exact hc
/-- Between two tokens there is none. -/
theorem lex_between (s : ByteArray) (p q : Nat) (hp : p ≤ q) (hq : q ≤ s.size) (hs : q - p ≤ 16384) (h : skipL s (s.size + 1) p = (q, -1)) : lexR (s.extract p q) = .ok [] := by
  have hsz : (s.extract p q).size = q - p := by simp; omega
  have hS : Same s p (s.extract p q) 0 (q - p) := ⟨by omega, by omega, fun j hj => by rw [Nat.zero_add, bt_extract s p q j (by omega) hq]⟩
  have hk := skip_same s (s.extract p q) (s.size + 1) p 0 q (by omega) (by omega) h hS
  unfold lexR
  rw [if_neg (by omega), lexF_skip _ 0 (0 + (q - p)) hk]
  exact lexF_end _ _ (by omega) (by omega) _ _
/-- A token that is neither a number nor a text stands in the text as it is. -/
theorem tok_text (s : ByteArray) (p : Nat) (hp : p < s.size) (hok : (tokF s p).ok = true) (h1 : (tokF s p).kind ≠ 1) (h2 : (tokF s p).kind ≠ 2) : (tokF s p).text = s.extract p (tokF s p).fin := by
  revert hok h1 h2
  unfold tokF
  cases hd : digitB (bt s p) with
  | true =>
    simp only [if_true]
    generalize numF (s.extract p (span digitB s p)) ((s.extract p (span digitB s p)).size + 1) 0 0 = r
    intro _ h1
    cases r with
    | none => exact absurd rfl h1
    | some r => exfalso; apply h1; simp only [numT]; split <;> rfl
  | false =>
    simp only [Bool.false_eq_true, if_false]
    by_cases h34 : bt s p = 34
    · simp only [if_pos h34]
      intro _ _ h2
      cases hx : txtF s (s.size + 1) (p + 1) [] with
      | none => rw [hx] at h2; exact absurd rfl h2
      | some r => rw [hx] at h2; exact absurd rfl h2
    · simp only [if_neg h34]
      by_cases h39 : bt s p = 39
      · rw [if_pos h39]; intro _ _ _; rfl
      · rw [if_neg h39]
        by_cases hw : (smallB (bt s p) || greatB (bt s p)) = true
        · rw [if_pos hw]; intro _ _ _; rfl
        · rw [if_neg hw]
          intro hok _ _
          cases hx : signF s p signsL with
          | none => rw [hx] at hok; cases hok
          | some x =>
            simp only [signT]
            have hm := (signF_mem s p _ _ hx).2
            have := (prefixB_iff s x p (by omega)).1 hm
            have e := ext_same this
            rw [Nat.zero_add, suf_zero] at e
            exact e.symm
theorem tok_text_size (s : ByteArray) (p : Nat) (hp : p < s.size) (hok : (tokF s p).ok = true) (h1 : (tokF s p).kind ≠ 1) (h2 : (tokF s p).kind ≠ 2) : p + (tokF s p).text.size = (tokF s p).fin := by
  have := tokF_end s p hp hok
  rw [tok_text s p hp hok h1 h2]
  simp
  omega
theorem tok_ref (s : ByteArray) (p : Nat) (hp : p < s.size) (hok : (tokF s p).ok = true) : (tokF (s.extract p s.size) 0).ref = .tuple #[tokV (tokF s p).kind 0 (tokF s p).text (tokF s p).n, .int .i64 (((tokF s p).fin - p : Nat) : Int)] := by
  obtain ⟨so, ss⟩ := tokF_suf s p hp
  have e := ss hok
  rw [hok] at so
  unfold Tk.ref
  rw [← so, e]
  simp
end Go.Proofs.YtjbcjcibnjbpcaaDoor.Idl
namespace Go.Proofs.YtjbcjcibnjbpcaaDoor.Idl
open Go
set_option maxHeartbeats 32000000
set_option maxRecDepth 100000
set_option linter.unusedSimpArgs false
theorem loop6 (s : ByteArray) (hs : s.size ≤ 3000) (tb c lo : Nat) (l : List (Nat × Tk)) (hl : l.length < 2 ^ 30) (htb : tb < lo) (h9 : 9 ≤ lo) : ∀ (n i p : Nat) (H : IH) (T : Regs), l.length - i = n → i ≤ l.length → p ≤ s.size → Glob H → lo ≤ H.next → TkRow H tb l → Chain s p (l.drop i) →
    T.at 0 = .string s → T.at 6 = .int .i64 (p : Int) → T.at 30 = .slice (some ⟨tb, 0, none⟩) l.length c → T.at 31 = .int .i64 (l.length : Int) → T.at 32 = .int .i64 (i : Int) →
    ∃ T' H', run J okAll (.loop L6_0) T H = some (.exit 0, T', H') ∧ Fr lo H H' := by
  intro n
  induction n with
  | zero =>
    intro i p H T hn hi hp hG hlo hrow hch t0 t6 t30 t31 t32
    have hlt : ¬ ((i : Int) < l.length) := by omega
    have : ∃ T', run J okAll (.loop L6_0) T H = some (.exit 0, T', H) := by
      rw [r_loop]
      simp [L6_0, t0, t6, t30, t31, t32, hlt]
    obtain ⟨T', e⟩ := this
    exact ⟨T', H, e, Fr.refl _ _⟩
  | succ n ih =>
    intro i p H T hn hi hp hG hlo hrow hch t0 t6 t30 t31 t32
    have hlt : i < l.length := by omega
    have w1 : IntKind.i64.wrap ((i : Int) + 1) = (i : Int) + 1 := wrap64 _ (by omega) (by omega)
    have hd : l.drop i = l[i] :: l.drop (i + 1) := List.drop_eq_getElem_cons hlt
    have hc := hrow i hlt
    rw [hd] at hch
    generalize l[i] = t at hch hc
    obtain ⟨g1, g2, g3, g4, g5⟩ := hch
    have hge := (skipL_ge s (s.size + 1) p).1
    rw [g1] at hge
    simp only at hge
    rw [g3] at g4
    have hte := tokF_end s t.1 g2 g4
    have hbt := lex_between s p t.1 hge (by omega) (by omega) g1
    have hrf := tok_ref s t.1 g2 g4
    have htx := tok_text s t.1 g2 g4
    have htz := tok_text_size s t.1 g2 g4
    rw [← g3] at hte hrf htx htz
    have h6 : ¬ (t.1 : Int) < p := by omega
    have h7 : ¬ (s.size : Int) ≤ t.1 := by omega
    have sl1 := sliceS_some s p t.1 hge (by omega)
    have sl2 := sliceS_some s t.1 s.size (by omega) (by omega)
    simp only [tkC] at hc
    -- between
    have hGa : Glob (H.push (.cells [.int .i64 t.2.kind, .int .i64 (t.1 : Int), .string t.2.text, .int .i64 t.2.n] 31 false)) := hG.mono hG.2.2 ((Fr.refl _ _).push (Nat.le_refl _) _)
    obtain ⟨H2, v2, f2, e13, hv2⟩ := c13 _ (s.extract p t.1) hGa (by simp; omega)
    rw [hbt] at e13 hv2
    obtain ⟨ba, cv, rfl⟩ := hv2.slice
    simp only [LR.errno, LR.pos, LR.toks, List.length_nil] at e13
    have hx2 : H2.get H.next = some (.cells [.int .i64 t.2.kind, .int .i64 (t.1 : Int), .string t.2.text, .int .i64 t.2.n] 31 false) := by rw [f2.2 _ (by simp)]; exact IH.get_push_same _ _
    obtain ⟨H3, f3, e20⟩ := c20 H2 (s.extract t.1 s.size) (by rw [size_suf]; omega) (by rw [size_suf]; omega)
    rw [hrf] at e20
    have hn2 : H.next + 1 ≤ H2.next := by have := f2.1; simpa using this
    have hx3 : H3.get H.next = some (.cells [.int .i64 t.2.kind, .int .i64 (t.1 : Int), .string t.2.text, .int .i64 t.2.n] 31 false) := by rw [f3.2 _ (by omega)]; exact hx2
    have hn3 : H2.next ≤ H3.next := f3.1
    have hnx : ¬ H.next = H3.next := by omega
    have fA : Fr lo H H3 := by
      refine ⟨by omega, fun x hx => ?_⟩
      rw [f3.2 x (by omega), f2.2 x (by simp; omega), IH.get_push_other _ _ _ (by omega)]
    have hfz : ¬ t.2.fin - t.1 = 0 := by omega
    have w5 : IntKind.i64.wrap ((t.1 : Int) + ((t.2.fin - t.1 : Nat) : Int)) = (t.2.fin : Int) := by rw [wrap64 _ (by omega) (by omega)]; omega
    have step : ∃ T1, run J okAll (.loop L6_0) T H = run J okAll (.loop L6_0) T1 (H3.push (.cells [.int .i64 t.2.kind, .int .i64 (t.1 : Int), .string t.2.text, .int .i64 t.2.n] 31 false)) ∧ T1.at 0 = .string s ∧ T1.at 6 = .int .i64 (t.2.fin : Int) ∧ T1.at 30 = .slice (some ⟨tb, 0, none⟩) l.length c ∧ T1.at 31 = .int .i64 (l.length : Int) ∧ T1.at 32 = .int .i64 ((i : Int) + 1) := by
      by_cases k1 : t.2.kind = 1
      · have k1D : decide (t.2.kind = 1) = true := decide_eq_true k1
        rw [r_loop]
        simp [L6_0, t0, t6, t30, t31, t32, hlt, iindexAddr, hc, inew, istore, Value.cells, plain1, overlay, push_set, w1, h6, h7, sl1, e13, hx2, e20, hx3, IH.get_push, hnx, sl2, tokV, hfz, w5, guard_undef, k1D]
        exact ⟨_, rfl, by simp [t0], by simp, by simp [t30], by simp [t31], by simp⟩
      · have k1D : decide (t.2.kind = 1) = false := decide_eq_false k1
        by_cases k2 : t.2.kind = 2
        · have k2D : decide (t.2.kind = 2) = true := decide_eq_true k2
          rw [r_loop]
          simp [L6_0, t0, t6, t30, t31, t32, hlt, iindexAddr, hc, inew, istore, Value.cells, plain1, overlay, push_set, w1, h6, h7, sl1, e13, hx2, e20, hx3, IH.get_push, hnx, sl2, tokV, hfz, w5, guard_undef, k1D, k2D]
          exact ⟨_, rfl, by simp [t0], by simp, by simp [t30], by simp [t31], by simp⟩
        · have k2D : decide (t.2.kind = 2) = false := decide_eq_false k2
          rw [← g3] at *
          have z1 := htz k1 k2
          have z2 := htx k1 k2
          have w2 : IntKind.i64.wrap ((s.size : Int) - t.1) = (s.size : Int) - t.1 := wrap64 _ (by omega) (by omega)
          have w3 : IntKind.i64.wrap ((t.1 : Int) + t.2.text.size) = ((t.1 + t.2.text.size : Nat) : Int) := by rw [wrap64 _ (by omega) (by omega)]; simp
          have h8 : ¬ (s.size : Int) - t.1 < t.2.text.size := by omega
          have sl3 : sliceS s (some t.1) (some (t.1 + t.2.text.size)) = some (.string t.2.text) := by rw [sliceS_some s _ _ (by omega) (by omega), z1, ← z2]
          have bn : ∀ d, ibound (some (.int .i64 ((t.1 : Int) + t.2.text.size))) d = some (t.1 + t.2.text.size) := fun d => by simp only [bound_int]; rw [if_pos (by omega)]; congr 1
          rw [r_loop]
          simp [L6_0, t0, t6, t30, t31, t32, hlt, iindexAddr, hc, inew, istore, Value.cells, plain1, overlay, push_set, w1, h6, h7, sl1, e13, hx2, e20, hx3, IH.get_push, hnx, sl2, tokV, hfz, w5, guard_undef, k1D, k2D, w2, w3, h8, sl3, bn]
          exact ⟨_, rfl, by simp [t0], by simp, by simp [t30], by simp [t31], by simp⟩
    obtain ⟨T1, e0, a0, a6, a30, a31, a32⟩ := step
    have fB : Fr lo H (H3.push (.cells [.int .i64 t.2.kind, .int .i64 (t.1 : Int), .string t.2.text, .int .i64 t.2.n] 31 false)) := fA.push (by omega) _
    obtain ⟨T', H', r1, r2⟩ := ih (i + 1) t.2.fin _ T1 (by omega) (by omega) hte.2 (hG.mono h9 fB) (by simp; omega) (fun j hj => by rw [fB.2 tb htb]; exact hrow j hj) g5 a0 a6 a30 a31 (by rw [a32]; simp)
    exact ⟨T', H', by rw [e0, r1], fB.trans r2⟩
end Go.Proofs.YtjbcjcibnjbpcaaDoor.Idl
namespace Go.Proofs.YtjbcjcibnjbpcaaDoor.Idl
open Go
set_option maxHeartbeats 16000000
set_option maxRecDepth 100000
set_option linter.unusedSimpArgs false
theorem lexF_err (s : ByteArray) : ∀ (f p : Nat) (acc : List (Nat × Tk)) (e : Int) (a : Nat), p ≤ s.size → s.size < f + p → lexF s f p acc = .err e a → e = 10 ∨ e = 2 := by
  intro f
  induction f with
  | zero => intro p acc e a h1 h2 h; omega
  | succ f ih =>
    intro p acc e a h1 h2 h
    have hge := skipL_ge s (s.size + 1) p
    have hle := skipL_le s (s.size + 1) p h1
    simp only [lexF] at h
    split at h
    · cases h; exact .inl rfl
    · split at h
      · cases h
      · split at h
        · cases h; exact .inl rfl
        · rename_i hok
          split at h
          · cases h; exact .inr rfl
          · have hok' : (tokF s (skipL s (s.size + 1) p).1).ok = true := by simpa using hok
            have hte := tokF_end s _ (by omega) hok'
            exact ih _ _ e a hte.2 (by omega) h
theorem lexR_err (s : ByteArray) (e : Int) (a : Nat) (h : lexR s = .err e a) : e = 10 ∨ e = 2 := by
  unfold lexR at h
  split at h
  · cases h; exact .inr rfl
  · exact lexF_err s _ 0 [] e a (by omega) (by omega) h
theorem c6 (H : IH) (hG : Glob H) (s : ByteArray) : ∃ H', Fr H.next H H' ∧ cal J okAll 6 #[.string s] H = some (.ret (.bool true), H') := by
  have h9 := hG.2.2
  have hs := cutF_size s
  have k := c12 H s
  obtain ⟨H1, v1, f1, e1, hv1⟩ := c13 H (cutF s) hG (by omega)
  have hG1 := hG.mono h9 f1
  generalize cutF s = s' at *
  rw [cal6 _ _ (by simp)]
  cases hr : lexR s' with
  | err e a =>
    rw [hr] at e1 hv1
    have he := lexR_err s' e a hr
    have hne : ¬ e = 0 := by omega
    obtain ⟨ba, cv, rfl⟩ := hv1.slice
    obtain ⟨H2, f2, e2⟩ := c16 H1 hG1
    refine ⟨H2, f1.trans' f2 f1.1, ?_⟩
    simp only [LR.errno, LR.pos, LR.toks, List.length_nil] at e1
    simp [C6, R6, regsOf, fin, iresult1, k, e1, hne, e2]
  | ok l =>
    rw [hr] at e1 hv1
    have hlen := lexR_len s'
    rw [hr] at hlen
    have hch := lexR_chain s' l hr
    simp only [LR.errno, LR.pos, LR.toks] at e1 hv1 hlen
    by_cases hl : l = []
    · subst hl
      obtain ⟨ba, cv, rfl⟩ := hv1.slice
      obtain ⟨H2, f2, e2⟩ := c16 H1 hG1
      refine ⟨H2, f1.trans' f2 f1.1, ?_⟩
      simp [C6, R6, regsOf, fin, iresult1, k, e1]
      generalize hX : run J okAll (.loop L6_0) _ _ = X
      have : ∃ T', X = some (.exit 0, T', H1) := by
        rw [← hX, r_loop]
        simp [L6_0]
      obtain ⟨T', e⟩ := this
      rw [e]
      simp [e2, fin, iresult1]
    · obtain ⟨tb, b0, b1, rfl, b2⟩ := hv1.row hl
      have hrow : TkRow H1 tb l := fun i hi => tks_cell hv1 hi
      have key := fun T => loop6 s' hs tb capU H1.next l (by omega) b1 hG1.2.2 _ 0 0 H1 T rfl (by omega) (by omega) hG1 (Nat.le_refl _) hrow (by rw [List.drop_zero]; exact hch)
      simp [C6, R6, regsOf, fin, iresult1, k, e1]
      generalize hX : run J okAll (.loop L6_0) _ _ = X
      obtain ⟨T1, x1, a0, a6, a30, a31, a32⟩ : ∃ T1, run J okAll (.loop L6_0) T1 H1 = X ∧ T1.at 0 = .string s' ∧ T1.at 6 = .int .i64 ((0 : Nat) : Int) ∧ T1.at 30 = .slice (some ⟨tb, 0, none⟩) l.length capU ∧ T1.at 31 = .int .i64 (l.length : Int) ∧ T1.at 32 = .int .i64 ((0 : Nat) : Int) :=
        ⟨_, hX, by simp, by simp, by simp, by simp, by simp⟩
      obtain ⟨T', H2, r1, r2⟩ := key T1 a0 a6 a30 a31 a32
      obtain ⟨H3, f3, e3⟩ := c16 H2 (hG1.mono hG1.2.2 r2)
      refine ⟨H3, (f1.trans' r2 f1.1).trans' f3 (Nat.le_trans f1.1 r2.1), ?_⟩
      rw [← x1, r1]
      simp [e3, fin, iresult1]
end Go.Proofs.YtjbcjcibnjbpcaaDoor.Idl
namespace Go.Proofs.YtjbcjcibnjbpcaaDoor.Idl
open Go
set_option maxHeartbeats 8000000
set_option maxRecDepth 100000
set_option linter.unusedSimpArgs false
theorem bt_app (x y : ByteArray) (i : Nat) : bt (x ++ y) i = if i < x.size then bt x i else bt y (i - x.size) := by
  unfold bt
  have : (x ++ y).data.toList = x.data.toList ++ y.data.toList := by simp [ByteArray.data_append]
  rw [this]
  have hl : x.data.toList.length = x.size := by simp
  by_cases h : i < x.size
  · rw [if_pos h, List.getElem?_append_left (by omega)]
  · rw [if_neg h, List.getElem?_append_right (by omega), hl]
theorem skip_stop (s : ByteArray) : ∀ (N p q : Nat), s.size - p < N → skipL s (s.size + 1) p = (q, -1) → q < s.size → p ≤ s.size → blankB (bt s q) = false ∧ prefixB (s.extract q s.size) ⟨#[40, 42]⟩ = false := by
  intro N
  induction N with
  | zero => intro p q h; omega
  | succ N ih =>
    intro p q hN h hq hp
    have hge := (skipL_ge s (s.size + 1) p).1
    rw [h] at hge
    simp only at hge
    have hlt : p < s.size := by omega
    rw [skip_step s p hlt] at h
    by_cases c1 : blankB (bt s p) = true
    · rw [if_pos c1] at h; exact ih (p + 1) q (by omega) h hq (by omega)
    · rw [if_neg c1] at h
      by_cases c2 : prefixB (s.extract p s.size) ⟨#[40, 42]⟩ = true
      · rw [if_pos c2] at h
        by_cases c3 : remS (s.extract p s.size) < 0
        · rw [if_pos c3] at h; exact absurd (congrArg Prod.snd h) (by simp only; omega)
        · rw [if_neg c3] at h
          have hne : remS (s.extract p s.size) ≠ 0 := fun e => by have := (remS_zero _).1 e; rw [c2] at this; cases this
          have hge2 := (skipL_ge s (s.size + 1) (p + (remS (s.extract p s.size)).toNat)).1
          rw [h] at hge2
          simp only at hge2
          exact ih _ q (by omega) h hq (by omega)
      · rw [if_neg c2] at h
        have : p = q := congrArg Prod.fst h
        subst this
        exact ⟨by simpa using c1, by simpa using c2⟩
/-- A text that goes on with a blank behind a is cut as a is, up to there. -/
theorem lexF_front (a u : ByteArray) (hS : Same a 0 u 0 a.size) (hb : a.size < u.size) (h32 : bt u a.size = 32) : ∀ (r : List (Nat × Tk)) (p f : Nat) (acc : List (Nat × Tk)), Chain a p r → p ≤ a.size → u.size < f + p → acc.length + r.length < 4000 →
    ∃ f', u.size < f' + a.size ∧ lexF u f p acc = lexF u f' a.size (acc ++ r) := by
  have hbt : ∀ j, j < a.size → bt u j = bt a j := fun j hj => by have := hS.2.2 j hj; simp only [Nat.zero_add] at this; exact this.symm
  have hsub : ∀ p n, p + n ≤ a.size → Same a p u p n := fun p n h => by have := hS.sub p n h; simp only [Nat.zero_add] at this; exact this
  intro r
  induction r with
  | nil =>
    intro p f acc hc hp hf _
    have := skip_same a u (a.size + 1) p p a.size (by omega) hp hc (hsub p _ (by omega))
    rw [show p + (a.size - p) = a.size by omega] at this
    exact ⟨f, by omega, by rw [List.append_nil]; exact lexF_skip u p a.size this f acc⟩
  | cons t r ih =>
    intro p f acc hc hp hf hlen
    obtain ⟨g1, g2, g3, g4, g5⟩ := hc
    have hge := (skipL_ge a (a.size + 1) p).1
    rw [g1] at hge
    simp only at hge
    obtain ⟨n1, n2⟩ := skip_stop a (a.size + 1) p t.1 (by omega) g1 g2 hp
    have hsk := skip_same a u (a.size + 1) p p t.1 (by omega) hp g1 (hsub p _ (by omega))
    rw [show p + (t.1 - p) = t.1 by omega] at hsk
    obtain ⟨f, rfl⟩ : ∃ g, f = g + 1 := ⟨f - 1, by omega⟩
    have p0 : prefixB (u.extract t.1 u.size) ⟨#[40, 42]⟩ = false := by
      rw [openB u t.1 (by omega)]
      rw [openB a t.1 (by omega)] at n2
      rw [hbt _ g2]
      by_cases hq : t.1 + 1 < a.size
      · rw [hbt _ hq]
        have c1 : decide (t.1 + 2 ≤ a.size) = true := decide_eq_true (by omega)
        rw [c1, Bool.true_and] at n2
        rw [n2, Bool.and_false]
      · have : t.1 + 1 = a.size := by omega
        rw [this, h32]
        simp
    rw [g3] at g4
    have hte := tokF_end a t.1 g2 g4
    have htk := tok_same a u t.1 t.1 g2 g4 (hsub t.1 _ (by omega)) (by
      rw [show t.1 + ((tokF a t.1).fin - t.1) = (tokF a t.1).fin by omega]
      by_cases hq : (tokF a t.1).fin < a.size
      · exact .inr ⟨by omega, .inr ⟨hq, hbt _ hq⟩⟩
      · have : (tokF a t.1).fin = a.size := by omega
        rw [this]
        exact .inr ⟨hb, .inl (by rw [h32]; rfl)⟩)
    have htk' : tokF u t.1 = tokF a t.1 := by
      rw [htk]
      have : t.1 + ((tokF a t.1).fin - t.1) = (tokF a t.1).fin := by omega
      rw [this]
    rw [lexF_skip u p t.1 hsk, lexF_tok u t.1 (by omega) (by rw [hbt _ g2]; exact n1) ((remS_zero _).2 p0), htk', if_neg (by simp [g4]), if_neg (by simp at hlen; omega)]
    rw [g3] at g5
    obtain ⟨f', hf', he⟩ := ih (tokF a t.1).fin f (acc ++ [(t.1, tokF a t.1)]) g5 hte.2 (by omega) (by simp at hlen ⊢; omega)
    refine ⟨f', hf', ?_⟩
    rw [he, List.append_assoc]
    have : t = (t.1, tokF a t.1) := Prod.ext rfl g3
    rw [← this]; rfl
theorem lexF_fuel (s : ByteArray) : ∀ (f g p : Nat) (acc : List (Nat × Tk)), s.size < f + p → s.size < g + p → p ≤ s.size → lexF s f p acc = lexF s g p acc := by
  intro f
  induction f with
  | zero => intro g p acc h1 h2 h3; omega
  | succ f ih =>
    intro g p acc h1 h2 h3
    obtain ⟨g, rfl⟩ : ∃ k, g = k + 1 := ⟨g - 1, by omega⟩
    have hge := (skipL_ge s (s.size + 1) p).1
    have hle := skipL_le s (s.size + 1) p h3
    simp only [lexF]
    generalize skipL s (s.size + 1) p = q at *
    by_cases c1 : 0 ≤ q.2
    · rw [if_pos c1, if_pos c1]
    · rw [if_neg c1, if_neg c1]
      by_cases c2 : q.1 = s.size
      · rw [if_pos c2, if_pos c2]
      · rw [if_neg c2, if_neg c2]
        cases hok : (tokF s q.1).ok with
        | false => rfl
        | true =>
          have hte := tokF_end s q.1 (by omega) hok
          by_cases c4 : acc.length = 4000
          · simp only [c4, if_true]
          · simp only [c4, if_false]
            rw [ih g _ _ (by omega) (by omega) hte.2]
def shK (k : Nat) (t : Nat × Tk) : Nat × Tk := (t.1 + k, { t.2 with fin := t.2.fin + k })
theorem skipL_suf (u b : ByteArray) (k : Nat) (hk : k ≤ u.size) (hb : u.extract k u.size = b) : ∀ (N p : Nat), b.size - p < N → p ≤ b.size → skipL u (u.size + 1) (k + p) = ((skipL b (b.size + 1) p).1 + k, if (skipL b (b.size + 1) p).2 = -1 then -1 else (skipL b (b.size + 1) p).2 + k) := by
  have hsz : b.size = u.size - k := by rw [← hb, size_suf]
  intro N
  induction N with
  | zero => intro p h; omega
  | succ N ih =>
    intro p hN hp
    by_cases hlt : p < b.size
    · have hbb : bt u (k + p) = bt b p := by rw [← hb, bt_suf u k p (by omega)]
      have hex : u.extract (k + p) u.size = b.extract p b.size := by rw [← hb, suf_suf u k p (by omega)]
      rw [skip_step u (k + p) (by omega), skip_step b p hlt, hbb, hex]
      by_cases c1 : blankB (bt b p) = true
      · rw [if_pos c1, if_pos c1]
        exact ih (p + 1) (by omega) (by omega)
      · rw [if_neg c1, if_neg c1]
        by_cases c2 : prefixB (b.extract p b.size) ⟨#[40, 42]⟩ = true
        · rw [if_pos c2, if_pos c2]
          by_cases c3 : remS (b.extract p b.size) < 0
          · rw [if_pos c3, if_pos c3]
            simp only
            rw [if_neg (by omega)]
            exact Prod.ext (by simp only; omega) (by simp only; push_cast; omega)
          · rw [if_neg c3, if_neg c3]
            have hle : remS (b.extract p b.size) ≤ b.size - p := by
              unfold remS
              rw [if_pos c2]
              have := remL_le (b.extract p b.size) ((b.extract p b.size).size + 1) 0 0
              rw [size_suf] at this ⊢
              omega
            have hne : remS (b.extract p b.size) ≠ 0 := fun e => by have := (remS_zero _).1 e; rw [c2] at this; cases this
            have := ih (p + (remS (b.extract p b.size)).toNat) (by omega) (by omega)
            rw [← Nat.add_assoc] at this
            exact this
        · rw [if_neg c2, if_neg c2]
          simp only [if_true]
          exact Prod.ext (by simp only; omega) rfl
    · have e1 : skipL b (b.size + 1) p = (p, -1) := by simp only [skipL]; rw [dif_neg hlt]
      have e2 : skipL u (u.size + 1) (k + p) = (k + p, -1) := by simp only [skipL]; rw [dif_neg (by omega)]
      rw [e1, e2]
      simp only [if_true]
      exact Prod.ext (by simp only; omega) rfl
theorem lexF_back (u b : ByteArray) (k : Nat) (hk : k ≤ u.size) (hb : u.extract k u.size = b) : ∀ (f p : Nat) (acc acc2 : List (Nat × Tk)), p ≤ b.size → acc.length + (b.size - p) < 4000 → acc2.length + (b.size - p) < 4000 → b.size < f + p →
    (∀ e x, lexF b f p acc2 = .err e x → lexF u f (k + p) acc = .err e (x + k)) ∧ (∀ m, lexF b f p acc2 = .ok m → ∃ r, m = acc2 ++ r ∧ lexF u f (k + p) acc = .ok (acc ++ r.map (shK k))) := by
  have hsz : b.size = u.size - k := by rw [← hb, size_suf]
  intro f
  induction f with
  | zero => intro p acc acc2 h1 h2 h3 h4; omega
  | succ f ih =>
    intro p acc acc2 h1 h2 h3 h4
    have hsk := skipL_suf u b k hk hb (b.size + 1) p (by omega) h1
    have hge := skipL_ge b (b.size + 1) p
    have hle := skipL_le b (b.size + 1) p h1
    have eb : lexF b (f + 1) p acc2 = if 0 ≤ (skipL b (b.size + 1) p).2 then .err 10 (skipL b (b.size + 1) p).2.toNat else if (skipL b (b.size + 1) p).1 = b.size then .ok acc2 else if (tokF b (skipL b (b.size + 1) p).1).ok = false then .err 10 (skipL b (b.size + 1) p).1 else if acc2.length = 4000 then .err 2 (skipL b (b.size + 1) p).1 else lexF b f (tokF b (skipL b (b.size + 1) p).1).fin (acc2 ++ [((skipL b (b.size + 1) p).1, tokF b (skipL b (b.size + 1) p).1)]) := rfl
    have eu : lexF u (f + 1) (k + p) acc = if 0 ≤ (skipL u (u.size + 1) (k + p)).2 then .err 10 (skipL u (u.size + 1) (k + p)).2.toNat else if (skipL u (u.size + 1) (k + p)).1 = u.size then .ok acc else if (tokF u (skipL u (u.size + 1) (k + p)).1).ok = false then .err 10 (skipL u (u.size + 1) (k + p)).1 else if acc.length = 4000 then .err 2 (skipL u (u.size + 1) (k + p)).1 else lexF u f (tokF u (skipL u (u.size + 1) (k + p)).1).fin (acc ++ [((skipL u (u.size + 1) (k + p)).1, tokF u (skipL u (u.size + 1) (k + p)).1)]) := rfl
    rw [eb, eu, hsk]
    clear eb eu hsk
    generalize skipL b (b.size + 1) p = q at *
    obtain ⟨q1, q2⟩ := q
    simp only at *
    by_cases c1 : 0 ≤ q2
    · have hq2 : q2 = q1 := by omega
      rw [if_pos c1, if_neg (show ¬ q2 = -1 by omega), if_pos (show 0 ≤ q2 + k by omega)]
      refine ⟨fun e x h => ?_, fun m h => by cases h⟩
      cases h
      congr 1
      omega
    · have hq2 : q2 = -1 := by omega
      subst hq2
      simp only [if_true]
      rw [if_neg (show ¬ (0 : Int) ≤ -1 by decide), if_neg (show ¬ (0 : Int) ≤ -1 by decide)]
      by_cases c2 : q1 = b.size
      · rw [if_pos c2, if_pos (show q1 + k = u.size by omega)]
        refine ⟨fun e x h => (by cases h), fun m h => ?_⟩
        cases h
        exact ⟨[], by simp, by simp⟩
      · rw [if_neg c2, if_neg (show ¬ q1 + k = u.size by omega)]
        have hlt : q1 < b.size := by omega
        have hex : u.extract (k + q1) u.size = b.extract q1 b.size := by rw [← hb, suf_suf u k q1 (by omega)]
        obtain ⟨u1, u2⟩ := tokF_suf u (k + q1) (by omega)
        obtain ⟨b1, b2⟩ := tokF_suf b q1 hlt
        rw [hex, ← b1] at u1
        rw [Nat.add_comm q1 k]
        cases hok : (tokF b q1).ok with
        | false =>
          rw [hok] at u1
          rw [if_pos u1, if_pos rfl]
          refine ⟨fun e x h => ?_, fun m h => by cases h⟩
          cases h
          rw [Nat.add_comm]
        | true =>
          rw [hok] at u1
          have u2 := u2 u1
          have b2 := b2 hok
          have hte := tokF_end b q1 hlt hok
          rw [if_neg (show ¬ (tokF u (k + q1)).ok = false by simp [u1]), if_neg (show ¬ true = false by simp), if_neg (show ¬ acc2.length = 4000 by omega), if_neg (show ¬ acc.length = 4000 by omega)]
          have htu : tokF u (k + q1) = { tokF b q1 with fin := k + (tokF b q1).fin } := by
            rw [u2, hex, b2]
            simp only [Tk.mk.injEq, true_and, and_true]
            omega
          rw [htu]
          simp only
          obtain ⟨i1, i2⟩ := ih (tokF b q1).fin (acc ++ [(k + q1, { tokF b q1 with fin := k + (tokF b q1).fin })]) (acc2 ++ [(q1, tokF b q1)]) hte.2 (by simp; omega) (by simp; omega) (by omega)
          refine ⟨i1, fun m h => ?_⟩
          obtain ⟨r, r1, r2⟩ := i2 m h
          refine ⟨(q1, tokF b q1) :: r, by rw [r1, List.append_assoc]; rfl, ?_⟩
          rw [r2, List.append_assoc]
          congr 2
          simp only [List.map_cons, shK, List.cons_append, List.nil_append]
          rw [Nat.add_comm q1 k, Nat.add_comm (tokF b q1).fin k]
theorem chain_len (s : ByteArray) : ∀ (r : List (Nat × Tk)) (p : Nat), Chain s p r → p ≤ s.size → r.length ≤ s.size - p := by
  intro r
  induction r with
  | nil => intro p _ _; simp
  | cons t r ih =>
    intro p h hp
    obtain ⟨g1, g2, g3, g4, g5⟩ := h
    have hge := (skipL_ge s (s.size + 1) p).1
    rw [g1] at hge
    simp only at hge
    rw [g3] at g4 g5
    have hte := tokF_end s t.1 g2 g4
    have := ih _ g5 hte.2
    simp only [List.length_cons]
    omega
theorem lex_join (a b : ByteArray) (ha : a.size ≤ 1500) (hb : b.size ≤ 1500) (l : List (Nat × Tk)) (h : lexR a = .ok l) :
    (∀ e x, lexR b = .err e x → lexR (a ++ ⟨#[32]⟩ ++ b) = .err e (x + (a.size + 1))) ∧ (∀ m, lexR b = .ok m → lexR (a ++ ⟨#[32]⟩ ++ b) = .ok (l ++ m.map (shK (a.size + 1)))) := by
  have hch := lexR_chain a l h
  have hll := chain_len a l 0 hch (by omega)
  have h1 : (ByteArray.mk #[32]).size = 1 := rfl
  have hsz : (a ++ ⟨#[32]⟩ ++ b).size = a.size + 1 + b.size := by rw [ByteArray.size_append, ByteArray.size_append, h1]
  have hbt : ∀ i, bt (a ++ ⟨#[32]⟩ ++ b) i = if i < a.size + 1 then (if i < a.size then bt a i else bt ⟨#[32]⟩ (i - a.size)) else bt b (i - (a.size + 1)) := fun i => by
    rw [bt_app, ByteArray.size_append, h1, bt_app]
  have hS : Same a 0 (a ++ ⟨#[32]⟩ ++ b) 0 a.size := ⟨by omega, by omega, fun j hj => by rw [Nat.zero_add, hbt, if_pos (by omega), if_pos hj]⟩
  have h32 : bt (a ++ ⟨#[32]⟩ ++ b) a.size = 32 := by rw [hbt, if_pos (by omega), if_neg (by omega), Nat.sub_self]; rfl
  have hex : (a ++ ⟨#[32]⟩ ++ b).extract (a.size + 1) (a ++ ⟨#[32]⟩ ++ b).size = b := by
    have hSb : Same (a ++ ⟨#[32]⟩ ++ b) (a.size + 1) b 0 b.size := ⟨by omega, by omega, fun j hj => by rw [hbt, if_neg (by omega), Nat.zero_add]; congr 1; omega⟩
    have := ext_same hSb
    rw [Nat.zero_add, suf_zero, ← hsz] at this
    exact this
  generalize a ++ ⟨#[32]⟩ ++ b = u at *
  obtain ⟨f', hf', he⟩ := lexF_front a u hS (by omega) h32 l 0 (u.size + 1) [] hch (by omega) (by omega) (by simp; omega)
  rw [List.nil_append] at he
  have hlb : lexR b = lexF b (b.size + 1) 0 [] := by unfold lexR; rw [if_neg (by omega)]
  have hlu : lexR u = lexF u f' (a.size + 1 + 0) l := by
    unfold lexR
    rw [if_neg (by omega), he, lexF_blank u a.size (by omega) (by rw [h32]; rfl)]
  obtain ⟨i1, i2⟩ := lexF_back u b (a.size + 1) (by omega) hex f' 0 l [] (by omega) (by omega) (by simp; omega) (by omega)
  rw [hlb, hlu, lexF_fuel b (b.size + 1) f' 0 [] (by omega) (by omega) (by omega)]
  refine ⟨i1, fun m hm => ?_⟩
  obtain ⟨r, r1, r2⟩ := i2 m hm
  rw [List.nil_append] at r1
  rw [r2, r1]
end Go.Proofs.YtjbcjcibnjbpcaaDoor.Idl
namespace Go.Proofs.YtjbcjcibnjbpcaaDoor.Idl
open Go
set_option maxHeartbeats 16000000
set_option maxRecDepth 100000
set_option linter.unusedSimpArgs false
theorem flat_len (l : List (Nat × Tk)) : ((l.map tkC).flatten).length = l.length * 4 := by
  rw [flatten_len 4 _ (fun x hx => by obtain ⟨t, _, rfl⟩ := List.mem_map.1 hx; rfl), List.length_map]
theorem tkC_plain (t : Nat × Tk) : (tkC t).length = 4 ∧ (tkC t).all plain1 = true := ⟨rfl, by simp [tkC, plain1]⟩
theorem TksAt.mk (H : IH) (b lo : Nat) (l : List (Nat × Tk)) (h0 : lo ≤ b) (h1 : b < H.next) (hg : H.get b = some (.cells (l.map tkC).flatten 31 false)) : TksAt H (.slice (some ⟨b, 0, none⟩) l.length capU) l lo :=
  ⟨fun x hx => by obtain ⟨t, _, rfl⟩ := List.mem_map.1 hx; exact tkC_plain t, .inr ⟨b, h0, h1, by rw [List.length_map], hg⟩⟩
theorem flat_plain (l : List (Nat × Tk)) : ∀ x ∈ (l.map tkC).flatten, plain1 x = true := fun x hx => by
  obtain ⟨y, hy, hxy⟩ := List.mem_flatten.1 hx
  obtain ⟨t, _, rfl⟩ := List.mem_map.1 hy
  have := (tkC_plain t).2
  rw [List.all_eq_true] at this
  exact this x hxy
/-- One row behind another one. -/
theorem appT (H : IH) (v v' : Value) (l m : List (Nat × Tk)) (lo : Nat) (hlo : lo ≤ H.next) (hv : TksAt H v l lo) (hv' : TksAt H v' m lo) (hl : l.length + m.length < 2 ^ 20) :
    ∃ v2 H', iappend J #[23, 23] v v' H = some (v2, H') ∧ TksAt H' v2 (l ++ m) lo ∧ H.next ≤ H'.next ∧ ∀ x, x < H.next → ¬ Own v x → H'.get x = H.get x := by
  by_cases hm : m = []
  · subst hm
    obtain ⟨a', c', rfl⟩ := hv'.slice
    refine ⟨v, H, ?_, by rw [List.append_nil]; exact hv, Nat.le_refl _, fun _ _ _ => rfl⟩
    obtain ⟨a, c, rfl⟩ := hv.slice
    simp [iappend, ilenOf, Value.cells]
  · obtain ⟨mb, m0, m1, rfl, m2⟩ := hv'.row hm
    have hmz : ¬ m.length = 0 := fun e => hm (List.length_eq_zero_iff.1 e)
    have hml : (m.length * 4) ≤ ((m.map tkC).flatten).length := by rw [flat_len]; omega
    have hmt : ((m.map tkC).flatten).take (m.length * 4) = (m.map tkC).flatten := List.take_of_length_le (by rw [flat_len]; omega)
    have hpl := flat_plain m
    have hfl := flat_len m
    have hcap : (l.length + m.length) * 120 ≤ 140737488355328 := by omega
    have hz : (Value.agg #[Value.int IntKind.i64 0, Value.int IntKind.i64 0, Value.string ⟨#[]⟩, Value.int IntKind.i64 0]).cells.size = 4 := rfl
    by_cases hle : l = []
    · subst hle
      have hvn : v = .slice none 0 0 ∨ ∃ b, lo ≤ b ∧ b < H.next ∧ v = .slice (some ⟨b, 0, none⟩) 0 capU ∧ H.get b = some (.cells [] 31 false) := by
        rcases hv.2 with ⟨h, _⟩ | ⟨b, h0, h1, h2, h3⟩
        · exact .inl h
        · exact .inr ⟨b, h0, h1, h2, h3⟩
      simp only [List.length_nil, Nat.zero_add] at hcap
      rcases hvn with rfl | ⟨b, b0, b1, rfl, b2⟩
      · refine ⟨.slice (some ⟨H.next, 0, none⟩) m.length capU, H.push (.cells (m.map tkC).flatten 31 false), ?_, TksAt.mk _ _ _ _ hlo (by simp) (IH.get_push_same _ _), by simp, fun x hx _ => IH.get_push_other _ _ _ hx⟩
        generalize (m.map tkC).flatten = row at *
        simp [iappend, ilenOf, ifirst, icells, m2, hmz, hml, hmt, hcap, hz, hfl]
      · refine ⟨.slice (some ⟨H.next, 0, none⟩) m.length capU, (H.set b .dead).push (.cells (m.map tkC).flatten 31 false), ?_, TksAt.mk _ _ _ _ hlo (by simp) (IH.get_push_same (H.set b .dead) _), by simp, fun x hx hno => ?_⟩
        · generalize (m.map tkC).flatten = row at *
          simp [iappend, ilenOf, ifirst, icells, m2, hmz, hml, hmt, hcap, hz, hfl, b2]
          exact hpl
        · rw [IH.get_push_other _ _ _ (by simpa using hx), IH.get_set_other _ _ _ _ (fun e => hno ⟨_, _, by rw [e]⟩)]
    · obtain ⟨b, b0, b1, rfl, b2⟩ := hv.row hle
      have hll : (l.length * 4) ≤ ((l.map tkC).flatten).length := by rw [flat_len]; omega
      have hlt : ((l.map tkC).flatten).take (l.length * 4) = (l.map tkC).flatten := List.take_of_length_le (by rw [flat_len]; omega)
      refine ⟨.slice (some ⟨H.next, 0, none⟩) (l ++ m).length capU, (H.set b .dead).push (.cells ((l ++ m).map tkC).flatten 31 false), ?_, TksAt.mk _ _ _ _ hlo (by simp) (IH.get_push_same (H.set b .dead) _), by simp, fun x hx hno => ?_⟩
      · rw [List.map_append, List.flatten_append, List.length_append]
        generalize (m.map tkC).flatten = row at *
        generalize (l.map tkC).flatten = row2 at *
        simp [iappend, ilenOf, ifirst, icells, m2, hmz, hml, hmt, hcap, hz, hfl, b2, hll, hlt]
        exact hpl
      · rw [IH.get_push_other _ _ _ (by simpa using hx), IH.get_set_other _ _ _ _ (fun e => hno ⟨_, _, by rw [e]⟩)]
end Go.Proofs.YtjbcjcibnjbpcaaDoor.Idl
namespace Go.Proofs.YtjbcjcibnjbpcaaDoor.Idl
open Go
set_option maxHeartbeats 16000000
set_option maxRecDepth 100000
set_option linter.unusedSimpArgs false
def mvT (k : Nat) (t : Nat × Tk) : Nat × Tk := (t.1 + k, t.2)
def rowT (l : List (Nat × Tk)) : Blk := .cells (l.map tkC).flatten 31 false
theorem row_move (pre post : List (Nat × Tk)) (t : Nat × Tk) (k : Nat) : overlay ((pre ++ t :: post).map tkC).flatten (pre.length * 4 + 1) [.int .i64 ((t.1 : Int) + (k : Int))] = ((pre ++ mvT k t :: post).map tkC).flatten := by
  have hp := flat_len pre
  rw [List.map_append, List.map_append, List.flatten_append, List.flatten_append, List.map_cons, List.map_cons, List.flatten_cons, List.flatten_cons]
  generalize (pre.map tkC).flatten = P at *
  generalize (post.map tkC).flatten = Q at *
  unfold overlay
  rw [← hp, List.take_append, List.drop_append, List.take_of_length_le (by omega), List.drop_of_length_le (by simp; omega)]
  simp [tkC, mvT]
  rw [show P.length + 1 + 1 - P.length = 2 by omega]
  rfl
theorem row_cell (pre post : List (Nat × Tk)) (t : Nat × Tk) : (((pre ++ t :: post).map tkC).flatten)[pre.length * 4 + 1]? = some (.int .i64 (t.1 : Int)) ∧ pre.length * 4 + 1 + 1 ≤ (((pre ++ t :: post).map tkC).flatten).length := by
  have hp := flat_len pre
  have hq := flat_len (pre ++ t :: post)
  refine ⟨?_, by rw [hq]; simp; omega⟩
  rw [List.map_append, List.flatten_append, List.map_cons, List.flatten_cons]
  rw [List.getElem?_append_right (by omega), hp, Nat.add_sub_cancel_left]
  rfl
theorem loop7 (H : IH) (mb c K : Nat) (A : ByteArray) (hA : A.size + 1 = K) (hK : K ≤ 3000) (m : List (Nat × Tk)) (hm : m.length < 2 ^ 30) (hat : ∀ t ∈ m, t.1 < 2 ^ 30) (v5 v11 v12 : Value) : ∀ (n i : Nat) (T : Regs), m.length - i = n → i ≤ m.length →
    T.at 0 = .string A → T.at 5 = v5 → T.at 8 = .slice (some ⟨mb, 0, none⟩) m.length c → T.at 11 = v11 → T.at 12 = v12 → T.at 71 = .int .i64 (m.length : Int) → T.at 72 = .int .i64 (i : Int) →
    ∃ T', run J okAll (.loop L7_0) T (H.set mb (rowT ((m.take i).map (mvT K) ++ m.drop i))) = some (.exit 0, T', H.set mb (rowT (m.map (mvT K)))) ∧ T'.at 5 = v5 ∧ T'.at 8 = .slice (some ⟨mb, 0, none⟩) m.length c ∧ T'.at 11 = v11 ∧ T'.at 12 = v12 := by
  intro n
  induction n with
  | zero =>
    intro i T hn hi t0 t5 t8 t11 t12 t71 t72
    have hiN : i = m.length := by omega
    subst hiN
    rw [List.drop_length, List.append_nil, List.take_length, r_loop]
    simp [L7_0, t0, t5, t8, t11, t12, t71, t72]
  | succ n ih =>
    intro i T hn hi t0 t5 t8 t11 t12 t71 t72
    have hlt : i < m.length := by omega
    have w1 : IntKind.i64.wrap ((i : Int) + 1) = (i : Int) + 1 := wrap64 _ (by omega) (by omega)
    have hd : m.drop i = m[i] :: m.drop (i + 1) := List.drop_eq_getElem_cons hlt
    have htk : m.take (i + 1) = m.take i ++ [m[i]] := by rw [List.take_succ_eq_append_getElem hlt]
    have ht1 := hat m[i] (List.getElem_mem hlt)
    have hpl : ((m.take i).map (mvT K)).length = i := by rw [List.length_map, List.length_take]; omega
    have hmv := row_move ((m.take i).map (mvT K)) (m.drop (i + 1)) m[i] K
    obtain ⟨hcell, hle⟩ := row_cell ((m.take i).map (mvT K)) (m.drop (i + 1)) m[i]
    rw [hpl] at hmv hcell hle
    have hov : Blk.cells (overlay (((m.take i).map (mvT K) ++ m[i] :: m.drop (i + 1)).map tkC).flatten (i * 4 + 1) [.int .i64 ((m[i].1 : Int) + (K : Int))]) 31 false = rowT ((m.take (i + 1)).map (mvT K) ++ m.drop (i + 1)) := by
      have he : (m.take (i + 1)).map (mvT K) ++ m.drop (i + 1) = (m.take i).map (mvT K) ++ mvT K m[i] :: m.drop (i + 1) := by rw [htk, List.map_append, List.append_assoc]; rfl
      rw [hmv, he]; rfl
    have hgg : (H.set mb (rowT ((m.take i).map (mvT K) ++ m.drop i))).get mb = some (.cells (((m.take i).map (mvT K) ++ m[i] :: m.drop (i + 1)).map tkC).flatten 31 false) := by rw [IH.get_set_same, hd]; rfl
    generalize m[i] = t at *
    generalize (((m.take i).map (mvT K) ++ t :: m.drop (i + 1)).map tkC).flatten = row at *
    have w2 : IntKind.i64.wrap ((A.size : Int) + 1) = (K : Int) := by rw [wrap64 _ (by omega) (by omega)]; omega
    have w3 : IntKind.i64.wrap ((t.1 : Int) + (K : Int)) = (t.1 : Int) + (K : Int) := wrap64 _ (by omega) (by omega)
    have : ∃ T1, run J okAll (.loop L7_0) T (H.set mb (rowT ((m.take i).map (mvT K) ++ m.drop i))) = run J okAll (.loop L7_0) T1 (H.set mb (rowT ((m.take (i + 1)).map (mvT K) ++ m.drop (i + 1)))) ∧ T1.at 0 = .string A ∧ T1.at 5 = v5 ∧ T1.at 8 = .slice (some ⟨mb, 0, none⟩) m.length c ∧ T1.at 11 = v11 ∧ T1.at 12 = v12 ∧ T1.at 71 = .int .i64 (m.length : Int) ∧ T1.at 72 = .int .i64 ((i : Int) + 1) := by
      rw [← hov]
      generalize rowT ((m.take i).map (mvT K) ++ m.drop i) = X0 at hgg ⊢
      rw [r_loop]
      simp [L7_0, t0, t5, t8, t11, t12, t71, t72, hlt, w1, w2, w3, iindexAddr, hgg, hle, hcell, istore, Value.cells, plain1]
      exact ⟨_, rfl, by simp [t0], by simp [t5], by simp [t8], by simp [t11], by simp [t12], by simp [t71], by simp⟩
    obtain ⟨T1, e0, f0, f5, f8, f11, f12, f71, f72⟩ := this
    rw [e0]
    exact ih (i + 1) T1 (by omega) (by omega) f0 f5 f8 f11 f12 f71 (by rw [f72]; simp)
end Go.Proofs.YtjbcjcibnjbpcaaDoor.Idl
namespace Go.Proofs.YtjbcjcibnjbpcaaDoor.Idl
open Go
set_option maxHeartbeats 32000000
set_option maxRecDepth 100000
set_option linter.unusedSimpArgs false
theorem chain_at (s : ByteArray) : ∀ (r : List (Nat × Tk)) (p : Nat), Chain s p r → ∀ t ∈ r, t.1 < s.size := by
  intro r
  induction r with
  | nil => intro p _ t ht; simp at ht
  | cons x r ih =>
    intro p h t ht
    obtain ⟨g1, g2, g3, g4, g5⟩ := h
    rcases List.mem_cons.1 ht with rfl | ht
    · exact g2
    · exact ih _ g5 t ht
theorem tks_conv {H : IH} {v : Value} {l l' : List (Nat × Tk)} {lo : Nat} (h : TksAt H v l lo) (e : l.map tkC = l'.map tkC) : TksAt H v l' lo := by
  unfold TksAt at h ⊢
  rw [← e]; exact h
theorem map_sh (k : Nat) (m : List (Nat × Tk)) : (m.map (mvT k)).map tkC = (m.map (shK k)).map tkC := by
  rw [List.map_map, List.map_map]
  exact List.map_congr_left (fun t _ => rfl)
theorem str_add (a b : ByteArray) (h : a.size + b.size ≤ 9223372036854775807) (x y : Operand) (H : IH) : binR J .add 9 x y (.string a) (.string b) H = some (.val (.string (a ++ b)) H) := bin_sadd J H 9 x y a b (eq_false (by omega))
theorem lexF_pos (s : ByteArray) : ∀ (f p : Nat) (acc : List (Nat × Tk)) (e : Int) (a : Nat), p ≤ s.size → lexF s f p acc = .err e a → a ≤ s.size := by
  intro f
  induction f with
  | zero => intro p acc e a h1 h; simp only [lexF] at h; cases h; omega
  | succ f ih =>
    intro p acc e a h1 h
    have hge := skipL_ge s (s.size + 1) p
    have hle := skipL_le s (s.size + 1) p h1
    simp only [lexF] at h
    split at h
    · cases h; omega
    · split at h
      · cases h
      · split at h
        · cases h; exact hle
        · rename_i hok
          split at h
          · cases h; exact hle
          · have hok' : (tokF s (skipL s (s.size + 1) p).1).ok = true := by simpa using hok
            have hte := tokF_end s _ (by omega) hok'
            exact ih _ _ e a hte.2 h
theorem lexR_pos (s : ByteArray) (e : Int) (a : Nat) (h : lexR s = .err e a) : a ≤ s.size := by
  unfold lexR at h
  split at h
  · cases h; omega
  · exact lexF_pos s _ 0 [] e a (by omega) h
theorem c7 (H : IH) (hG : Glob H) (a b : ByteArray) : ∃ H', Fr H.next H H' ∧ cal J okAll 7 #[.string a, .string b] H = some (.ret (.bool true), H') := by
  have h9 := hG.2.2
  have ka := c12 H a
  have kb := c12 H b
  have hsa := cutF_size a
  have hsb := cutF_size b
  obtain ⟨A, hA, hAs, hAl⟩ : ∃ A : ByteArray, (∃ n : Nat, min ((cutF a).size : Int) 1500 = (n : Int) ∧ n ≤ (cutF a).size ∧ A = (cutF a).extract 0 n) ∧ A.size ≤ 1500 ∧ True := by
    refine ⟨(cutF a).extract 0 (min (cutF a).size 1500), ⟨min (cutF a).size 1500, by omega, by omega, rfl⟩, by simp; omega, trivial⟩
  obtain ⟨B, hB, hBs, hBl⟩ : ∃ B : ByteArray, (∃ n : Nat, min ((cutF b).size : Int) 1500 = (n : Int) ∧ n ≤ (cutF b).size ∧ B = (cutF b).extract 0 n) ∧ B.size ≤ 1500 ∧ True := by
    refine ⟨(cutF b).extract 0 (min (cutF b).size 1500), ⟨min (cutF b).size 1500, by omega, by omega, rfl⟩, by simp; omega, trivial⟩
  obtain ⟨na, a1, a2, a3⟩ := hA
  obtain ⟨nb, b1, b2, b3⟩ := hB
  have sla := sliceS_some (cutF a) 0 na (by omega) a2
  have slb := sliceS_some (cutF b) 0 nb (by omega) b2
  rw [← a3] at sla
  rw [← b3] at slb
  generalize cutF a = a0 at *
  generalize cutF b = b0 at *
  obtain ⟨H1, v1, f1, e1, hv1⟩ := c13 H A hG (by omega)
  have hG1 := hG.mono h9 f1
  obtain ⟨H2, v2, f2, e2, hv2⟩ := c13 H1 B hG1 (by omega)
  have f12 : Fr H.next H H2 := f1.trans' f2 f1.1
  have hG2 := hG.mono h9 f12
  rw [cal7 _ _ (by simp)]
  cases hr : lexR A with
  | err e x =>
    have he := lexR_err A e x hr
    have hne : ¬ e = 0 := by omega
    obtain ⟨H4, f4, e4⟩ := c16 H2 hG2
    refine ⟨H4, f12.trans' f4 f12.1, ?_⟩
    rw [hr] at e1
    simp only [LR.errno, LR.pos] at e1
    simp [C7, R7, regsOf, fin, iresult1, ka, kb, a1, b1, sla, slb, bound_int, e1, e2, hne, e4, isEff, oblig, veq]
  | ok l =>
    have hj := lex_join A B hAs hBs l hr
    have h1 : (ByteArray.mk #[32]).size = 1 := rfl
    have s1 := str_add A ⟨#[32]⟩ (by omega)
    have s2 := str_add (A ++ ⟨#[32]⟩) B (by rw [ByteArray.size_append]; omega)
    have husz : (A ++ ⟨#[32]⟩ ++ B).size < 2 ^ 39 := by rw [ByteArray.size_append, ByteArray.size_append]; omega
    obtain ⟨H3, v3, f3, e3, hv3⟩ := c13 H2 (A ++ ⟨#[32]⟩ ++ B) hG2 husz
    have f13 : Fr H.next H H3 := f12.trans' f3 f12.1
    have hG3 := hG.mono h9 f13
    rw [hr] at e1 hv1
    simp only [LR.errno, LR.pos, LR.toks] at e1 hv1
    have wl : IntKind.i64.wrap ((A.size : Int) + 1) = (A.size : Int) + 1 := wrap64 _ (by omega) (by omega)
    cases hrb : lexR B with
    | err e x =>
      have he := lexR_err B e x hrb
      have hne : ¬ e = 0 := by omega
      have hx := lexR_pos B e x hrb
      have hu := hj.1 e x hrb
      rw [hu] at e3
      rw [hrb] at e2
      simp only [LR.errno, LR.pos] at e2 e3
      have hx3 : ((x + (A.size + 1) : Nat) : Int) = (A.size : Int) + 1 + x := by push_cast; omega
      rw [hx3] at e3
      have wx : IntKind.i64.wrap ((A.size : Int) + 1 + x) = (A.size : Int) + 1 + x := wrap64 _ (by omega) (by omega)
      obtain ⟨H4, f4, e4⟩ := c16 H3 hG3
      refine ⟨H4, f13.trans' f4 f13.1, ?_⟩
      simp [C7, R7, regsOf, fin, iresult1, ka, kb, a1, b1, sla, slb, bound_int, e1, e2, s1, s2, e3, hne, wl, wx, e4, isEff, oblig, veq]
    | ok m =>
      have hu := hj.2 m hrb
      rw [hu] at e3 hv3
      rw [hrb] at e2 hv2
      simp only [LR.errno, LR.pos, LR.toks] at e2 e3 hv2 hv3
      have hll := chain_len A l 0 (lexR_chain A l hr) (by omega)
      have hml := chain_len B m 0 (lexR_chain B m hrb) (by omega)
      have hat := chain_at B m 0 (lexR_chain B m hrb)
      have hv1' : TksAt H3 v1 l H.next := hv1.mono (Nat.le_trans f2.1 f3.1) (fun x _ hx2 => by rw [f3.2 x (by have := f2.1; omega), f2.2 x hx2])
      have hv2' : TksAt H3 v2 m H1.next := hv2.mono f3.1 (fun x _ hx2 => f3.2 x hx2)
      have hv3' : TksAt H3 v3 (l ++ m.map (shK (A.size + 1))) H2.next := hv3
      -- the loop
      have hloop : ∃ H4, H3.next ≤ H4.next ∧ Fr H.next H H4 ∧ TksAt H4 v1 l H.next ∧ TksAt H4 v2 (m.map (mvT (A.size + 1))) H.next ∧ TksAt H4 v3 (l ++ m.map (shK (A.size + 1))) H.next ∧ (∀ x, Own v1 x → x < H1.next) ∧ (∀ x, Own v3 x → H2.next ≤ x) ∧
          ∀ T1 : Regs, T1.at 0 = .string A → T1.at 5 = v1 → T1.at 8 = v2 → T1.at 11 = v3 → T1.at 12 = .int .i64 0 → T1.at 71 = .int .i64 (m.length : Int) → T1.at 72 = .int .i64 ((0 : Nat) : Int) →
            ∃ T', run J okAll (.loop L7_0) T1 H3 = some (.exit 0, T', H4) ∧ T'.at 5 = v1 ∧ T'.at 8 = v2 ∧ T'.at 11 = v3 ∧ T'.at 12 = .int .i64 0 := by
        have own1 : ∀ x, Own v1 x → x < H1.next := fun x ⟨n, k, e⟩ => by
          rcases hv1.2 with ⟨h, _⟩ | ⟨b, _, h1, h2, _⟩
          · rw [h] at e; cases e
          · rw [h2] at e; simp only [Value.slice.injEq, Option.some.injEq, Addr.mk.injEq] at e; omega
        have own3 : ∀ x, Own v3 x → H2.next ≤ x := fun x ⟨n, k, e⟩ => by
          rcases hv3.2 with ⟨h, _⟩ | ⟨b, h0, _, h2, _⟩
          · rw [h] at e; cases e
          · rw [h2] at e; simp only [Value.slice.injEq, Option.some.injEq, Addr.mk.injEq] at e; omega
        by_cases hm : m = []
        · subst hm
          refine ⟨H3, Nat.le_refl _, f13, hv1', hv2'.low f1.1, hv3'.low f12.1, own1, own3, fun T1 t0 t5 t8 t11 t12 t71 t72 => ?_⟩
          rw [r_loop]
          simp [L7_0, t0, t5, t8, t11, t12, t71, t72]
        · obtain ⟨mb, m0, m1, rfl, m2⟩ := hv2.row hm
          have hset : H3.set mb (rowT m) = H3 := IH.set_same _ _ _ (by rw [f3.2 mb m1]; exact m2)
          have key := fun T => loop7 H3 mb capU (A.size + 1) A rfl (by omega) m (by omega) (fun t ht => by have := hat t ht; omega) v1 v3 (.int .i64 0) _ 0 T rfl (by omega)
          simp only [List.take_zero, List.map_nil, List.nil_append, List.drop_zero] at key
          rw [hset] at key
          have hn1 := f1.1
          have hn2 := f2.1
          have hn3 := f3.1
          refine ⟨H3.set mb (rowT (m.map (mvT (A.size + 1)))), by simp, f13.set (by omega) _, ?_, ?_, ?_, own1, own3, fun T1 t0 t5 t8 t11 t12 t71 t72 => ?_⟩
          · refine ⟨hv1'.1, ?_⟩
            rcases hv1.2 with h | ⟨lb, q0, q1, q2, q3⟩
            · exact .inl h
            · exact .inr ⟨lb, q0, by simp; omega, q2, by rw [IH.get_set_other _ _ _ _ (by omega), f3.2 lb (by omega), f2.2 lb q1]; exact q3⟩
          · have := TksAt.mk (H3.set mb (rowT (m.map (mvT (A.size + 1))))) mb H.next (m.map (mvT (A.size + 1))) (by omega) (by simp; omega) (IH.get_set_same _ _ _)
            rw [List.length_map] at this
            exact this
          · refine ⟨hv3'.1, ?_⟩
            rcases hv3.2 with h | ⟨lb, q0, q1, q2, q3⟩
            · exact .inl h
            · exact .inr ⟨lb, by omega, by simpa using q1, q2, by rw [IH.get_set_other _ _ _ _ (by omega)]; exact q3⟩
          · obtain ⟨T', r1, r2, r3, r4, r5⟩ := key T1 t0 t5 t8 t11 t12 t71 t72
            exact ⟨T', r1, r2, r3, r4, r5⟩
      obtain ⟨H4, hn4, f4, x1, x2, x3, own1, own3, hrun⟩ := hloop
      have hH4 : H.next ≤ H4.next := f4.1
      obtain ⟨va, H5, ea, x4, hn5, f5⟩ := appT H4 v1 v2 l (m.map (mvT (A.size + 1))) H.next hH4 x1 x2 (by rw [List.length_map]; omega)
      have hno : ∀ x, x < H.next → ¬ Own v1 x := fun x hx ⟨n, k, e⟩ => by
        rcases hv1.2 with ⟨h, _⟩ | ⟨b, h0, h1, h2, _⟩
        · rw [h] at e; cases e
        · rw [h2] at e; simp only [Value.slice.injEq, Option.some.injEq, Addr.mk.injEq] at e; omega
      have fr5 : Fr H.next H H5 := ⟨Nat.le_trans hH4 hn5, fun x hx => by rw [f5 x (by omega) (hno x hx)]; exact f4.2 x hx⟩
      have hG5 := hG.mono h9 fr5
      have x3' : TksAt H5 v3 (l ++ m.map (shK (A.size + 1))) H.next := by
        refine ⟨x3.1, ?_⟩
        rcases x3.2 with h | ⟨lb, q0, q1, q2, q3⟩
        · exact .inl h
        · refine .inr ⟨lb, q0, by omega, q2, ?_⟩
          rw [f5 lb q1 (fun ho => by have h1 := own1 lb ho; have h2 := own3 lb ⟨_, _, q2⟩; have := f2.1; omega)]
          exact q3
      have x4' : TksAt H5 va (l ++ m.map (shK (A.size + 1))) H.next := tks_conv x4 (by rw [List.map_append, List.map_append, map_sh])
      have e15 := c15 H5 v3 va _ H.next (by rw [List.length_append, List.length_map]; omega) x3' x4'
      obtain ⟨H6, f6, e6⟩ := c16 H5 hG5
      refine ⟨H6, fr5.trans' f6 fr5.1, ?_⟩
      obtain ⟨ba, cv, hv2s⟩ := hv2.slice
      have hlen : lenV J 23 v2 = some (.int .i64 (m.length : Int)) := by rw [hv2s]; simp [lenV]
      simp [C7, R7, regsOf, fin, iresult1, ka, kb, a1, b1, sla, slb, bound_int, e1, e2, s1, s2, e3, hlen, isEff, oblig, veq]
      generalize hX : run J okAll (.loop L7_0) _ _ = X
      obtain ⟨T1, y1, t0, t5, t8, t11, t12, t71, t72⟩ : ∃ T1, run J okAll (.loop L7_0) T1 H3 = X ∧ T1.at 0 = .string A ∧ T1.at 5 = v1 ∧ T1.at 8 = v2 ∧ T1.at 11 = v3 ∧ T1.at 12 = .int .i64 0 ∧ T1.at 71 = .int .i64 (m.length : Int) ∧ T1.at 72 = .int .i64 ((0 : Nat) : Int) :=
        ⟨_, hX, by simp, by simp, by simp, by simp, by simp, by simp, by simp⟩
      obtain ⟨T', r1, r5, r8, r11, r12⟩ := hrun T1 t0 t5 t8 t11 t12 t71 t72
      rw [← y1, r1]
      simp [r5, r8, r11, r12, ea, e15, e6, fin, iresult1]
end Go.Proofs.YtjbcjcibnjbpcaaDoor.Idl
