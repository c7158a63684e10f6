/- LexPlaces: each token stands where it says, they rise, and no token stands between them: for every text the law answers true: the row, and its card, tied to the program's text. Conditions: none but the row's own (the listed variables hold what the program's text lays). -/
import Derived.Test.YtjbcjcibnjbpcaaDoorP4
import Derived.Test.YtjbcjcibnjbpcaaDoorCards
import Derived.ChangeMaps5
namespace Go.Proofs.YtjbcjcibnjbpcaaDoor.Idl
open Go
set_option maxHeartbeats 8000000
set_option maxRecDepth 100000
set_option linter.unusedSimpArgs false
def deepL (n m : Nat) : List Int := [97, 32] ++ ((List.replicate n opL).flatten ++ ((List.replicate m clL).flatten ++ [99]))
theorem byl_rep (l : List Int) (h : ByL l) (n : Nat) : ByL (List.replicate n l).flatten := by
  induction n with
  | zero => intro x hx; simp at hx
  | succ n ih => rw [List.replicate_succ, List.flatten_cons]; exact h.append ih
theorem byl_op : ByL opL := by intro x hx; simp [opL] at hx; omega
theorem byl_cl : ByL clL := by intro x hx; simp [clL] at hx; omega
theorem byl_deep (n m : Nat) : ByL (deepL n m) :=
  ByL.append (by intro x hx; simp at hx; omega) (ByL.append (byl_rep _ byl_op n) (ByL.append (byl_rep _ byl_cl m) (by intro x hx; simp at hx; omega)))
theorem rep_len (l : List Int) (n : Nat) : ((List.replicate n l).flatten).length = n * l.length := by simp
theorem deep_len (n m : Nat) : (deepL n m).length = 2 + 5 * n + 3 * m + 1 := by
  simp only [deepL, List.length_append, rep_len]
  simp [opL, clL]
  omega
/-- A name of one letter that a byte follows which is none of a name's. -/
theorem tok_one (s : ByteArray) (p : Nat) (a : Int) (l : List Int) (h : At s p (a :: l)) (hl : l = [] ∨ ∃ b r, l = b :: r ∧ letterB b = false) (hd : digitB a = false) (h34 : a ≠ 34) (h39 : a ≠ 39) (hs : smallB a = true)
    (x : ByteArray) (hx : strOf [a] = x) (hk : kindW a (lookW x kwL) = 3) : tokF s p = ⟨3, x, 0, p + 1, true⟩ := by
  have h0 := h.head
  have hsp : span letterB s p = p + 1 := by
    rw [span_step letterB s p h0.1, bt_eq s p h0.1, h0.2, letter_of_small (.inl hs), if_pos rfl]
    rcases hl with rfl | ⟨b, r, rfl, hb⟩
    · exact span_end _ _ _ (by have := h.1; simp at this; omega)
    · have h1 := h.tail.head
      rw [span_step letterB s (p + 1) h1.1, bt_eq s (p + 1) h1.1, h1.2, hb]; rfl
  have hex : s.extract p (p + 1) = x := by rw [ext_one s p h0.1, h0.2]; exact hx
  unfold tokF
  rw [h0.2, hd, hsp, hex, hk, hs]
  simp [h34, h39]
theorem rem_at (t : ByteArray) (n m : Nat) (h : At t 0 ((List.replicate n opL).flatten ++ ((List.replicate m clL).flatten ++ [99]))) (hn : 1 ≤ n) (hm : m ≤ n) : remS t = if m < n then -1 else ((8 * n - 1 : Nat) : Int) := by
  have hsz : t.size = 5 * n + 3 * m + 1 := by
    have := h.1
    simp only [List.length_append, rep_len] at this
    simp [opL, clL] at this
    omega
  have hp : prefixB t ⟨#[40, 42]⟩ = true := by
    obtain ⟨k, rfl⟩ : ∃ k, n = k + 1 := ⟨n - 1, by omega⟩
    rw [List.replicate_succ, List.flatten_cons, List.append_assoc] at h
    have h1 : At t 0 (40 :: 42 :: _) := h
    have e := openB t 0 (by omega)
    rw [suf_zero] at e
    rw [e, h1.head.2, h1.tail.head.2]
    have := h1.tail.head.1
    simp
    omega
  unfold remS
  rw [if_pos hp]
  by_cases hlt : m < n
  · rw [if_pos hlt, remL_fuel t (t.size + 1) (t.size + 1 + 1 + 2 * m + 4 * n) 0 0 (by omega) (by omega)]
    obtain ⟨e1, a1⟩ := rem_opens t _ n (t.size + 1 + 1 + 2 * m) 0 0 h
    obtain ⟨e2, a2⟩ := rem_closes t _ m (t.size + 1 + 1) _ (0 + n) (by omega) a1
    rw [e1, e2, remL_other t _ _ _ 99 _ a2 (by decide) (by decide)]
    exact remL_none t _ _ _ (by have := a2.1; simp at this; omega)
  · obtain ⟨k, rfl⟩ : ∃ k, n = k + 1 := ⟨n - 1, by omega⟩
    have hmk : m = k + 1 := by omega
    subst hmk
    rw [if_neg hlt, remL_fuel t (t.size + 1) (t.size + 1 + 1 + 2 * k + 4 * (k + 1)) 0 0 (by omega) (by omega)]
    obtain ⟨e1, a1⟩ := rem_opens t _ (k + 1) (t.size + 1 + 1 + 2 * k) 0 0 h
    have hrep : (List.replicate (k + 1) clL).flatten ++ [99] = (List.replicate k clL).flatten ++ (42 :: 41 :: 32 :: [99]) := by
      rw [List.replicate_succ', List.flatten_append, List.append_assoc]; rfl
    rw [hrep] at a1
    obtain ⟨e2, a2⟩ := rem_closes t _ k (t.size + 1 + 1) _ (0 + ((k + 1 : Nat) : Int)) (by push_cast; omega) a1
    rw [e1, e2, remL_close t _ _ _ _ a2, if_pos (by push_cast; omega)]
    congr 1
    omega
theorem lex_deep (n m : Nat) (hn : 1 ≤ n) (hm : m ≤ n) (hn3 : n ≤ 300) : lexR (strOf (deepL n m)) = if m < n then .err 10 2 else .ok [(0, ⟨3, ⟨#[97]⟩, 0, 1, true⟩), (8 * n + 2, ⟨3, ⟨#[99]⟩, 0, 8 * n + 3, true⟩)] := by
  have hA := At.start _ (byl_deep n m)
  have hsz : (strOf (deepL n m)).size = 2 + 5 * n + 3 * m + 1 := by rw [strOf_size, deep_len]
  generalize strOf (deepL n m) = s at *
  have h1 : At s 0 (97 :: 32 :: ((List.replicate n opL).flatten ++ ((List.replicate m clL).flatten ++ [99]))) := hA
  have h2 : At s 1 (32 :: ((List.replicate n opL).flatten ++ ((List.replicate m clL).flatten ++ [99]))) := h1.tail
  have h3 : At s 2 ((List.replicate n opL).flatten ++ ((List.replicate m clL).flatten ++ [99])) := h2.tail
  have t0 := tok_one s 0 97 _ h1 (.inr ⟨_, _, rfl, rfl⟩) rfl (by decide) (by decide) rfl ⟨#[97]⟩ (by kernel_rfl) (by kernel_rfl)
  have hAt : At (s.extract 2 s.size) 0 ((List.replicate n opL).flatten ++ ((List.replicate m clL).flatten ++ [99])) := ⟨by have := h3.1; rw [size_suf]; omega, fun j hj => by
    rw [bt_suf s 2 _ (by have := h3.1; omega)]; have := h3.2 j hj; rw [Nat.zero_add]; exact this⟩
  have hr := rem_at _ n m hAt hn hm
  have p0 : prefixB (s.extract 0 s.size) ⟨#[40, 42]⟩ = false := by rw [openB s 0 (by omega), h1.head.2]; simp
  have b2 : bt s 2 = 40 := by
    obtain ⟨k, rfl⟩ : ∃ k, n = k + 1 := ⟨n - 1, by omega⟩
    rw [List.replicate_succ, List.flatten_cons, List.append_assoc] at h3
    have h4 : At s 2 (40 :: _) := h3
    exact h4.head.2
  unfold lexR
  rw [if_neg (by omega)]
  rw [lexF_tok s 0 (by omega) (by rw [h1.head.2]; rfl) ((remS_zero _).2 p0), t0]
  simp only [Bool.true_eq_false, if_false, List.length_nil, List.nil_append]
  rw [if_neg (by decide)]
  obtain ⟨f, hf⟩ : ∃ f, s.size = f + 2 := ⟨s.size - 2, by omega⟩
  rw [lexF_blank s (0 + 1) (by omega) (by rw [show 0 + 1 = 1 from rfl, h2.head.2]; rfl)]
  by_cases hlt : m < n
  · rw [if_pos hlt] at hr ⊢
    rw [hf]
    exact lexF_open s 2 (by omega) (by rw [b2]; rfl) (by rw [hr]; decide) _ _
  · rw [if_neg hlt] at hr ⊢
    have hmn : m = n := by omega
    subst hmn
    rw [show 0 + 1 + 1 = 2 from rfl, lexF_remark s 2 (by omega) (by rw [b2]; rfl) (by rw [hr]; omega), hr]
    obtain ⟨k, rfl⟩ : ∃ k, m = k + 1 := ⟨m - 1, by omega⟩
    have hrep : (List.replicate (k + 1) clL).flatten ++ [99] = ((List.replicate k clL).flatten ++ [42, 41]) ++ (32 :: [99]) := by
      rw [List.replicate_succ', List.flatten_append, List.append_assoc, List.append_assoc]; rfl
    rw [hrep, ← List.append_assoc] at h3
    have h5 := At.drop h3
    have hln : 2 + ((List.replicate (k + 1) opL).flatten ++ ((List.replicate k clL).flatten ++ [42, 41])).length = 8 * (k + 1) + 1 := by
      simp only [List.length_append, rep_len]
      simp [opL, clL]
      omega
    rw [hln] at h5
    have e1 : 2 + ((((8 * (k + 1) - 1 : Nat) : Int)).toNat) = 8 * (k + 1) + 1 := by simp; omega
    rw [e1, lexF_blank s _ h5.head.1 (by rw [h5.head.2]; rfl)]
    have h6 := h5.tail
    have t1 := tok_one s _ 99 [] h6 (.inl rfl) rfl (by decide) (by decide) rfl ⟨#[99]⟩ (by kernel_rfl) (by kernel_rfl)
    have p1 : prefixB (s.extract (8 * (k + 1) + 1 + 1) s.size) ⟨#[40, 42]⟩ = false := by rw [openB s _ (by have := h6.head.1; omega), h6.head.2]; simp
    rw [hf, lexF_tok s _ h6.head.1 (by rw [h6.head.2]; rfl) ((remS_zero _).2 p1), t1]
    simp only [Bool.true_eq_false, if_false]
    rw [if_neg (by decide), lexF_end s _ (by omega) (by omega)]
    rfl
end Go.Proofs.YtjbcjcibnjbpcaaDoor.Idl
namespace Go.Proofs.YtjbcjcibnjbpcaaDoor.Idl
open Go
set_option maxHeartbeats 16000000
set_option maxRecDepth 100000
set_option linter.unusedSimpArgs false
theorem sadd (l m : List Int) (h : l.length + m.length < 2 ^ 40) (x y : Operand) (H : IH) : binR J .add 9 x y (.string (strOf l)) (.string (strOf m)) H = some (.val (.string (strOf (l ++ m))) H) := by
  rw [bin_sadd J H 9 x y _ _ (eq_false (by rw [strOf_size, strOf_size]; omega)), strOf_append]
theorem TksAt.slice {H : IH} {v : Value} {l : List (Nat × Tk)} {lo : Nat} (h : TksAt H v l lo) : ∃ a c, v = .slice a l.length c := by
  rcases h.2 with ⟨h1, h2⟩ | ⟨b, _, _, h1, _⟩
  · rw [List.map_eq_nil_iff] at h2; subst h2; exact ⟨_, _, h1⟩
  · rw [List.length_map] at h1; exact ⟨_, _, h1⟩
theorem TksAt.row {H : IH} {v : Value} {l : List (Nat × Tk)} {lo : Nat} (h : TksAt H v l lo) (hl : l ≠ []) : ∃ b, lo ≤ b ∧ b < H.next ∧ v = .slice (some ⟨b, 0, none⟩) l.length capU ∧ H.get b = some (.cells (l.map tkC).flatten 31 false) := by
  rcases h.2 with ⟨h1, h2⟩ | ⟨b, h0, h1, h2, h3⟩
  · rw [List.map_eq_nil_iff] at h2; exact absurd h2 hl
  · rw [List.length_map] at h2; exact ⟨b, h0, h1, h2, h3⟩
theorem loop10_0 (H : IH) (N : Nat) (hN : N ≤ 300) (v0 v1 : Value) : ∀ (k i : Nat) (l : List Int) (T : Regs), N - i = k → i ≤ N → l.length + 5 * k < 2 ^ 30 →
    T.at 0 = v0 → T.at 1 = v1 → T.at 5 = .string (strOf l) → T.at 15 = .int .i64 (N : Int) → T.at 16 = .int .i64 (i : Int) →
    ∃ T', run J okAll (.loop L10_0) T H = some (.exit 0, T', H) ∧ T'.at 0 = v0 ∧ T'.at 1 = v1 ∧ T'.at 5 = .string (strOf (l ++ (List.replicate k opL).flatten)) := by
  intro k
  induction k with
  | zero =>
    intro i l T hk hi hl t0 t1 t5 t15 t16
    have hlt : ¬ ((i : Int) < N) := by omega
    rw [r_loop]
    simp [L10_0, t0, t1, t5, t15, t16, hlt]
  | succ k ih =>
    intro i l T hk hi hl t0 t1 t5 t15 t16
    have hlt : i < N := by omega
    have w1 : IntKind.i64.wrap ((i : Int) + 1) = (i : Int) + 1 := wrap64 _ (by omega) (by omega)
    have hbl : opL.length = 5 := rfl
    have ha := fun x y => sadd l opL (by omega) x y H
    have hc : (⟨#[40, 42, 32, 98, 32]⟩ : ByteArray) = strOf opL := by kernel_rfl
    rw [← hc] at ha
    have : ∃ T1, run J okAll (.loop L10_0) T H = run J okAll (.loop L10_0) T1 H ∧ T1.at 0 = v0 ∧ T1.at 1 = v1 ∧ T1.at 5 = .string (strOf (l ++ opL)) ∧ T1.at 15 = .int .i64 (N : Int) ∧ T1.at 16 = .int .i64 ((i : Int) + 1) := by
      rw [r_loop]
      simp [L10_0, t0, t1, t5, t15, t16, hlt, w1, ha]
      exact ⟨_, rfl, by simp [t0], by simp [t1], by simp, by simp [t15], by simp⟩
    obtain ⟨T1, e0, f0, f1, f5, f15, f16⟩ := this
    obtain ⟨T', g0, g1, g2, g3⟩ := ih (i + 1) (l ++ opL) T1 (by omega) (by omega) (by rw [List.length_append]; omega) f0 f1 f5 f15 (by rw [f16]; simp)
    refine ⟨T', by rw [e0, g0], g1, g2, ?_⟩
    rw [g3, List.replicate_succ, List.flatten_cons, List.append_assoc]
theorem loop10_1 (H : IH) (N : Nat) (hN : N ≤ 300) (v0 v1 : Value) : ∀ (k i : Nat) (l : List Int) (T : Regs), N - i = k → i ≤ N → l.length + 3 * k < 2 ^ 30 →
    T.at 0 = v0 → T.at 1 = v1 → T.at 5 = .string (strOf l) → T.at 23 = .int .i64 (N : Int) → T.at 24 = .int .i64 (i : Int) →
    ∃ T', run J okAll (.loop L10_1) T H = some (.exit 2, T', H) ∧ T'.at 0 = v0 ∧ T'.at 1 = v1 ∧ T'.at 5 = .string (strOf (l ++ (List.replicate k clL).flatten)) := by
  intro k
  induction k with
  | zero =>
    intro i l T hk hi hl t0 t1 t5 t15 t16
    have hlt : ¬ ((i : Int) < N) := by omega
    rw [r_loop]
    simp [L10_1, t0, t1, t5, t15, t16, hlt]
  | succ k ih =>
    intro i l T hk hi hl t0 t1 t5 t15 t16
    have hlt : i < N := by omega
    have w1 : IntKind.i64.wrap ((i : Int) + 1) = (i : Int) + 1 := wrap64 _ (by omega) (by omega)
    have hbl : clL.length = 3 := rfl
    have ha := fun x y => sadd l clL (by omega) x y H
    have hc : (⟨#[42, 41, 32]⟩ : ByteArray) = strOf clL := by kernel_rfl
    rw [← hc] at ha
    have : ∃ T1, run J okAll (.loop L10_1) T H = run J okAll (.loop L10_1) T1 H ∧ T1.at 0 = v0 ∧ T1.at 1 = v1 ∧ T1.at 5 = .string (strOf (l ++ clL)) ∧ T1.at 23 = .int .i64 (N : Int) ∧ T1.at 24 = .int .i64 ((i : Int) + 1) := by
      rw [r_loop]
      simp [L10_1, t0, t1, t5, t15, t16, hlt, w1, ha]
      exact ⟨_, rfl, by simp [t0], by simp [t1], by simp, by simp [t15], by simp⟩
    obtain ⟨T1, e0, f0, f1, f5, f15, f16⟩ := this
    obtain ⟨T', g0, g1, g2, g3⟩ := ih (i + 1) (l ++ clL) T1 (by omega) (by omega) (by rw [List.length_append]; omega) f0 f1 f5 f15 (by rw [f16]; simp)
    refine ⟨T', by rw [e0, g0], g1, g2, ?_⟩
    rw [g3, List.replicate_succ, List.flatten_cons, List.append_assoc]
theorem c10 (H : IH) (hG : Glob H) (n c : Int) : ∃ H', Fr H.next H H' ∧ cal J okAll 10 #[.int .i64 n, .int .i64 c] H = some (.ret (.bool true), H') := by
  have h9 := hG.2.2
  obtain ⟨N, hN⟩ : ∃ N : Nat, max 1 (min n 300) = (N : Int) := ⟨(max 1 (min n 300)).toNat, by omega⟩
  obtain ⟨C, hC⟩ : ∃ C : Nat, max 0 (min c 300) = (C : Int) := ⟨(max 0 (min c 300)).toNat, by omega⟩
  have hN1 : 1 ≤ N ∧ N ≤ 300 := by omega
  obtain ⟨M, hM⟩ : ∃ M : Nat, min (C : Int) (N : Int) = (M : Int) := ⟨min C N, by omega⟩
  have hMN : M ≤ N ∧ (C < N → M < N) ∧ (¬ C < N → M = N) := by omega
  have hlx := lex_deep N M hN1.1 hMN.1 hN1.2
  have hsz : (strOf (deepL N M)).size < 2 ^ 39 := by rw [strOf_size, deep_len]; omega
  obtain ⟨H1, v1, f1, e1, hv1⟩ := c13 H (strOf (deepL N M)) hG hsz
  have hG1 := hG.mono h9 f1
  obtain ⟨H2, f2, e2⟩ := c16 H1 hG1
  refine ⟨H2, f1.trans' f2 f1.1, ?_⟩
  rw [hlx] at e1 hv1
  have k0 := fun T => loop10_0 H N hN1.2 (.int .i64 (N : Int)) (.int .i64 (C : Int)) N 0 [97, 32] T (by omega) (by omega) (by simp; omega)
  have k1 := fun T => loop10_1 H M (by omega) (.int .i64 (N : Int)) (.int .i64 (C : Int)) M 0 ([97, 32] ++ (List.replicate N opL).flatten) T (by omega) (by omega) (by rw [List.length_append, rep_len]; simp [opL]; omega)
  have ha := fun x y => sadd ([97, 32] ++ (List.replicate N opL).flatten ++ (List.replicate M clL).flatten) [99] (by simp only [List.length_append, rep_len]; simp [opL, clL]; omega) x y H
  have hc99 : (⟨#[99]⟩ : ByteArray) = strOf [99] := by kernel_rfl
  have hc97 : (⟨#[97, 32]⟩ : ByteArray) = strOf [97, 32] := by kernel_rfl
  have hdl : [97, 32] ++ (List.replicate N opL).flatten ++ (List.replicate M clL).flatten ++ [99] = deepL N M := by simp only [deepL, List.append_assoc]
  rw [hdl, ← hc99] at ha
  generalize strOf (deepL N M) = s at *
  rw [cal10 _ _ (by simp)]
  simp [C10, R10, regsOf, fin, iresult1, hN, hC]
  generalize hX : run J okAll (.loop L10_0) _ _ = X
  obtain ⟨T1, x1, a0, a1, a5, a15, a16⟩ : ∃ T1, run J okAll (.loop L10_0) T1 H = X ∧ T1.at 0 = .int .i64 (N : Int) ∧ T1.at 1 = .int .i64 (C : Int) ∧ T1.at 5 = .string (strOf [97, 32]) ∧ T1.at 15 = .int .i64 (N : Int) ∧ T1.at 16 = .int .i64 ((0 : Nat) : Int) :=
    ⟨_, hX, by simp, by simp, by simp [hc97], by simp, by simp⟩
  obtain ⟨T2, r1, b0, b1, b5⟩ := k0 T1 a0 a1 a5 a15 a16
  rw [← x1, r1]
  clear hX
  simp [b0, b1, b5, hM]
  generalize hX : run J okAll (.loop L10_1) _ _ = X
  obtain ⟨T3, x3, a0, a1, a5, a15, a16⟩ : ∃ T3, run J okAll (.loop L10_1) T3 H = X ∧ T3.at 0 = .int .i64 (N : Int) ∧ T3.at 1 = .int .i64 (C : Int) ∧ T3.at 5 = .string (strOf ([97, 32] ++ (List.replicate N opL).flatten)) ∧ T3.at 23 = .int .i64 (M : Int) ∧ T3.at 24 = .int .i64 ((0 : Nat) : Int) :=
    ⟨_, hX, by simp [b0], by simp [b1], by simp [b5], by simp, by simp⟩
  obtain ⟨T4, r3, d0, d1, d5⟩ := k1 T3 a0 a1 a5 a15 a16
  rw [← x3, r3]
  clear hX
  generalize strOf ([97, 32] ++ (List.replicate N opL).flatten ++ (List.replicate M clL).flatten) = s2 at d5 ha
  by_cases hlt : C < N
  · rw [if_pos (hMN.2.1 hlt)] at e1 hv1
    obtain ⟨ba, cv, rfl⟩ := hv1.slice
    simp only [LR.errno, LR.pos, LR.toks, List.length_nil] at e1
    simp [d0, d1, d5, ha, e1, hlt, e2, fin, iresult1]
  · rw [if_neg (by omega)] at e1 hv1
    have hltD : decide ((C : Int) < N) = false := decide_eq_false (by omega)
    obtain ⟨b1, _, l1, rfl, g1⟩ := hv1.row (by simp [LR.toks])
    simp only [LR.errno, LR.pos, LR.toks] at e1 g1
    have xc : cellOf (H1.get b1) 6 = some (.string ⟨#[99]⟩) := by rw [g1]; rfl
    simp [d0, d1, d5, ha, e1, hlt, e2, iindexAddr, xc, fin, iresult1]
end Go.Proofs.YtjbcjcibnjbpcaaDoor.Idl
namespace Go.Proofs.YtjbcjcibnjbpcaaDoor.Idl
open Go
set_option maxHeartbeats 8000000
set_option maxRecDepth 100000
set_option linter.unusedSimpArgs false
theorem signF_byte (s : ByteArray) (p : Nat) (c : Int) (hp : p < s.size) (hc : bt s p = c) : ∀ S : List ByteArray, (∀ x ∈ S, 0 < x.size) → signF s p S = signF s p (S.filter fun x => bt x 0 == c) := by
  intro S
  induction S with
  | nil => intro _; rfl
  | cons x S ih =>
    intro h
    have hi := ih (fun y hy => h y (by simp [hy]))
    by_cases hx : bt x 0 = c
    · have hxb : (bt x 0 == c) = true := by simp [hx]
      rw [List.filter_cons, hxb]
      simp only [if_true, signF]
      rw [hi]
    · have hxb : (bt x 0 == c) = false := by simp [hx]
      have hpf : prefixB (s.extract p s.size) x = false := by
        cases h2 : prefixB (s.extract p s.size) x with
        | false => rfl
        | true =>
          have := prefixB_bt _ _ h2 0 (h x (by simp))
          rw [bt_suf s p 0 (by omega), Nat.add_zero, hc] at this
          exact absurd this.symm hx
      rw [List.filter_cons, hxb]
      simp only [Bool.false_eq_true, if_false, signF, hpf]
      exact hi
/-- The token of a semicolon. -/
theorem tok_semi (s : ByteArray) (p : Nat) (hp : p < s.size) (hb : bt s p = 59) : tokF s p = ⟨6, ⟨#[59]⟩, 0, p + 1, true⟩ := by
  have hf : signsL.filter (fun x => bt x 0 == (59 : Int)) = [⟨#[59]⟩] := by kernel_rfl
  have h1 : prefixB (s.extract p s.size) ⟨#[59]⟩ = true := by
    have := prefixB1 (s.extract p s.size) 59
    rw [size_suf, bt_suf s p 0 (by omega), Nat.add_zero, hb] at this
    rw [this]
    simp
    omega
  have hs : signF s p signsL = some ⟨#[59]⟩ := by
    rw [signF_byte s p 59 hp hb signsL signs_pos, hf]
    simp only [signF, h1, if_true]
  unfold tokF
  rw [hb, hs]
  rfl
def semiL : List Int := [59, 32]
theorem byl_semi : ByL semiL := by intro x hx; simp [semiL] at hx; omega
theorem lex_semi (s : ByteArray) (N : Nat) : ∀ (k j f : Nat) (acc : List (Nat × Tk)), N = j + k → At s (2 * j) ((List.replicate k semiL).flatten) → acc.length = j → j ≤ 4000 → s.size < f + 2 * j →
    (N ≤ 4000 → ∃ l, lexF s f (2 * j) acc = .ok l ∧ l.length = N) ∧ (4000 < N → lexF s f (2 * j) acc = .err 2 8000) := by
  intro k
  induction k with
  | zero =>
    intro j f acc hN hA hl hj hf
    have hsz : s.size = 2 * j := by have := hA.1; simp at this; omega
    obtain ⟨f, rfl⟩ : ∃ g, f = g + 1 := ⟨f - 1, by omega⟩
    rw [lexF_end s _ (by omega) (by omega)]
    exact ⟨fun _ => ⟨acc, rfl, by omega⟩, fun h => by omega⟩
  | succ k ih =>
    intro j f acc hN hA hl hj hf
    rw [List.replicate_succ, List.flatten_cons] at hA
    have h1 : At s (2 * j) (59 :: 32 :: (List.replicate k semiL).flatten) := hA
    have h0 := h1.head
    have h2 := h1.tail.head
    have h3 := h1.tail.tail
    obtain ⟨f, rfl⟩ : ∃ g, f = g + 1 := ⟨f - 1, by omega⟩
    have p0 : prefixB (s.extract (2 * j) s.size) ⟨#[40, 42]⟩ = false := by rw [openB s _ (by omega), h0.2]; simp
    rw [lexF_tok s _ h0.1 (by rw [h0.2]; rfl) ((remS_zero _).2 p0), tok_semi s _ h0.1 h0.2]
    simp only [Bool.true_eq_false, if_false]
    by_cases h4 : acc.length = 4000
    · rw [if_pos h4]
      have : j = 4000 := by omega
      subst this
      exact ⟨fun h => by omega, fun _ => rfl⟩
    · rw [if_neg h4, lexF_blank s _ h2.1 (by rw [h2.2]; rfl), show 2 * j + 1 + 1 = 2 * (j + 1) by omega]
      exact ih (j + 1) f _ (by omega) (by rw [show 2 * (j + 1) = 2 * j + 1 + 1 by omega]; exact h3) (by simp; omega) (by omega) (by omega)
theorem lex_blanks (s : ByteArray) : ∀ (k i f : Nat), At s i (List.replicate k 32) → s.size < f + i → lexF s f i [] = .ok [] := by
  intro k
  induction k with
  | zero =>
    intro i f hA hf
    have hsz : s.size = i := by have := hA.1; simp at this; omega
    obtain ⟨f, rfl⟩ : ∃ g, f = g + 1 := ⟨f - 1, by omega⟩
    rw [lexF_end s _ (by omega) (by omega)]
  | succ k ih =>
    intro i f hA hf
    rw [List.replicate_succ] at hA
    rw [lexF_blank s i hA.head.1 (by rw [hA.head.2]; rfl)]
    exact ih (i + 1) f hA.tail (by omega)
theorem byl_32 (n : Nat) : ByL (List.replicate n 32) := fun x hx => by have := List.eq_of_mem_replicate hx; omega
theorem lexR_blanks (n : Nat) : lexR (strOf (List.replicate n 32)) = if 16384 < n then .err 2 0 else .ok [] := by
  have hA := At.start _ (byl_32 n)
  have hsz : (strOf (List.replicate n 32)).size = n := by rw [strOf_size]; simp
  unfold lexR
  rw [hsz]
  by_cases h : 16384 < n
  · rw [if_pos h, if_pos h]
  · rw [if_neg h, if_neg h]
    exact lex_blanks _ n 0 _ hA (by rw [hsz]; omega)
theorem lexR_semi (n : Nat) (hn : n ≤ 5000) : (n ≤ 4000 → ∃ l, lexR (strOf (List.replicate n semiL).flatten) = .ok l ∧ l.length = n) ∧ (4000 < n → lexR (strOf (List.replicate n semiL).flatten) = .err 2 8000) := by
  have hA := At.start _ (byl_rep semiL byl_semi n)
  have hsz : (strOf (List.replicate n semiL).flatten).size = 2 * n := by rw [strOf_size, rep_len]; simp [semiL]; omega
  unfold lexR
  rw [if_neg (by omega)]
  exact lex_semi _ n n 0 _ [] (by omega) hA rfl (by omega) (by omega)
/-- The bytes of the law's second text, one after the other. -/
def patI (j : Nat) : Int := if j % 2 = 0 then 59 else 32
theorem pat_eq (n : Nat) : (List.range (2 * n)).map patI = (List.replicate n semiL).flatten := by
  induction n with
  | zero => rfl
  | succ n ih =>
    rw [show 2 * (n + 1) = 2 * n + 1 + 1 by omega, List.range_succ, List.range_succ, List.map_append, List.map_append, ih, List.replicate_succ', List.flatten_append]
    have e0 : patI (2 * n) = 59 := if_pos (by omega)
    have e1 : patI (2 * n + 1) = 32 := if_neg (by omega)
    simp [e0, e1, semiL]
end Go.Proofs.YtjbcjcibnjbpcaaDoor.Idl
namespace Go.Proofs.YtjbcjcibnjbpcaaDoor.Idl
open Go
set_option maxHeartbeats 16000000
set_option maxRecDepth 100000
set_option linter.unusedSimpArgs false
def rowB (l : List Int) : Blk := .cells (l.map (Value.int .u8)) 5 false
theorem bytesCells_strOf (l : List Int) (h : ByL l) : bytesCells (strOf l) = l.map (Value.int .u8) := by
  unfold bytesCells
  simp only [strOf, List.map_map]
  apply List.map_congr_left
  intro x hx
  have := h x hx
  have e : (UInt8.ofNat x.toNat).toNat = x.toNat := by rw [UInt8.toNat_ofNat']; omega
  simp only [Function.comp, e]
  congr 1
  omega
theorem conv_row (H : IH) (b cap : Nat) (l : List Int) (pr : Bool) (h : H.get b = some (.cells (l.map (Value.int .u8)) 5 pr)) : iconvert J 40 9 (.slice (some ⟨b, 0, none⟩) l.length cap) H = some (.string (strOf l), H) := by
  simp [iconvert, h, take_map, bytesOf_ints, strOf]
theorem rowB_store (done rest : List Int) (x c : Int) : overlay ((done ++ x :: rest).map (Value.int .u8)) done.length [.int .u8 c] = (done ++ c :: rest).map (Value.int .u8) := by
  unfold overlay
  have e1 : (done.map (Value.int IntKind.u8)).length = done.length := by simp
  rw [List.map_append, List.take_append_of_le_length (by simp), List.take_of_length_le (by simp), ← e1]
  rw [show (done.map (Value.int IntKind.u8)).length + [Value.int IntKind.u8 c].length = (done.map (Value.int IntKind.u8)).length + 1 from rfl, ← List.drop_drop, List.drop_left]
  simp
theorem loop11_0 (H : IH) (g c N : Nat) (hN : N ≤ 20000) (v0 : Value) : ∀ (k i : Nat) (T : Regs), i + k = N →
    T.at 0 = v0 → T.at 6 = .slice (some ⟨g, 0, none⟩) N c → T.at 26 = .int .i64 (N : Int) → T.at 27 = .int .i64 (i : Int) →
    ∃ T', run J okAll (.loop L11_0) T (H.set g (rowB (List.replicate i (32 : Int) ++ List.replicate k 0))) = some (.exit 0, T', H.set g (rowB (List.replicate N (32 : Int)))) ∧ T'.at 0 = v0 ∧ T'.at 6 = .slice (some ⟨g, 0, none⟩) N c := by
  intro k
  induction k with
  | zero =>
    intro i T hk t0 t6 t26 t27
    have hiN : i = N := by omega
    subst hiN
    rw [List.replicate_zero, List.append_nil, r_loop]
    simp [L11_0, t0, t6, t26, t27]
  | succ k ih =>
    intro i T hk t0 t6 t26 t27
    have hlt : i < N := by omega
    have w1 : IntKind.i64.wrap ((i : Int) + 1) = (i : Int) + 1 := wrap64 _ (by omega) (by omega)
    have hdl : (List.replicate i (32 : Int)).length = i := by simp
    have hgg : (H.set g (rowB (List.replicate i (32 : Int) ++ List.replicate (k + 1) 0))).get g = some (.cells ((List.replicate i (32 : Int) ++ (0 : Int) :: List.replicate k (0 : Int)).map (Value.int .u8)) 5 false) := by rw [IH.get_set_same]; rfl
    have hst := rowB_store (List.replicate i (32 : Int)) (List.replicate k 0) 0 (32)
    rw [hdl] at hst
    have hov : Blk.cells (overlay ((List.replicate i (32 : Int) ++ (0 : Int) :: List.replicate k (0 : Int)).map (Value.int .u8)) i [.int .u8 (32)]) 5 false = rowB (List.replicate (i + 1) (32 : Int) ++ List.replicate k 0) := by
      rw [hst, List.replicate_succ', List.append_assoc]; rfl
    have hln : ((List.replicate i (32 : Int) ++ (0 : Int) :: List.replicate k (0 : Int)).map (Value.int IntKind.u8)).length = N := by simp; omega
    generalize ((List.replicate i (32 : Int) ++ (0 : Int) :: List.replicate k (0 : Int)).map (Value.int IntKind.u8)) = row at *
    have hle : i + 1 ≤ row.length := by omega
    have : ∃ T1, run J okAll (.loop L11_0) T (H.set g (rowB (List.replicate i (32 : Int) ++ List.replicate (k + 1) 0))) = run J okAll (.loop L11_0) T1 (H.set g (rowB (List.replicate (i + 1) (32 : Int) ++ List.replicate k 0))) ∧ T1.at 0 = v0 ∧ T1.at 6 = .slice (some ⟨g, 0, none⟩) N c ∧ T1.at 26 = .int .i64 (N : Int) ∧ T1.at 27 = .int .i64 ((i : Int) + 1) := by
      rw [← hov]
      generalize rowB (List.replicate i (32 : Int) ++ List.replicate (k + 1) 0) = X0 at hgg ⊢
      rw [r_loop]
      simp [L11_0, t0, t6, t26, t27, hlt, w1, iindexAddr, hgg, hle, istore, Value.cells, plain1]
      exact ⟨_, rfl, by simp [t0], by simp [t6], by simp [t26], by simp⟩
    obtain ⟨T1, e0, f0, f6, f26, f27⟩ := this
    rw [e0]
    exact ih (i + 1) T1 (by omega) f0 f6 f26 (by rw [f27]; simp)
theorem loop11_1 (H : IH) (g c N : Nat) (hN : N ≤ 20000) (v0 : Value) : ∀ (k i : Nat) (T : Regs), i + k = N →
    T.at 0 = v0 → T.at 11 = .slice (some ⟨g, 0, none⟩) N c → T.at 67 = .int .i64 (N : Int) → T.at 68 = .int .i64 (i : Int) →
    ∃ T', run J okAll (.loop L11_1) T (H.set g (rowB ((List.range i).map patI ++ List.replicate k 0))) = some (.exit 2, T', H.set g (rowB ((List.range N).map patI))) ∧ T'.at 0 = v0 ∧ T'.at 11 = .slice (some ⟨g, 0, none⟩) N c := by
  intro k
  induction k with
  | zero =>
    intro i T hk t0 t11 t67 t68
    have hiN : i = N := by omega
    subst hiN
    rw [List.replicate_zero, List.append_nil, r_loop]
    simp [L11_1, t0, t11, t67, t68]
  | succ k ih =>
    intro i T hk t0 t11 t67 t68
    have hlt : i < N := by omega
    have w1 : IntKind.i64.wrap ((i : Int) + 1) = (i : Int) + 1 := wrap64 _ (by omega) (by omega)
    have hdl : ((List.range i).map patI).length = i := by simp
    have hgg : (H.set g (rowB ((List.range i).map patI ++ List.replicate (k + 1) 0))).get g = some (.cells (((List.range i).map patI ++ (0 : Int) :: List.replicate k (0 : Int)).map (Value.int .u8)) 5 false) := by rw [IH.get_set_same]; rfl
    have hrs : (List.range (i + 1)).map patI = (List.range i).map patI ++ [patI i] := by rw [List.range_succ, List.map_append]; rfl
    have hrem : (i : Int).tmod 2 = (i : Int) % 2 := Int.tmod_eq_emod_of_nonneg (by omega)
    have hpx : idxS ⟨#[59, 32]⟩ ((i : Int) % 2) = some (.int .u8 (patI i)) := by
      unfold patI
      rcases (by omega : i % 2 = 0 ∨ i % 2 = 1) with h | h
      · rw [show (i : Int) % 2 = 0 by omega, h]; rfl
      · rw [show (i : Int) % 2 = 1 by omega, h]; rfl
    have hst := rowB_store ((List.range i).map patI) (List.replicate k 0) 0 (patI i)
    rw [hdl] at hst
    have hov : Blk.cells (overlay (((List.range i).map patI ++ (0 : Int) :: List.replicate k (0 : Int)).map (Value.int .u8)) i [.int .u8 (patI i)]) 5 false = rowB ((List.range (i + 1)).map patI ++ List.replicate k 0) := by
      rw [hst, hrs, List.append_assoc]; rfl
    have hln : (((List.range i).map patI ++ (0 : Int) :: List.replicate k (0 : Int)).map (Value.int IntKind.u8)).length = N := by simp; omega
    generalize (((List.range i).map patI ++ (0 : Int) :: List.replicate k (0 : Int)).map (Value.int IntKind.u8)) = row at *
    have hle : i + 1 ≤ row.length := by omega
    have : ∃ T1, run J okAll (.loop L11_1) T (H.set g (rowB ((List.range i).map patI ++ List.replicate (k + 1) 0))) = run J okAll (.loop L11_1) T1 (H.set g (rowB ((List.range (i + 1)).map patI ++ List.replicate k 0))) ∧ T1.at 0 = v0 ∧ T1.at 11 = .slice (some ⟨g, 0, none⟩) N c ∧ T1.at 67 = .int .i64 (N : Int) ∧ T1.at 68 = .int .i64 ((i : Int) + 1) := by
      rw [← hov]
      generalize rowB ((List.range i).map patI ++ List.replicate (k + 1) 0) = X0 at hgg ⊢
      rw [r_loop]
      simp [L11_1, t0, t11, t67, t68, hlt, w1, iindexAddr, hgg, hle, istore, Value.cells, plain1, hrem, hpx]
      exact ⟨_, rfl, by simp [t0], by simp [t11], by simp [t67], by simp⟩
    obtain ⟨T1, e0, f0, f11, f67, f68⟩ := this
    rw [e0]
    exact ih (i + 1) T1 (by omega) f0 f11 f67 (by rw [f68]; simp)
end Go.Proofs.YtjbcjcibnjbpcaaDoor.Idl
namespace Go.Proofs.YtjbcjcibnjbpcaaDoor.Idl
open Go
set_option maxHeartbeats 16000000
set_option maxRecDepth 100000
set_option linter.unusedSimpArgs false
theorem zeros_row (n : Nat) : Blk.cells (List.replicate n (Value.int .u8 0)) 5 false = rowB (List.replicate n 0) := by
  unfold rowB
  rw [List.map_replicate]
theorem byl_0 (n : Nat) : ByL (List.replicate n 0) := fun x hx => by have := List.eq_of_mem_replicate hx; omega
theorem c11 (H : IH) (hG : Glob H) (n : Int) (wide : Bool) : ∃ H', Fr H.next H H' ∧ cal J okAll 11 #[.int .i64 n, .bool wide] H = some (.ret (.bool true), H') := by
  have h9 := hG.2.2
  obtain ⟨N, hN⟩ : ∃ N : Nat, max 0 (min n 20000) = (N : Int) := ⟨(max 0 (min n 20000)).toNat, by omega⟩
  have hN2 : N ≤ 20000 := by omega
  cases wide with
  | true =>
    have hlx := lexR_blanks N
    have hmk := mk40 H N (by omega)
    rw [zeros_row] at hmk
    have hc1 := conv_row (H.push (rowB (List.replicate N 0))) H.next N (List.replicate N 0) false (IH.get_push_same H _)
    rw [List.length_replicate] at hc1
    have hc2 := iconvert_str (strOf (List.replicate N 0)) (H.push (rowB (List.replicate N 0)))
    rw [strOf_size, List.length_replicate, bytesCells_strOf _ (byl_0 N)] at hc2
    have hrb : Blk.cells ((List.replicate N (0 : Int)).map (Value.int .u8)) 5 false = rowB (List.replicate N 0) := rfl
    rw [hrb] at hc2
    have k0 := fun T => loop11_0 ((H.push (rowB (List.replicate N 0))).push (rowB (List.replicate N 0))) (H.next + 1) capU N hN2 (.int .i64 (N : Int)) N 0 T (by omega)
    simp only [List.replicate_zero, List.nil_append] at k0
    rw [show ((H.push (rowB (List.replicate N 0))).push (rowB (List.replicate N 0))).set (H.next + 1) (rowB (List.replicate N 0)) = (H.push (rowB (List.replicate N 0))).push (rowB (List.replicate N 0)) from push_set (H.push (rowB (List.replicate N 0))) _ _,
      show ((H.push (rowB (List.replicate N 0))).push (rowB (List.replicate N 0))).set (H.next + 1) (rowB (List.replicate N 32)) = (H.push (rowB (List.replicate N 0))).push (rowB (List.replicate N 32)) from push_set (H.push (rowB (List.replicate N 0))) _ _] at k0
    have hc3 := conv_row ((H.push (rowB (List.replicate N 0))).push (rowB (List.replicate N 32))) (H.next + 1) capU (List.replicate N 32) false (IH.get_push_same (H.push (rowB (List.replicate N 0))) _)
    rw [List.length_replicate] at hc3
    have f0 : Fr H.next H ((H.push (rowB (List.replicate N 0))).push (rowB (List.replicate N 32))) := ((Fr.refl _ _).push (Nat.le_refl _) _).push (by simp) _
    generalize hH2 : (H.push (rowB (List.replicate N 0))).push (rowB (List.replicate N 32)) = H2 at *
    have hG2 := hG.mono h9 f0
    have hsz : (strOf (List.replicate N 32)).size < 2 ^ 39 := by rw [strOf_size, List.length_replicate]; omega
    obtain ⟨H3, v3, f3, e3, hv3⟩ := c13 H2 (strOf (List.replicate N 32)) hG2 hsz
    rw [hlx] at e3
    obtain ⟨H4, f4, e4⟩ := c16 H3 (hG2.mono (Nat.le_trans h9 f0.1) f3)
    refine ⟨H4, (f0.trans' f3 f0.1).trans' f4 (Nat.le_trans f0.1 f3.1), ?_⟩
    rw [cal11 _ _ (by simp)]
    simp [C11, R11, regsOf, fin, iresult1, hN, hmk, hc1, hc2]
    generalize hX : run J okAll (.loop L11_0) _ _ = X
    obtain ⟨T1, x1, t0, t6, t26, t27⟩ : ∃ T1, run J okAll (.loop L11_0) T1 ((H.push (rowB (List.replicate N 0))).push (rowB (List.replicate N 0))) = X ∧ T1.at 0 = .int .i64 (N : Int) ∧ T1.at 6 = .slice (some ⟨H.next + 1, 0, none⟩) N capU ∧ T1.at 26 = .int .i64 (N : Int) ∧ T1.at 27 = .int .i64 ((0 : Nat) : Int) :=
      ⟨_, hX, by simp, by simp, by simp, by simp⟩
    obtain ⟨T2, r1, b0, b6⟩ := k0 T1 t0 t6 t26 t27
    rw [← x1, r1]
    by_cases hbig : 16384 < N
    · rw [if_pos hbig] at e3
      have hb2 : ¬ (N : Int) ≤ 16384 := by omega
      simp only [LR.errno, LR.pos] at e3
      simp [b0, b6, hc3, e3, e4, hb2, fin, iresult1]
    · rw [if_neg hbig] at e3
      have hb2 : (N : Int) ≤ 16384 := by omega
      simp only [LR.errno, LR.pos] at e3
      simp [b0, b6, hc3, e3, e4, hb2, fin, iresult1]
  | false =>
    obtain ⟨M, hM⟩ : ∃ M : Nat, min (N : Int) 5000 = (M : Int) := ⟨min N 5000, by omega⟩
    have hM5 : M ≤ 5000 := by omega
    have w2 : IntKind.i64.wrap (2 * (M : Int)) = 2 * (M : Int) := wrap64 _ (by omega) (by omega)
    have hlx := lexR_semi M hM5
    have hmk := mk40 H (2 * M) (by omega)
    rw [zeros_row] at hmk
    push_cast at hmk
    have k0 := fun T => loop11_1 (H.push (rowB (List.replicate (2 * M) 0))) H.next (2 * M) (2 * M) (by omega) (.int .i64 (M : Int)) (2 * M) 0 T (by omega)
    simp only [List.range_zero, List.map_nil, List.nil_append] at k0
    rw [push_set, push_set, pat_eq] at k0
    have hpl : ((List.replicate M semiL).flatten).length = 2 * M := by rw [rep_len]; simp [semiL]; omega
    have hc3 := conv_row (H.push (rowB (List.replicate M semiL).flatten)) H.next (2 * M) (List.replicate M semiL).flatten false (IH.get_push_same H _)
    rw [hpl] at hc3
    have f0 : Fr H.next H (H.push (rowB (List.replicate M semiL).flatten)) := (Fr.refl _ _).push (Nat.le_refl _) _
    generalize hH2 : H.push (rowB (List.replicate M semiL).flatten) = H2 at *
    have hG2 := hG.mono h9 f0
    have hsz : (strOf (List.replicate M semiL).flatten).size < 2 ^ 39 := by rw [strOf_size, hpl]; omega
    obtain ⟨H3, v3, f3, e3, hv3⟩ := c13 H2 (strOf (List.replicate M semiL).flatten) hG2 hsz
    obtain ⟨H4, f4, e4⟩ := c16 H3 (hG2.mono (Nat.le_trans h9 f0.1) f3)
    refine ⟨H4, (f0.trans' f3 f0.1).trans' f4 (Nat.le_trans f0.1 f3.1), ?_⟩
    rw [cal11 _ _ (by simp)]
    simp [C11, R11, regsOf, fin, iresult1, hN, hM, w2, hmk]
    generalize hX : run J okAll (.loop L11_1) _ _ = X
    obtain ⟨T1, x1, t0, t11, t67, t68⟩ : ∃ T1, run J okAll (.loop L11_1) T1 (H.push (rowB (List.replicate (2 * M) 0))) = X ∧ T1.at 0 = .int .i64 (M : Int) ∧ T1.at 11 = .slice (some ⟨H.next, 0, none⟩) (2 * M) (2 * M) ∧ T1.at 67 = .int .i64 ((2 * M : Nat) : Int) ∧ T1.at 68 = .int .i64 ((0 : Nat) : Int) :=
      ⟨_, hX, by simp, by simp, by simp, by simp⟩
    obtain ⟨T2, r1, b0, b11⟩ := k0 T1 t0 t11 t67 t68
    rw [← x1, r1]
    by_cases hbig : 4000 < M
    · have hr := hlx.2 hbig
      rw [hr] at e3 hv3
      obtain ⟨ba, cv, rfl⟩ := hv3.slice
      have hb2 : (4000 : Int) < M := by omega
      simp only [LR.errno, LR.pos, LR.toks, List.length_nil] at e3
      simp [b0, b11, hc3, e3, e4, hb2, hbig, fin, iresult1]
    · obtain ⟨l, hr, hll⟩ := hlx.1 (by omega)
      rw [hr] at e3 hv3
      obtain ⟨ba, cv, rfl⟩ := hv3.slice
      have hb2 : ¬ (4000 : Int) < M := by omega
      simp only [LR.errno, LR.pos, LR.toks, hll] at e3
      simp [b0, b11, hc3, e3, e4, hb2, hbig, fin, iresult1]
end Go.Proofs.YtjbcjcibnjbpcaaDoor.Idl
namespace Go.Proofs.YtjbcjcibnjbpcaaDoor.Idl
open Go
set_option maxHeartbeats 8000000
set_option maxRecDepth 100000
set_option linter.unusedSimpArgs false
/-- n bytes from p on in s are those from q on in t. -/
def Same (s : ByteArray) (p : Nat) (t : ByteArray) (q n : Nat) : Prop := p + n ≤ s.size ∧ q + n ≤ t.size ∧ ∀ j, j < n → bt s (p + j) = bt t (q + j)
theorem Same.sub {s t : ByteArray} {p q n : Nat} (h : Same s p t q n) (k m : Nat) (hk : k + m ≤ n) : Same s (p + k) t (q + k) m :=
  ⟨by have := h.1; omega, by have := h.2.1; omega, fun j hj => by rw [Nat.add_assoc, Nat.add_assoc]; exact h.2.2 (k + j) (by omega)⟩
theorem bt_inj (s t : ByteArray) (i j : Nat) (hi : i < s.size) (hj : j < t.size) (h : bt s i = bt t j) : s[i] = t[j] := by
  have a := bt_eq s i hi
  have b := bt_eq t j hj
  exact UInt8.toNat_inj.1 (by omega)
theorem ext_same {s t : ByteArray} {p q n : Nat} (h : Same s p t q n) : s.extract p (p + n) = t.extract q (q + n) := by
  obtain ⟨h1, h2, h3⟩ := h
  apply ByteArray.ext
  rw [ByteArray.data_extract, ByteArray.data_extract]
  have e1 : s.data.size = s.size := rfl
  have e2 : t.data.size = t.size := rfl
  apply Array.ext
  · simp; omega
  · intro j g1 g2
    have hj : j < n := by simp at g1; omega
    have := bt_inj s t (p + j) (q + j) (by omega) (by omega) (h3 j hj)
    simp only [Array.getElem_extract]
    exact this
theorem prefixB_iff (s x : ByteArray) (p : Nat) (hp : p ≤ s.size) : prefixB (s.extract p s.size) x = true ↔ Same s p x 0 x.size := by
  constructor
  · intro h
    have hle := prefixB_le s x p h hp
    refine ⟨hle, by omega, fun j hj => ?_⟩
    have := prefixB_bt _ _ h j hj
    rw [bt_suf s p j (by omega)] at this
    rw [Nat.zero_add]; exact this
  · intro h
    have e := ext_same h
    rw [Nat.zero_add, suf_zero] at e
    unfold prefixB
    rw [size_suf, ext_ext s p 0 x.size h.1]
    simp only [Nat.add_zero, e, decide_true, Bool.and_true, decide_eq_true_eq]
    have := h.1
    omega
/-- Nothing behind what was read in t goes on with it. -/
def Stops (s : ByteArray) (e : Nat) (t : ByteArray) (f : Nat) : Prop := f = t.size ∨ (f < t.size ∧ (blankB (bt t f) = true ∨ (e < s.size ∧ bt t f = bt s e)))
theorem span_stop (q : Int → Bool) (s : ByteArray) : ∀ (n i : Nat), i + n ≤ s.size → (∀ j, j < n → q (bt s (i + j)) = true) → (i + n = s.size ∨ q (bt s (i + n)) = false) → span q s i = i + n := by
  intro n
  induction n with
  | zero =>
    intro i h1 _ h3
    rw [Nat.add_zero] at h3 ⊢
    by_cases hlt : i < s.size
    · have h3 := h3.resolve_left (by omega)
      rw [span_step q s i hlt, bt_eq s i hlt, h3]; rfl
    · exact span_end _ _ _ (by omega)
  | succ n ih =>
    intro i h1 h2 h3
    have h0 := h2 0 (by omega)
    rw [Nat.add_zero] at h0
    rw [span_step q s i (by omega), bt_eq s i (by omega), h0, if_pos rfl, ih (i + 1) (by omega) (fun j hj => by rw [show i + 1 + j = i + (j + 1) by omega]; exact h2 (j + 1) (by omega)) (by rw [show i + 1 + n = i + (n + 1) by omega]; exact h3)]
    omega
theorem span_not (q : Int → Bool) (s : ByteArray) : ∀ (n i : Nat), s.size - i = n → span q s i < s.size → q (bt s (span q s i)) = false := by
  intro n
  induction n with
  | zero => intro i h1 h2; rw [span_end q s i (by omega)] at h2; omega
  | succ n ih =>
    intro i h1 h2
    rw [span_step q s i (by omega), bt_eq s i (by omega)] at h2 ⊢
    cases hq : q (bt s i) with
    | true => rw [hq, if_pos rfl] at h2; rw [if_pos rfl]; exact ih (i + 1) (by omega) h2
    | false => simpa using hq
theorem span_same (q : Int → Bool) (s t : ByteArray) (i j : Nat) (hq : ∀ c, blankB c = true → q c = false) (hi : i ≤ s.size) (h : Same s i t j (span q s i - i)) (hs : Stops s (span q s i) t (j + (span q s i - i))) : span q t j = j + (span q s i - i) := by
  have hr := span_range q s i hi
  have ha := span_all q s _ i rfl hi
  refine span_stop q t _ j h.2.1 (fun k hk => ?_) ?_
  · rw [← h.2.2 k hk]; exact ha (i + k) (by omega) (by omega)
  · rcases hs with hs | ⟨h1, h2 | ⟨h2, h3⟩⟩
    · exact .inl hs
    · exact .inr (hq _ h2)
    · right; rw [h3]; exact span_not q s _ i rfl h2
theorem blank_digit (c : Int) (h : blankB c = true) : digitB c = false := by
  simp only [blankB, Bool.or_eq_true, decide_eq_true_eq] at h
  rcases h with ((h | h) | h) | h <;> subst h <;> rfl
theorem blank_letter (c : Int) (h : blankB c = true) : letterB c = false := by
  simp only [blankB, Bool.or_eq_true, decide_eq_true_eq] at h
  rcases h with ((h | h) | h) | h <;> subst h <;> rfl
/-! ### Texts -/
theorem escF_same (u v : ByteArray) (h0 : (escF u).2 ≠ 0) (h : Same u 0 v 0 (escF u).2.toNat) : escF v = escF u := by
  have hz := escF_size u
  obtain ⟨h1, h2, h3⟩ := h
  have hb : ∀ j, j < (escF u).2.toNat → bt v j = bt u j := fun j hj => by have := h3 j hj; rw [Nat.zero_add] at this; exact this.symm
  rcases hz with hz | ⟨hz, hs⟩ | ⟨hz, hs⟩
  · exact absurd hz h0
  · rw [hz] at hb h2
    have e0 := hb 0 (by decide)
    have hv : 1 ≤ v.size := by simpa using h2
    have hu : ¬ u.size = 0 := by omega
    have hv0 : ¬ v.size = 0 := by omega
    unfold escF at hz ⊢
    rw [if_neg hu] at hz ⊢
    rw [if_neg hv0, e0]
    by_cases a1 : bt u 0 = 110
    · rw [if_pos a1, if_pos a1]
    · rw [if_neg a1] at hz ⊢; rw [if_neg a1]
      by_cases a2 : bt u 0 = 116
      · rw [if_pos a2, if_pos a2]
      · rw [if_neg a2] at hz ⊢; rw [if_neg a2]
        by_cases a3 : bt u 0 = 92 ∨ bt u 0 = 34
        · rw [if_pos a3, if_pos a3]
        · rw [if_neg a3] at hz
          split at hz <;> simp at hz
  · rw [hz] at hb h2
    have e0 := hb 0 (by decide)
    have e1 := hb 1 (by decide)
    have e2 := hb 2 (by decide)
    have hv : 3 ≤ v.size := by simpa using h2
    have hu : ¬ u.size = 0 := by omega
    have hv0 : ¬ v.size = 0 := by omega
    unfold escF
    rw [if_neg hu, if_neg hv0, e0, e1, e2]
    have hiff : (3 ≤ v.size ∧ digitB (bt u 0) = true ∧ digitB (bt u 1) = true ∧ digitB (bt u 2) = true ∧ 100 * (bt u 0 - 48) + 10 * (bt u 1 - 48) + (bt u 2 - 48) ≤ 255) ↔ (3 ≤ u.size ∧ digitB (bt u 0) = true ∧ digitB (bt u 1) = true ∧ digitB (bt u 2) = true ∧ 100 * (bt u 0 - 48) + 10 * (bt u 1 - 48) + (bt u 2 - 48) ≤ 255) := ⟨fun h => ⟨hs, h.2⟩, fun h => ⟨hv, h.2⟩⟩
    simp only [hiff]
theorem txtF_same (s t : ByteArray) : ∀ (k i k' j : Nat) (l l' : List Int) (e : Nat), txtF s k i l = some (l', e) → Same s i t j (e - i) → t.size < k' + j → txtF t k' j l = some (l', j + (e - i)) := by
  intro k
  induction k with
  | zero => intro i k' j l l' e h; simp [txtF] at h
  | succ k ih =>
    intro i k' j l l' e h hS hk
    have hend := txtF_end s (k + 1) i l _ h
    simp only at hend
    have hS1 := hS.2.1
    obtain ⟨k', rfl⟩ : ∃ m, k' = m + 1 := ⟨k' - 1, by omega⟩
    have hb := hS.2.2 0 (by omega)
    rw [Nat.add_zero, Nat.add_zero] at hb
    simp only [txtF] at h ⊢
    rw [if_pos (show i < s.size by omega)] at h
    rw [if_pos (show j < t.size by omega), ← hb]
    by_cases c1 : bt s i = 34
    · rw [if_pos c1] at h ⊢
      cases h
      rw [show i + 1 - i = 1 by omega]
    · rw [if_neg c1] at h ⊢
      by_cases c2 : bt s i < 32
      · rw [if_pos c2] at h; cases h
      · rw [if_neg c2] at h ⊢
        by_cases c3 : bt s i ≠ 92
        · rw [if_pos c3] at h ⊢
          have he := txtF_end s _ _ _ _ h
          simp only at he
          have := ih (i + 1) k' (j + 1) _ _ _ h (by
            have := hS.sub 1 (e - (i + 1)) (by omega)
            exact this) (by omega)
          rw [this]
          congr 2
          omega
        · rw [if_neg c3] at h ⊢
          by_cases c4 : (escF (s.extract (i + 1) s.size)).2 = 0
          · rw [if_pos c4] at h; cases h
          · rw [if_neg c4] at h
            have he := txtF_end s _ _ _ _ h
            simp only at he
            have hesz := escF_size (s.extract (i + 1) s.size)
            have hee : escF (t.extract (j + 1) t.size) = escF (s.extract (i + 1) s.size) := by
              refine escF_same _ _ c4 ⟨?_, ?_, fun m hm => ?_⟩
              · rw [size_suf]; omega
              · rw [size_suf]; omega
              · have := hS.2.2 (1 + m) (by omega)
                rw [Nat.zero_add, bt_suf s (i + 1) m (by omega), bt_suf t (j + 1) m (by omega)]
                rw [Nat.add_assoc, Nat.add_assoc]; exact this
            rw [hee, if_neg c4]
            generalize hq : (escF (s.extract (i + 1) s.size)).2.toNat = w at *
            have := ih (i + w + 1) k' (j + w + 1) _ _ _ h (by
              have := hS.sub (w + 1) (e - (i + w + 1)) (by omega)
              rw [show i + (w + 1) = i + w + 1 by omega, show j + (w + 1) = j + w + 1 by omega] at this
              exact this) (by omega)
            rw [this]
            congr 2
            omega
end Go.Proofs.YtjbcjcibnjbpcaaDoor.Idl
namespace Go.Proofs.YtjbcjcibnjbpcaaDoor.Idl
open Go
set_option maxHeartbeats 8000000
set_option maxRecDepth 100000
set_option linter.unusedSimpArgs false
theorem signs_shape : ∀ y ∈ signsL, 0 < y.size ∧ y.size ≤ 2 ∧ blankB (bt y 0) = false ∧ blankB (bt y 1) = false := by decide
/-- What begins behind the end cannot be told apart. -/
theorem sign_fwd (s t : ByteArray) (p q n : Nat) (hn : 0 < n) (h : Same s p t q n) (hs : Stops s (p + n) t (q + n)) (y : ByteArray) (hy : y ∈ signsL) (hp : prefixB (t.extract q t.size) y = true) : prefixB (s.extract p s.size) y = true := by
  obtain ⟨y1, y2, y3, y4⟩ := signs_shape y hy
  have hq : q ≤ t.size := by have := h.2.1; omega
  obtain ⟨a1, _, a3⟩ := (prefixB_iff t y q hq).1 hp
  rw [prefixB_iff s y p (by have := h.1; omega)]
  by_cases hle : y.size ≤ n
  · exact ⟨by have := h.1; omega, by omega, fun j hj => by rw [h.2.2 j (by omega)]; exact a3 j hj⟩
  · have hn1 : n = 1 := by omega
    subst hn1
    have b1 := a3 1 (by omega)
    rw [Nat.zero_add] at b1
    rcases hs with hs | ⟨h1, h2 | ⟨h2, h3⟩⟩
    · omega
    · rw [b1] at h2; rw [y4] at h2; cases h2
    · refine ⟨by omega, by omega, fun j hj => ?_⟩
      rcases (by omega : j = 0 ∨ j = 1) with rfl | rfl
      · rw [h.2.2 0 (by omega)]; exact a3 0 hj
      · rw [← h3]; exact a3 1 hj
theorem signF_same (s t : ByteArray) (p q : Nat) (x : ByteArray) (h : Same s p t q x.size) (hx0 : 0 < x.size) (hs : Stops s (p + x.size) t (q + x.size)) : ∀ S : List ByteArray, (∀ y ∈ S, y ∈ signsL) → signF s p S = some x → signF t q S = some x := by
  intro S
  induction S with
  | nil => intro _ h; cases h
  | cons y S ih =>
    intro hS hx
    simp only [signF] at hx ⊢
    by_cases hp : prefixB (s.extract p s.size) y = true
    · rw [if_pos hp] at hx
      cases hx
      have : prefixB (t.extract q t.size) x = true := by
        have hps := (prefixB_iff s x p (by have := h.1; omega)).1 hp
        rw [prefixB_iff t x q (by have := h.2.1; omega)]
        exact ⟨h.2.1, by omega, fun j hj => by rw [← h.2.2 j hj]; exact hps.2.2 j hj⟩
      rw [if_pos this]
    · rw [if_neg hp] at hx
      have : ¬ prefixB (t.extract q t.size) y = true := fun h2 => hp (sign_fwd s t p q x.size hx0 h hs y (hS y (by simp)) h2)
      rw [if_neg this]
      exact ih (fun z hz => hS z (by simp [hz])) hx
theorem tok_same (s t : ByteArray) (p q : Nat) (hp : p < s.size) (hok : (tokF s p).ok = true) (h : Same s p t q ((tokF s p).fin - p)) (hs : Stops s (tokF s p).fin t (q + ((tokF s p).fin - p))) :
    tokF t q = { tokF s p with fin := q + ((tokF s p).fin - p) } := by
  have hend := tokF_end s p hp hok
  have hb : bt t q = bt s p := by have := h.2.2 0 (by omega); rw [Nat.add_zero, Nat.add_zero] at this; exact this.symm
  revert hok h hs hend
  unfold tokF
  rw [hb]
  cases hd : digitB (bt s p) with
  | true =>
    simp only [if_true]
    have r0 := span_range digitB s p (by omega)
    have hfin : ∀ r e, (numT r e).fin = e := fun r e => by
      cases r with
      | none => rfl
      | some r => simp only [numT]; split <;> rfl
    intro hok h hs hend
    rw [hfin] at h hs hend ⊢
    have e1 := span_same digitB s t p q blank_digit (by omega) h hs
    have e2 := ext_same h
    rw [show p + (span digitB s p - p) = span digitB s p by omega] at e2
    rw [e1, ← e2]
    generalize numF (s.extract p (span digitB s p)) ((s.extract p (span digitB s p)).size + 1) 0 0 = r
    cases r with
    | none => rfl
    | some r => simp only [numT]; split <;> rfl
  | false =>
    simp only [Bool.false_eq_true, if_false]
    by_cases h34 : bt s p = 34
    · simp only [if_pos h34]
      intro hok h hs hend
      cases hx : txtF s (s.size + 1) (p + 1) [] with
      | none => rw [hx] at hok; cases hok
      | some r =>
        obtain ⟨l, e⟩ := r
        rw [hx] at h hs hend
        simp only [txtT] at h hs hend ⊢
        have := txtF_same s t (s.size + 1) (p + 1) (t.size + 1) (q + 1) [] l e hx (by
          have := h.sub 1 (e - (p + 1)) (by omega)
          exact this) (by omega)
        rw [this]
        simp only [txtT, Tk.mk.injEq, true_and, and_true]
        omega
    · simp only [if_neg h34]
      by_cases h39 : bt s p = 39
      · simp only [if_pos h39]
        intro hok h hs hend
        have r0 := span_range letterB s (p + 1) (by omega)
        have h1 := h.sub 1 (span letterB s (p + 1) - (p + 1)) (by omega)
        have e1 := span_same letterB s t (p + 1) (q + 1) blank_letter (by omega) h1 (by
          rw [show q + 1 + (span letterB s (p + 1) - (p + 1)) = q + (span letterB s (p + 1) - p) by omega]; exact hs)
        have e2 := ext_same h
        rw [show p + (span letterB s (p + 1) - p) = span letterB s (p + 1) by omega] at e2
        rw [e1, show q + 1 + (span letterB s (p + 1) - (p + 1)) = q + (span letterB s (p + 1) - p) by omega, ← e2]
        simp only [Tk.mk.injEq, true_and]
        rw [decide_eq_decide]
        omega
      · simp only [if_neg h39]
        by_cases hw : (smallB (bt s p) || greatB (bt s p)) = true
        · rw [if_pos hw, if_pos hw]
          intro hok h hs hend
          have r0 := span_range letterB s p (by omega)
          have e1 := span_same letterB s t p q blank_letter (by omega) h hs
          have e2 := ext_same h
          rw [show p + (span letterB s p - p) = span letterB s p by omega] at e2
          rw [e1, ← e2]
        · rw [if_neg hw, if_neg hw]
          intro hok h hs hend
          cases hx : signF s p signsL with
          | none => rw [hx] at hok; cases hok
          | some x =>
            rw [hx] at h hs hend
            simp only [signT] at h hs hend ⊢
            rw [show p + x.size - p = x.size by omega] at h hs ⊢
            have := signF_same s t p q x h (signs_pos x (signF_mem s p _ _ hx).1) hs signsL (fun y hy => hy) hx
            rw [this]
/-! ### Remarks and blanks -/
theorem pre_same (s t : ByteArray) (i j n : Nat) (x : ByteArray) (h : Same s i t j n) (hx : x.size ≤ n) : prefixB (t.extract j t.size) x = prefixB (s.extract i s.size) x := by
  have h1 := h.1
  have h2 := h.2.1
  rw [Bool.eq_iff_iff, prefixB_iff t x j (by omega), prefixB_iff s x i (by omega)]
  exact ⟨fun a => ⟨by omega, by omega, fun k hk => by rw [h.2.2 k (by omega)]; exact a.2.2 k hk⟩, fun a => ⟨by omega, by omega, fun k hk => by rw [← h.2.2 k (by omega)]; exact a.2.2 k hk⟩⟩
theorem rem_two (s : ByteArray) : ∀ (n i : Nat) (d : Int), remL s n d i = -1 ∨ (i : Int) + 2 ≤ remL s n d i := by
  intro n
  induction n with
  | zero => intro i d; left; rfl
  | succ n ih =>
    intro i d
    simp only [remL]
    split
    · split
      · have := ih (i + 2) (d + 1); omega
      · split
        · split
          · right; omega
          · have := ih (i + 2) (d - 1); omega
        · have := ih (i + 1) d; omega
    · left; rfl
theorem rem_same (s t : ByteArray) : ∀ (n i m j : Nat) (d : Int) (e : Nat), remL s n d i = (e : Int) → Same s i t j (e - i) → t.size < m + j → remL t m d j = ((j + (e - i) : Nat) : Int) := by
  intro n
  induction n with
  | zero => intro i m j d e h; simp only [remL] at h; omega
  | succ n ih =>
    intro i m j d e h hS hm
    have h2 := rem_two s (n + 1) i d
    have hS1 := hS.1
    have hS2 := hS.2.1
    obtain ⟨m, rfl⟩ : ∃ k, m = k + 1 := ⟨m - 1, by omega⟩
    have p1 := pre_same s t i j _ ⟨#[40, 42]⟩ hS (by show 2 ≤ e - i; omega)
    have p2 := pre_same s t i j _ ⟨#[42, 41]⟩ hS (by show 2 ≤ e - i; omega)
    rw [h] at h2
    simp only [remL] at h ⊢
    rw [if_pos (by omega : i < s.size)] at h
    rw [if_pos (by omega : j < t.size), p1, p2]
    by_cases c1 : prefixB (s.extract i s.size) ⟨#[40, 42]⟩ = true
    · rw [if_pos c1] at h ⊢
      have hr := rem_two s n (i + 2) (d + 1)
      rw [h] at hr
      rw [ih (i + 2) m (j + 2) (d + 1) e h (hS.sub 2 (e - (i + 2)) (by omega)) (by omega)]
      congr 1; omega
    · rw [if_neg c1] at h ⊢
      by_cases c2 : prefixB (s.extract i s.size) ⟨#[42, 41]⟩ = true
      · rw [if_pos c2] at h ⊢
        by_cases c3 : d - 1 = 0
        · rw [if_pos c3] at h ⊢
          congr 1; omega
        · rw [if_neg c3] at h ⊢
          have hr := rem_two s n (i + 2) (d - 1)
          rw [h] at hr
          rw [ih (i + 2) m (j + 2) (d - 1) e h (hS.sub 2 (e - (i + 2)) (by omega)) (by omega)]
          congr 1; omega
      · rw [if_neg c2] at h ⊢
        have hr := rem_two s n (i + 1) d
        rw [h] at hr
        rw [ih (i + 1) m (j + 1) d e h (hS.sub 1 (e - (i + 1)) (by omega)) (by omega)]
        congr 1; omega
theorem skip_same (s t : ByteArray) : ∀ (N p q e : Nat), s.size - p < N → p ≤ s.size → skipL s (s.size + 1) p = (e, -1) → Same s p t q (e - p) → skipL t (t.size + 1) q = skipL t (t.size + 1) (q + (e - p)) := by
  intro N
  induction N with
  | zero => intro p q e h; omega
  | succ N ih =>
    intro p q e hN hps hsk hS
    have hge := (skipL_ge s (s.size + 1) p).1
    rw [hsk] at hge
    simp only at hge
    by_cases hpe : e = p
    · subst hpe; simp
    · have hlt : p < s.size := by have := hS.1; omega
      have hqt : q < t.size := by have := hS.2.1; omega
      have hb : bt t q = bt s p := by have := hS.2.2 0 (by omega); rw [Nat.add_zero, Nat.add_zero] at this; exact this.symm
      rw [skip_step s p hlt] at hsk
      rw [skip_step t q hqt, hb]
      by_cases c1 : blankB (bt s p) = true
      · rw [if_pos c1] at hsk ⊢
        have := ih (p + 1) (q + 1) e (by omega) (by omega) hsk (hS.sub 1 (e - (p + 1)) (by omega))
        rw [this]
        congr 1; omega
      · rw [if_neg c1] at hsk ⊢
        by_cases c2 : prefixB (s.extract p s.size) ⟨#[40, 42]⟩ = true
        · rw [if_pos c2] at hsk
          by_cases c3 : remS (s.extract p s.size) < 0
          · rw [if_pos c3] at hsk; exact absurd (congrArg Prod.snd hsk) (by simp only; omega)
          · rw [if_neg c3] at hsk
            have hS0 : remS (s.extract p s.size) = remL (s.extract p s.size) ((s.extract p s.size).size + 1) 0 0 := if_pos c2
            have hr := remL_suf s p (by omega) ((s.extract p s.size).size + 1) 0 0
            rw [show p + 0 = p from rfl, ← hS0, if_neg c3] at hr
            have hge2 := (skipL_ge s (s.size + 1) (p + (remS (s.extract p s.size)).toNat)).1
            rw [hsk] at hge2
            simp only at hge2
            have h2 := rem_two s ((s.extract p s.size).size + 1) p 0
            rw [hr] at h2
            generalize hrr : (remS (s.extract p s.size)).toNat = r at *
            have hrz : remS (s.extract p s.size) = (r : Int) := by omega
            have hsr := hS.sub 0 r (by omega)
            rw [Nat.add_zero, Nat.add_zero] at hsr
            have ht := rem_same s t ((s.extract p s.size).size + 1) p ((t.extract q t.size).size + 1) q 0 (p + r) (by rw [hr, hrz]; push_cast; omega) (by rw [show p + r - p = r by omega]; exact hsr) (by rw [size_suf]; omega)
            have hpt := pre_same s t p q r ⟨#[40, 42]⟩ hsr (by show 2 ≤ r; omega)
            rw [c2] at hpt
            have hS1 : remS (t.extract q t.size) = remL (t.extract q t.size) ((t.extract q t.size).size + 1) 0 0 := if_pos hpt
            have hr2 := remL_suf t q (by omega) ((t.extract q t.size).size + 1) 0 0
            rw [show q + 0 = q from rfl, ← hS1, ht] at hr2
            have hrt : remS (t.extract q t.size) = (r : Int) := by
              by_cases hneg : remS (t.extract q t.size) < 0
              · rw [if_pos hneg] at hr2; omega
              · rw [if_neg hneg] at hr2; omega
            rw [if_pos hpt, if_neg (by omega), hrt]
            have := ih (p + r) (q + r) e (by omega) (by have := hS.1; omega) hsk (hS.sub r (e - (p + r)) (by omega))
            rw [show ((r : Int)).toNat = r by omega, this]
            congr 1; omega
        · rw [if_neg c2] at hsk; exact absurd (congrArg Prod.fst hsk) (by simp only; omega)
end Go.Proofs.YtjbcjcibnjbpcaaDoor.Idl
namespace Go.Proofs.YtjbcjcibnjbpcaaDoor.Idl
open Go
set_option maxHeartbeats 8000000
set_option maxRecDepth 100000
set_option linter.unusedSimpArgs false
/-- Tokens that follow one another from a place on to the end. -/
def Chain (s : ByteArray) : Nat → List (Nat × Tk) → Prop
  | p, [] => skipL s (s.size + 1) p = (s.size, -1)
  | p, t :: r => skipL s (s.size + 1) p = (t.1, -1) ∧ t.1 < s.size ∧ t.2 = tokF s t.1 ∧ t.2.ok = true ∧ Chain s t.2.fin r
theorem skipL_le (s : ByteArray) : ∀ (n p : Nat), p ≤ s.size → (skipL s n p).1 ≤ s.size := by
  intro n
  induction n with
  | zero => intro p h; exact h
  | succ n ih =>
    intro p h
    simp only [skipL]
    split
    · split
      · exact ih _ (by omega)
      · split
        · split
          · exact h
          · have := remL_le s (s.size + 1) p 0
            exact ih _ (by omega)
        · exact h
    · exact h
theorem lexF_chain (s : ByteArray) : ∀ (f p : Nat) (acc l : List (Nat × Tk)), p ≤ s.size → s.size < f + p → lexF s f p acc = .ok l → ∃ r, l = acc ++ r ∧ Chain s p r := by
  intro f
  induction f with
  | zero => intro p acc l h1 h2 h; omega
  | succ f ih =>
    intro p acc l h1 h2 h
    have hge := skipL_ge s (s.size + 1) p
    have hle := skipL_le s (s.size + 1) p h1
    simp only [lexF] at h
    split at h
    · cases h
    · rename_i hneg
      have hs2 : (skipL s (s.size + 1) p).2 = -1 := by rcases hge.2 with h | h <;> omega
      split at h
      · rename_i hend
        cases h
        exact ⟨[], by simp, Prod.ext hend hs2⟩
      · rename_i hne
        split at h
        · cases h
        · rename_i hok
          split at h
          · cases h
          · have hok' : (tokF s (skipL s (s.size + 1) p).1).ok = true := by simpa using hok
            have hlt : (skipL s (s.size + 1) p).1 < s.size := by omega
            have hte := tokF_end s _ hlt hok'
            obtain ⟨r, hr, hc⟩ := ih _ _ l hte.2 (by omega) h
            refine ⟨((skipL s (s.size + 1) p).1, tokF s (skipL s (s.size + 1) p).1) :: r, by rw [hr, List.append_assoc]; rfl, Prod.ext rfl hs2, hlt, rfl, hok', hc⟩
theorem lexR_chain (s : ByteArray) (l : List (Nat × Tk)) (h : lexR s = .ok l) : Chain s 0 l := by
  unfold lexR at h
  split at h
  · cases h
  · obtain ⟨r, hr, hc⟩ := lexF_chain s _ 0 [] l (by omega) (by omega) h
    simp at hr
    subst hr
    exact hc
/-- Between two tokens there is none. -/
theorem lex_between (s : ByteArray) (p q : Nat) (hp : p ≤ q) (hq : q ≤ s.size) (hs : q - p ≤ 16384) (h : skipL s (s.size + 1) p = (q, -1)) : lexR (s.extract p q) = .ok [] := by
  have hsz : (s.extract p q).size = q - p := by simp; omega
  have hS : Same s p (s.extract p q) 0 (q - p) := ⟨by omega, by omega, fun j hj => by rw [Nat.zero_add, bt_extract s p q j (by omega) hq]⟩
  have hk := skip_same s (s.extract p q) (s.size + 1) p 0 q (by omega) (by omega) h hS
  unfold lexR
  rw [if_neg (by omega), lexF_skip _ 0 (0 + (q - p)) hk]
  exact lexF_end _ _ (by omega) (by omega) _ _
/-- A token that is neither a number nor a text stands in the text as it is. -/
theorem tok_text (s : ByteArray) (p : Nat) (hp : p < s.size) (hok : (tokF s p).ok = true) (h1 : (tokF s p).kind ≠ 1) (h2 : (tokF s p).kind ≠ 2) : (tokF s p).text = s.extract p (tokF s p).fin := by
  revert hok h1 h2
  unfold tokF
  cases hd : digitB (bt s p) with
  | true =>
    simp only [if_true]
    generalize numF (s.extract p (span digitB s p)) ((s.extract p (span digitB s p)).size + 1) 0 0 = r
    intro _ h1
    cases r with
    | none => exact absurd rfl h1
    | some r => exfalso; apply h1; simp only [numT]; split <;> rfl
  | false =>
    simp only [Bool.false_eq_true, if_false]
    by_cases h34 : bt s p = 34
    · simp only [if_pos h34]
      intro _ _ h2
      cases hx : txtF s (s.size + 1) (p + 1) [] with
      | none => rw [hx] at h2; exact absurd rfl h2
      | some r => rw [hx] at h2; exact absurd rfl h2
    · simp only [if_neg h34]
      by_cases h39 : bt s p = 39
      · rw [if_pos h39]; intro _ _ _; rfl
      · rw [if_neg h39]
        by_cases hw : (smallB (bt s p) || greatB (bt s p)) = true
        · rw [if_pos hw]; intro _ _ _; rfl
        · rw [if_neg hw]
          intro hok _ _
          cases hx : signF s p signsL with
          | none => rw [hx] at hok; cases hok
          | some x =>
            simp only [signT]
            have hm := (signF_mem s p _ _ hx).2
            have := (prefixB_iff s x p (by omega)).1 hm
            have e := ext_same this
            rw [Nat.zero_add, suf_zero] at e
            exact e.symm
theorem tok_text_size (s : ByteArray) (p : Nat) (hp : p < s.size) (hok : (tokF s p).ok = true) (h1 : (tokF s p).kind ≠ 1) (h2 : (tokF s p).kind ≠ 2) : p + (tokF s p).text.size = (tokF s p).fin := by
  have := tokF_end s p hp hok
  rw [tok_text s p hp hok h1 h2]
  simp
  omega
theorem tok_ref (s : ByteArray) (p : Nat) (hp : p < s.size) (hok : (tokF s p).ok = true) : (tokF (s.extract p s.size) 0).ref = .tuple #[tokV (tokF s p).kind 0 (tokF s p).text (tokF s p).n, .int .i64 (((tokF s p).fin - p : Nat) : Int)] := by
  obtain ⟨so, ss⟩ := tokF_suf s p hp
  have e := ss hok
  rw [hok] at so
  unfold Tk.ref
  rw [← so, e]
  simp
end Go.Proofs.YtjbcjcibnjbpcaaDoor.Idl
namespace Go.Proofs.YtjbcjcibnjbpcaaDoor.Idl
open Go
set_option maxHeartbeats 32000000
set_option maxRecDepth 100000
set_option linter.unusedSimpArgs false
theorem loop6 (s : ByteArray) (hs : s.size ≤ 3000) (tb c lo : Nat) (l : List (Nat × Tk)) (hl : l.length < 2 ^ 30) (htb : tb < lo) (h9 : 9 ≤ lo) : ∀ (n i p : Nat) (H : IH) (T : Regs), l.length - i = n → i ≤ l.length → p ≤ s.size → Glob H → lo ≤ H.next → TkRow H tb l → Chain s p (l.drop i) →
    T.at 0 = .string s → T.at 6 = .int .i64 (p : Int) → T.at 30 = .slice (some ⟨tb, 0, none⟩) l.length c → T.at 31 = .int .i64 (l.length : Int) → T.at 32 = .int .i64 (i : Int) →
    ∃ T' H', run J okAll (.loop L6_0) T H = some (.exit 0, T', H') ∧ Fr lo H H' := by
  intro n
  induction n with
  | zero =>
    intro i p H T hn hi hp hG hlo hrow hch t0 t6 t30 t31 t32
    have hlt : ¬ ((i : Int) < l.length) := by omega
    have : ∃ T', run J okAll (.loop L6_0) T H = some (.exit 0, T', H) := by
      rw [r_loop]
      simp [L6_0, t0, t6, t30, t31, t32, hlt]
    obtain ⟨T', e⟩ := this
    exact ⟨T', H, e, Fr.refl _ _⟩
  | succ n ih =>
    intro i p H T hn hi hp hG hlo hrow hch t0 t6 t30 t31 t32
    have hlt : i < l.length := by omega
    have w1 : IntKind.i64.wrap ((i : Int) + 1) = (i : Int) + 1 := wrap64 _ (by omega) (by omega)
    have hd : l.drop i = l[i] :: l.drop (i + 1) := List.drop_eq_getElem_cons hlt
    have hc := hrow i hlt
    rw [hd] at hch
    generalize l[i] = t at hch hc
    obtain ⟨g1, g2, g3, g4, g5⟩ := hch
    have hge := (skipL_ge s (s.size + 1) p).1
    rw [g1] at hge
    simp only at hge
    rw [g3] at g4
    have hte := tokF_end s t.1 g2 g4
    have hbt := lex_between s p t.1 hge (by omega) (by omega) g1
    have hrf := tok_ref s t.1 g2 g4
    have htx := tok_text s t.1 g2 g4
    have htz := tok_text_size s t.1 g2 g4
    rw [← g3] at hte hrf htx htz
    have h6 : ¬ (t.1 : Int) < p := by omega
    have h7 : ¬ (s.size : Int) ≤ t.1 := by omega
    have sl1 := sliceS_some s p t.1 hge (by omega)
    have sl2 := sliceS_some s t.1 s.size (by omega) (by omega)
    simp only [tkC] at hc
    -- between
    have hGa : Glob (H.push (.cells [.int .i64 t.2.kind, .int .i64 (t.1 : Int), .string t.2.text, .int .i64 t.2.n] 31 false)) := hG.mono hG.2.2 ((Fr.refl _ _).push (Nat.le_refl _) _)
    obtain ⟨H2, v2, f2, e13, hv2⟩ := c13 _ (s.extract p t.1) hGa (by simp; omega)
    rw [hbt] at e13 hv2
    obtain ⟨ba, cv, rfl⟩ := hv2.slice
    simp only [LR.errno, LR.pos, LR.toks, List.length_nil] at e13
    have hx2 : H2.get H.next = some (.cells [.int .i64 t.2.kind, .int .i64 (t.1 : Int), .string t.2.text, .int .i64 t.2.n] 31 false) := by rw [f2.2 _ (by simp)]; exact IH.get_push_same _ _
    obtain ⟨H3, f3, e20⟩ := c20 H2 (s.extract t.1 s.size) (by rw [size_suf]; omega) (by rw [size_suf]; omega)
    rw [hrf] at e20
    have hn2 : H.next + 1 ≤ H2.next := by have := f2.1; simpa using this
    have hx3 : H3.get H.next = some (.cells [.int .i64 t.2.kind, .int .i64 (t.1 : Int), .string t.2.text, .int .i64 t.2.n] 31 false) := by rw [f3.2 _ (by omega)]; exact hx2
    have hn3 : H2.next ≤ H3.next := f3.1
    have hnx : ¬ H.next = H3.next := by omega
    have fA : Fr lo H H3 := by
      refine ⟨by omega, fun x hx => ?_⟩
      rw [f3.2 x (by omega), f2.2 x (by simp; omega), IH.get_push_other _ _ _ (by omega)]
    have hfz : ¬ t.2.fin - t.1 = 0 := by omega
    have w5 : IntKind.i64.wrap ((t.1 : Int) + ((t.2.fin - t.1 : Nat) : Int)) = (t.2.fin : Int) := by rw [wrap64 _ (by omega) (by omega)]; omega
    have step : ∃ T1, run J okAll (.loop L6_0) T H = run J okAll (.loop L6_0) T1 (H3.push (.cells [.int .i64 t.2.kind, .int .i64 (t.1 : Int), .string t.2.text, .int .i64 t.2.n] 31 false)) ∧ T1.at 0 = .string s ∧ T1.at 6 = .int .i64 (t.2.fin : Int) ∧ T1.at 30 = .slice (some ⟨tb, 0, none⟩) l.length c ∧ T1.at 31 = .int .i64 (l.length : Int) ∧ T1.at 32 = .int .i64 ((i : Int) + 1) := by
      by_cases k1 : t.2.kind = 1
      · have k1D : decide (t.2.kind = 1) = true := decide_eq_true k1
        rw [r_loop]
        simp [L6_0, t0, t6, t30, t31, t32, hlt, iindexAddr, hc, inew, istore, Value.cells, plain1, overlay, push_set, w1, h6, h7, sl1, e13, hx2, e20, hx3, IH.get_push, hnx, sl2, tokV, hfz, w5, guard_undef, k1D]
        exact ⟨_, rfl, by simp [t0], by simp, by simp [t30], by simp [t31], by simp⟩
      · have k1D : decide (t.2.kind = 1) = false := decide_eq_false k1
        by_cases k2 : t.2.kind = 2
        · have k2D : decide (t.2.kind = 2) = true := decide_eq_true k2
          rw [r_loop]
          simp [L6_0, t0, t6, t30, t31, t32, hlt, iindexAddr, hc, inew, istore, Value.cells, plain1, overlay, push_set, w1, h6, h7, sl1, e13, hx2, e20, hx3, IH.get_push, hnx, sl2, tokV, hfz, w5, guard_undef, k1D, k2D]
          exact ⟨_, rfl, by simp [t0], by simp, by simp [t30], by simp [t31], by simp⟩
        · have k2D : decide (t.2.kind = 2) = false := decide_eq_false k2
          rw [← g3] at *
          have z1 := htz k1 k2
          have z2 := htx k1 k2
          have w2 : IntKind.i64.wrap ((s.size : Int) - t.1) = (s.size : Int) - t.1 := wrap64 _ (by omega) (by omega)
          have w3 : IntKind.i64.wrap ((t.1 : Int) + t.2.text.size) = ((t.1 + t.2.text.size : Nat) : Int) := by rw [wrap64 _ (by omega) (by omega)]; simp
          have h8 : ¬ (s.size : Int) - t.1 < t.2.text.size := by omega
          have sl3 : sliceS s (some t.1) (some (t.1 + t.2.text.size)) = some (.string t.2.text) := by rw [sliceS_some s _ _ (by omega) (by omega), z1, ← z2]
          have bn : ∀ d, ibound (some (.int .i64 ((t.1 : Int) + t.2.text.size))) d = some (t.1 + t.2.text.size) := fun d => by simp only [bound_int]; rw [if_pos (by omega)]; congr 1
          rw [r_loop]
          simp [L6_0, t0, t6, t30, t31, t32, hlt, iindexAddr, hc, inew, istore, Value.cells, plain1, overlay, push_set, w1, h6, h7, sl1, e13, hx2, e20, hx3, IH.get_push, hnx, sl2, tokV, hfz, w5, guard_undef, k1D, k2D, w2, w3, h8, sl3, bn]
          exact ⟨_, rfl, by simp [t0], by simp, by simp [t30], by simp [t31], by simp⟩
    obtain ⟨T1, e0, a0, a6, a30, a31, a32⟩ := step
    have fB : Fr lo H (H3.push (.cells [.int .i64 t.2.kind, .int .i64 (t.1 : Int), .string t.2.text, .int .i64 t.2.n] 31 false)) := fA.push (by omega) _
    obtain ⟨T', H', r1, r2⟩ := ih (i + 1) t.2.fin _ T1 (by omega) (by omega) hte.2 (hG.mono h9 fB) (by simp; omega) (fun j hj => by rw [fB.2 tb htb]; exact hrow j hj) g5 a0 a6 a30 a31 (by rw [a32]; simp)
    exact ⟨T', H', by rw [e0, r1], fB.trans r2⟩
end Go.Proofs.YtjbcjcibnjbpcaaDoor.Idl
namespace Go.Proofs.YtjbcjcibnjbpcaaDoor.Idl
open Go
set_option maxHeartbeats 16000000
set_option maxRecDepth 100000
set_option linter.unusedSimpArgs false
theorem lexF_err (s : ByteArray) : ∀ (f p : Nat) (acc : List (Nat × Tk)) (e : Int) (a : Nat), p ≤ s.size → s.size < f + p → lexF s f p acc = .err e a → e = 10 ∨ e = 2 := by
  intro f
  induction f with
  | zero => intro p acc e a h1 h2 h; omega
  | succ f ih =>
    intro p acc e a h1 h2 h
    have hge := skipL_ge s (s.size + 1) p
    have hle := skipL_le s (s.size + 1) p h1
    simp only [lexF] at h
    split at h
    · cases h; exact .inl rfl
    · split at h
      · cases h
      · split at h
        · cases h; exact .inl rfl
        · rename_i hok
          split at h
          · cases h; exact .inr rfl
          · have hok' : (tokF s (skipL s (s.size + 1) p).1).ok = true := by simpa using hok
            have hte := tokF_end s _ (by omega) hok'
            exact ih _ _ e a hte.2 (by omega) h
theorem lexR_err (s : ByteArray) (e : Int) (a : Nat) (h : lexR s = .err e a) : e = 10 ∨ e = 2 := by
  unfold lexR at h
  split at h
  · cases h; exact .inr rfl
  · exact lexF_err s _ 0 [] e a (by omega) (by omega) h
theorem c6 (H : IH) (hG : Glob H) (s : ByteArray) : ∃ H', Fr H.next H H' ∧ cal J okAll 6 #[.string s] H = some (.ret (.bool true), H') := by
  have h9 := hG.2.2
  have hs := cutF_size s
  have k := c12 H s
  obtain ⟨H1, v1, f1, e1, hv1⟩ := c13 H (cutF s) hG (by omega)
  have hG1 := hG.mono h9 f1
  generalize cutF s = s' at *
  rw [cal6 _ _ (by simp)]
  cases hr : lexR s' with
  | err e a =>
    rw [hr] at e1 hv1
    have he := lexR_err s' e a hr
    have hne : ¬ e = 0 := by omega
    obtain ⟨ba, cv, rfl⟩ := hv1.slice
    obtain ⟨H2, f2, e2⟩ := c16 H1 hG1
    refine ⟨H2, f1.trans' f2 f1.1, ?_⟩
    simp only [LR.errno, LR.pos, LR.toks, List.length_nil] at e1
    simp [C6, R6, regsOf, fin, iresult1, k, e1, hne, e2]
  | ok l =>
    rw [hr] at e1 hv1
    have hlen := lexR_len s'
    rw [hr] at hlen
    have hch := lexR_chain s' l hr
    simp only [LR.errno, LR.pos, LR.toks] at e1 hv1 hlen
    by_cases hl : l = []
    · subst hl
      obtain ⟨ba, cv, rfl⟩ := hv1.slice
      obtain ⟨H2, f2, e2⟩ := c16 H1 hG1
      refine ⟨H2, f1.trans' f2 f1.1, ?_⟩
      simp [C6, R6, regsOf, fin, iresult1, k, e1]
      generalize hX : run J okAll (.loop L6_0) _ _ = X
      have : ∃ T', X = some (.exit 0, T', H1) := by
        rw [← hX, r_loop]
        simp [L6_0]
      obtain ⟨T', e⟩ := this
      rw [e]
      simp [e2, fin, iresult1]
    · obtain ⟨tb, b0, b1, rfl, b2⟩ := hv1.row hl
      have hrow : TkRow H1 tb l := fun i hi => tks_cell hv1 hi
      have key := fun T => loop6 s' hs tb capU H1.next l (by omega) b1 hG1.2.2 _ 0 0 H1 T rfl (by omega) (by omega) hG1 (Nat.le_refl _) hrow (by rw [List.drop_zero]; exact hch)
      simp [C6, R6, regsOf, fin, iresult1, k, e1]
      generalize hX : run J okAll (.loop L6_0) _ _ = X
      obtain ⟨T1, x1, a0, a6, a30, a31, a32⟩ : ∃ T1, run J okAll (.loop L6_0) T1 H1 = X ∧ T1.at 0 = .string s' ∧ T1.at 6 = .int .i64 ((0 : Nat) : Int) ∧ T1.at 30 = .slice (some ⟨tb, 0, none⟩) l.length capU ∧ T1.at 31 = .int .i64 (l.length : Int) ∧ T1.at 32 = .int .i64 ((0 : Nat) : Int) :=
        ⟨_, hX, by simp, by simp, by simp, by simp, by simp⟩
      obtain ⟨T', H2, r1, r2⟩ := key T1 a0 a6 a30 a31 a32
      obtain ⟨H3, f3, e3⟩ := c16 H2 (hG1.mono hG1.2.2 r2)
      refine ⟨H3, (f1.trans' r2 f1.1).trans' f3 (Nat.le_trans f1.1 r2.1), ?_⟩
      rw [← x1, r1]
      simp [e3, fin, iresult1]
end Go.Proofs.YtjbcjcibnjbpcaaDoor.Idl
namespace Go.Proofs.YtjbcjcibnjbpcaaDoor
open Go Go.ChangeShapes Go.WideShapes Go.ChangeAt Go.RowKit
set_option maxRecDepth 100000
theorem own : ownKnob Tryd.prog.godebug = .none := by kernel_rfl
theorem und4 : Tryd.prog.underlying 4 = some .bool := by kernel_rfl
theorem und9 : Tryd.prog.underlying 9 = some .string := by kernel_rfl
theorem laidH (W : World) : laidMetH Tryd.prog Rows.lexPlacesRow.laid W = laidMet Tryd.prog Rows.lexPlacesRow.laid W := MakeChecks.laidMetH_plain _ _ _ (by kernel_rfl)
theorem func6 : Tryd.prog.funcs[6]? = some Tryd.f6 := by kernel_rfl
theorem params6 : Tryd.f6.params = #[9] := by kernel_rfl
theorem law6 {W : World} (hL : laidMet Tryd.prog Rows.lexPlacesRow.laid W) (x0 : ByteArray) : Calls Tryd.prog 6 #[.string x0] W fun e W' => e = .returned (.bool true) ∧ Below W.heap.size W W' := by
  obtain ⟨H', _, hc⟩ := Idl.c6 Idl.H0 Idl.H0_glob x0
  exact Idl.law_calls hL rfl hc
theorem lifted6 (os : Os) (started : os.Started) (H : Type) (enc : TypeId × Value → H) :
    ReturnsInHanded {} Tryd.checked os 6 .any (fun w args => (Rows.lexPlacesSpec.pre enc Tryd.prog Tryd.f6 [] false w args ∧ laidMetH Tryd.prog Rows.lexPlacesRow.laid w) ∧ sizedMet enc Tryd.prog Tryd.f6 (OpenSpec.ofChange Rows.lexPlacesSpec) false w args)
      (Rows.lexPlacesSpec.post enc Tryd.prog Tryd.f6 false true false false) := by
  refine returnsInHanded_of_change_and (C := Tryd.checked) (X := fun w _ => laidMetH Tryd.prog Rows.lexPlacesRow.laid w) (fun _ _ _ hh h => h.of_heap hh) own started (by kernel_rfl) func6
    (ChangeSpec.witness_shaped (enc := enc) (C := Tryd.checked) (os := os) (X := fun w _ => laidMetH Tryd.prog Rows.lexPlacesRow.laid w) false (World.laidAll Tryd.prog os Rows.lexPlacesRow.laid) #[.string ⟨#[]⟩] 8 (World.laidAll_os _ _ _)
      (World.shaped_of_ZipB (by kernel_rfl) (by kernel_rfl)) (by kernel_rfl) (by kernel_rfl) (by kernel_rfl)
      (by rw [laidH]; exact laidMet_laidAll _ (by kernel_rfl) (by kernel_rfl))) ?_
  intro W base args ds gs before hval0 hW hc _ hL _
  have hval : ∀ (j : Nat) t v, Tryd.f6.params[j]? = some t → args[j]? = some v → Value.okWide Tryd.prog W .any base t v := hval0
  have hW' := hW
  obtain ⟨p, q, hA0, hV, rfl, _, _⟩ := hW
  have hA : DataW.TrodAll enc Tryd.prog W 0 (fun _ => true) true Tryd.f6.params.toList args.toList ds p := hA0
  rw [params6] at hA hval
  obtain ⟨v0, d0, rfl, rfl, h0⟩ := trodAll_one hA
  obtain ⟨rfl, rfl⟩ := trodVars_none hV
  obtain ⟨x0, rfl, rfl, rfl, hs0⟩ := ChangeMaps.open_string und9 (hval 0 9 v0 rfl rfl) h0
  simp only [List.append_nil] at hW'
  rw [laidH] at hL
  refine (law6 hL x0).mono fun e W' ⟨he, hB⟩ => ?_
  subst he
  refine ⟨_, rfl, _, _, _, [], [], [], hW', ?_, ?_, ?_, Idl.keptBut_of_below hB _, fun h => by cases h⟩
  · exact trodAll_mk1 (shut_bool und4 true)
  · exact trodAll_mk1 (ChangeMaps.shut_string und9 hs0)
  · rfl
theorem lexPlaces_holds : Rows.LexPlacesSaid :=
  OpenClaim.holds_of_wide 6 Tryd.f6 rfl rfl rfl rfl rfl rfl rfl ⟨rfl, rfl, rfl, rfl, rfl⟩ rfl rfl rfl rfl rfl (by kernel_rfl) func6 (by kernel_rfl)
    (of_decide_eq_true (by kernel_rfl)) (by unfold Func.isWrapper; first | (rw [if_pos (by decide +kernel)]; kernel_rfl) | (rw [if_neg (by decide +kernel)]; exact ⟨rfl, rfl⟩))
    (fun os started H enc _ => lifted6 os started H enc)
theorem lexPlaces_card : Rows.LexPlacesCardSaid :=
  Claim7.holds_tied_plain_at .later [] [.data, .data, .data, .sentinel, .sentinel, .listed, .data] true (true, "17391ddf44905ff62b8b72145bd5a67fc3f5c2f6327286b0eb46ce065c3c73e4") true
    lexPlaces_holds (fun _ h => by cases h) (by kernel_rfl) (fun _ h => by cases h) lexPlaces_row_tie rfl ⟨rfl, rfl⟩ (by kernel_rfl) rfl
    (fun f fn hf hfn => by
      obtain rfl : f = 6 := Option.some.inj ((show Tryd.prog.funcNamed "bellows/bellowslaw07.LexPlaces" = some 6 by kernel_rfl).symm.trans hf) |>.symm
      obtain rfl : fn = Tryd.f6 := (Option.some.inj (func6.symm.trans hfn)).symm
      exact ⟨by kernel_rfl, fun j t ht => by
        rw [params6] at ht
        have hm : t ∈ [9] := by simpa using Array.mem_of_getElem? ht
        have hall : ([9].all fun u => !Tryd.prog.wantsStandIn u) = true := by kernel_rfl
        have := List.all_eq_true.1 hall t hm
        exact (show Tryd.prog.wantsStandIn t = false by simpa using this)⟩)
    (by kernel_rfl)
#print axioms lexPlaces_card
end Go.Proofs.YtjbcjcibnjbpcaaDoor
