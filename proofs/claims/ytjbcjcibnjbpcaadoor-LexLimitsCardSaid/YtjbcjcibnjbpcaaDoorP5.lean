/- LexLimits: texts and tokens are taken just up to their limits: for every number and either kind of text the law answers true: the row, and its card, tied to the program's text. Conditions: none but the row's own (the listed variables hold what the program's text lays). -/
import Derived.Test.YtjbcjcibnjbpcaaDoorP4
import Derived.Test.YtjbcjcibnjbpcaaDoorCards
import Derived.ChangeMaps5
namespace Go.Proofs.YtjbcjcibnjbpcaaDoor.Idl
open Go
set_option maxHeartbeats 8000000
set_option maxRecDepth 100000
set_option linter.unusedSimpArgs false
def deepL (n m : Nat) : List Int := [97, 32] ++ ((List.replicate n opL).flatten ++ ((List.replicate m clL).flatten ++ [99]))
theorem byl_rep (l : List Int) (h : ByL l) (n : Nat) : ByL (List.replicate n l).flatten := by
  induction n with
  | zero => intro x hx; simp at hx
  | succ n ih => rw [List.replicate_succ, List.flatten_cons]; exact h.append ih
theorem byl_op : ByL opL := by intro x hx; simp [opL] at hx; omega
theorem byl_cl : ByL clL := by intro x hx; simp [clL] at hx; omega
theorem byl_deep (n m : Nat) : ByL (deepL n m) :=
  ByL.append (by intro x hx; simp at hx; omega) (ByL.append (byl_rep _ byl_op n) (ByL.append (byl_rep _ byl_cl m) (by intro x hx; simp at hx; omega)))
theorem rep_len (l : List Int) (n : Nat) : ((List.replicate n l).flatten).length = n * l.length := by simp
theorem deep_len (n m : Nat) : (deepL n m).length = 2 + 5 * n + 3 * m + 1 := by
  simp only [deepL, List.length_append, rep_len]
  simp [opL, clL]
  omega
/-- A name of one letter that a byte follows which is none of a name's. -/
theorem tok_one (s : ByteArray) (p : Nat) (a : Int) (l : List Int) (h : At s p (a :: l)) (hl : l = [] ∨ ∃ b r, l = b :: r ∧ letterB b = false) (hd : digitB a = false) (h34 : a ≠ 34) (h39 : a ≠ 39) (hs : smallB a = true)
    (x : ByteArray) (hx : strOf [a] = x) (hk : kindW a (lookW x kwL) = 3) : tokF s p = ⟨3, x, 0, p + 1, true⟩ := by
  have h0 := h.head
  have hsp : span letterB s p = p + 1 := by
    rw [span_step letterB s p h0.1, bt_eq s p h0.1, h0.2, letter_of_small (.inl hs), if_pos rfl]
    rcases hl with rfl | ⟨b, r, rfl, hb⟩
    · exact span_end _ _ _ (by have := h.1; simp at this; omega)
    · have h1 := h.tail.head
      rw [span_step letterB s (p + 1) h1.1, bt_eq s (p + 1) h1.1, h1.2, hb]; rfl
  have hex : s.extract p (p + 1) = x := by rw [ext_one s p h0.1, h0.2]; exact hx
  unfold tokF
  rw [h0.2, hd, hsp, hex, hk, hs]
  simp [h34, h39]
theorem rem_at (t : ByteArray) (n m : Nat) (h : At t 0 ((List.replicate n opL).flatten ++ ((List.replicate m clL).flatten ++ [99]))) (hn : 1 ≤ n) (hm : m ≤ n) : remS t = if m < n then -1 else ((8 * n - 1 : Nat) : Int) := by
  have hsz : t.size = 5 * n + 3 * m + 1 := by
    have := h.1
    simp only [List.length_append, rep_len] at this
    simp [opL, clL] at this
    omega
  have hp : prefixB t ⟨#[40, 42]⟩ = true := by
    obtain ⟨k, rfl⟩ : ∃ k, n = k + 1 := ⟨n - 1, by omega⟩
    rw [List.replicate_succ, List.flatten_cons, List.append_assoc] at h
    have h1 : At t 0 (40 :: 42 :: _) := h
    have e := openB t 0 (by omega)
    rw [suf_zero] at e
    rw [e, h1.head.2, h1.tail.head.2]
    have := h1.tail.head.1
    simp
    omega
  unfold remS
  rw [if_pos hp]
  by_cases hlt : m < n
  · rw [if_pos hlt, remL_fuel t (t.size + 1) (t.size + 1 + 1 + 2 * m + 4 * n) 0 0 (by omega) (by omega)]
    obtain ⟨e1, a1⟩ := rem_opens t _ n (t.size + 1 + 1 + 2 * m) 0 0 h
    obtain ⟨e2, a2⟩ := rem_closes t _ m (t.size + 1 + 1) _ (0 + n) (by omega) a1
    rw [e1, e2, remL_other t _ _ _ 99 _ a2 (by decide) (by decide)]
    exact remL_none t _ _ _ (by have := a2.1; simp at this; omega)
  · obtain ⟨k, rfl⟩ : ∃ k, n = k + 1 := ⟨n - 1, by omega⟩
    have hmk : m = k + 1 := by omega
    subst hmk
    rw [if_neg hlt, remL_fuel t (t.size + 1) (t.size + 1 + 1 + 2 * k + 4 * (k + 1)) 0 0 (by omega) (by omega)]
    obtain ⟨e1, a1⟩ := rem_opens t _ (k + 1) (t.size + 1 + 1 + 2 * k) 0 0 h
    have hrep : (List.replicate (k + 1) clL).flatten ++ [99] = (List.replicate k clL).flatten ++ (42 :: 41 :: 32 :: [99]) := by
      rw [List.replicate_succ', List.flatten_append, List.append_assoc]; rfl
    rw [hrep] at a1
    obtain ⟨e2, a2⟩ := rem_closes t _ k (t.size + 1 + 1) _ (0 + ((k + 1 : Nat) : Int)) (by push_cast; omega) a1
    rw [e1, e2, remL_close t _ _ _ _ a2, if_pos (by push_cast; omega)]
    congr 1
    omega
theorem lex_deep (n m : Nat) (hn : 1 ≤ n) (hm : m ≤ n) (hn3 : n ≤ 300) : lexR (strOf (deepL n m)) = if m < n then .err 10 2 else .ok [(0, ⟨3, ⟨#[97]⟩, 0, 1, true⟩), (8 * n + 2, ⟨3, ⟨#[99]⟩, 0, 8 * n + 3, true⟩)] := by
  have hA := At.start _ (byl_deep n m)
  have hsz : (strOf (deepL n m)).size = 2 + 5 * n + 3 * m + 1 := by rw [strOf_size, deep_len]
  generalize strOf (deepL n m) = s at *
  have h1 : At s 0 (97 :: 32 :: ((List.replicate n opL).flatten ++ ((List.replicate m clL).flatten ++ [99]))) := hA
  have h2 : At s 1 (32 :: ((List.replicate n opL).flatten ++ ((List.replicate m clL).flatten ++ [99]))) := h1.tail
  have h3 : At s 2 ((List.replicate n opL).flatten ++ ((List.replicate m clL).flatten ++ [99])) := h2.tail
  have t0 := tok_one s 0 97 _ h1 (.inr ⟨_, _, rfl, rfl⟩) rfl (by decide) (by decide) rfl ⟨#[97]⟩ (by kernel_rfl) (by kernel_rfl)
  have hAt : At (s.extract 2 s.size) 0 ((List.replicate n opL).flatten ++ ((List.replicate m clL).flatten ++ [99])) := ⟨by have := h3.1; rw [size_suf]; omega, fun j hj => by
    rw [bt_suf s 2 _ (by have := h3.1; omega)]; have := h3.2 j hj; rw [Nat.zero_add]; exact this⟩
  have hr := rem_at _ n m hAt hn hm
  have p0 : prefixB (s.extract 0 s.size) ⟨#[40, 42]⟩ = false := by rw [openB s 0 (by omega), h1.head.2]; simp
  have b2 : bt s 2 = 40 := by
    obtain ⟨k, rfl⟩ : ∃ k, n = k + 1 := ⟨n - 1, by omega⟩
    rw [List.replicate_succ, List.flatten_cons, List.append_assoc] at h3
    have h4 : At s 2 (40 :: _) := h3
    exact h4.head.2
  unfold lexR
  rw [if_neg (by omega)]
  rw [lexF_tok s 0 (by omega) (by rw [h1.head.2]; rfl) ((remS_zero _).2 p0), t0]
  simp only [Bool.true_eq_false, if_false, List.length_nil, List.nil_append]
  rw [if_neg (by decide)]
  obtain ⟨f, hf⟩ : ∃ f, s.size = f + 2 := ⟨s.size - 2, by omega⟩
  rw [lexF_blank s (0 + 1) (by omega) (by rw [show 0 + 1 = 1 from rfl, h2.head.2]; rfl)]
  by_cases hlt : m < n
  · rw [if_pos hlt] at hr ⊢
    rw [hf]
    exact lexF_open s 2 (by omega) (by rw [b2]; rfl) (by rw [hr]; decide) _ _
  · rw [if_neg hlt] at hr ⊢
    have hmn : m = n := by omega
    subst hmn
    rw [show 0 + 1 + 1 = 2 from rfl, lexF_remark s 2 (by omega) (by rw [b2]; rfl) (by rw [hr]; omega), hr]
    obtain ⟨k, rfl⟩ : ∃ k, m = k + 1 := ⟨m - 1, by omega⟩
    have hrep : (List.replicate (k + 1) clL).flatten ++ [99] = ((List.replicate k clL).flatten ++ [42, 41]) ++ (32 :: [99]) := by
      rw [List.replicate_succ', List.flatten_append, List.append_assoc, List.append_assoc]; rfl
    rw [hrep, ← List.append_assoc] at h3
    have h5 := At.drop h3
    have hln : 2 + ((List.replicate (k + 1) opL).flatten ++ ((List.replicate k clL).flatten ++ [42, 41])).length = 8 * (k + 1) + 1 := by
      simp only [List.length_append, rep_len]
      simp [opL, clL]
      omega
    rw [hln] at h5
    have e1 : 2 + ((((8 * (k + 1) - 1 : Nat) : Int)).toNat) = 8 * (k + 1) + 1 := by simp; omega
    rw [e1, lexF_blank s _ h5.head.1 (by rw [h5.head.2]; rfl)]
    have h6 := h5.tail
    have t1 := tok_one s _ 99 [] h6 (.inl rfl) rfl (by decide) (by decide) rfl ⟨#[99]⟩ (by kernel_rfl) (by kernel_rfl)
    have p1 : prefixB (s.extract (8 * (k + 1) + 1 + 1) s.size) ⟨#[40, 42]⟩ = false := by rw [openB s _ (by have := h6.head.1; omega), h6.head.2]; simp
    rw [hf, lexF_tok s _ h6.head.1 (by rw [h6.head.2]; rfl) ((remS_zero _).2 p1), t1]
    simp only [Bool.true_eq_false, if_false]
    rw [if_neg (by decide), lexF_end s _ (by omega) (by omega)]
    rfl
end Go.Proofs.YtjbcjcibnjbpcaaDoor.Idl
namespace Go.Proofs.YtjbcjcibnjbpcaaDoor.Idl
open Go
set_option maxHeartbeats 16000000
set_option maxRecDepth 100000
set_option linter.unusedSimpArgs false
theorem sadd (l m : List Int) (h : l.length + m.length < 2 ^ 40) (x y : Operand) (H : IH) : binR J .add 9 x y (.string (strOf l)) (.string (strOf m)) H = some (.val (.string (strOf (l ++ m))) H) := by
  rw [bin_sadd J H 9 x y _ _ (eq_false (by rw [strOf_size, strOf_size]; omega)), strOf_append]
theorem TksAt.slice {H : IH} {v : Value} {l : List (Nat × Tk)} {lo : Nat} (h : TksAt H v l lo) : ∃ a c, v = .slice a l.length c := by
  rcases h.2 with ⟨h1, h2⟩ | ⟨b, _, _, h1, _⟩
  · rw [List.map_eq_nil_iff] at h2; subst h2; exact ⟨_, _, h1⟩
  · rw [List.length_map] at h1; exact ⟨_, _, h1⟩
theorem TksAt.row {H : IH} {v : Value} {l : List (Nat × Tk)} {lo : Nat} (h : TksAt H v l lo) (hl : l ≠ []) : ∃ b, lo ≤ b ∧ b < H.next ∧ v = .slice (some ⟨b, 0, none⟩) l.length capU ∧ H.get b = some (.cells (l.map tkC).flatten 31 false) := by
  rcases h.2 with ⟨h1, h2⟩ | ⟨b, h0, h1, h2, h3⟩
  · rw [List.map_eq_nil_iff] at h2; exact absurd h2 hl
  · rw [List.length_map] at h2; exact ⟨b, h0, h1, h2, h3⟩
theorem loop10_0 (H : IH) (N : Nat) (hN : N ≤ 300) (v0 v1 : Value) : ∀ (k i : Nat) (l : List Int) (T : Regs), N - i = k → i ≤ N → l.length + 5 * k < 2 ^ 30 →
    T.at 0 = v0 → T.at 1 = v1 → T.at 5 = .string (strOf l) → T.at 15 = .int .i64 (N : Int) → T.at 16 = .int .i64 (i : Int) →
    ∃ T', run J okAll (.loop L10_0) T H = some (.exit 0, T', H) ∧ T'.at 0 = v0 ∧ T'.at 1 = v1 ∧ T'.at 5 = .string (strOf (l ++ (List.replicate k opL).flatten)) := by
  intro k
  induction k with
  | zero =>
    intro i l T hk hi hl t0 t1 t5 t15 t16
    have hlt : ¬ ((i : Int) < N) := by omega
    rw [r_loop]
    simp [L10_0, t0, t1, t5, t15, t16, hlt]
  | succ k ih =>
    intro i l T hk hi hl t0 t1 t5 t15 t16
    have hlt : i < N := by omega
    have w1 : IntKind.i64.wrap ((i : Int) + 1) = (i : Int) + 1 := wrap64 _ (by omega) (by omega)
    have hbl : opL.length = 5 := rfl
    have ha := fun x y => sadd l opL (by omega) x y H
    have hc : (⟨#[40, 42, 32, 98, 32]⟩ : ByteArray) = strOf opL := by kernel_rfl
    rw [← hc] at ha
    have : ∃ T1, run J okAll (.loop L10_0) T H = run J okAll (.loop L10_0) T1 H ∧ T1.at 0 = v0 ∧ T1.at 1 = v1 ∧ T1.at 5 = .string (strOf (l ++ opL)) ∧ T1.at 15 = .int .i64 (N : Int) ∧ T1.at 16 = .int .i64 ((i : Int) + 1) := by
      rw [r_loop]
      simp [L10_0, t0, t1, t5, t15, t16, hlt, w1, ha]
      exact ⟨_, rfl, by simp [t0], by simp [t1], by simp, by simp [t15], by simp⟩
    obtain ⟨T1, e0, f0, f1, f5, f15, f16⟩ := this
    obtain ⟨T', g0, g1, g2, g3⟩ := ih (i + 1) (l ++ opL) T1 (by omega) (by omega) (by rw [List.length_append]; omega) f0 f1 f5 f15 (by rw [f16]; simp)
    refine ⟨T', by rw [e0, g0], g1, g2, ?_⟩
    rw [g3, List.replicate_succ, List.flatten_cons, List.append_assoc]
theorem loop10_1 (H : IH) (N : Nat) (hN : N ≤ 300) (v0 v1 : Value) : ∀ (k i : Nat) (l : List Int) (T : Regs), N - i = k → i ≤ N → l.length + 3 * k < 2 ^ 30 →
    T.at 0 = v0 → T.at 1 = v1 → T.at 5 = .string (strOf l) → T.at 23 = .int .i64 (N : Int) → T.at 24 = .int .i64 (i : Int) →
    ∃ T', run J okAll (.loop L10_1) T H = some (.exit 2, T', H) ∧ T'.at 0 = v0 ∧ T'.at 1 = v1 ∧ T'.at 5 = .string (strOf (l ++ (List.replicate k clL).flatten)) := by
  intro k
  induction k with
  | zero =>
    intro i l T hk hi hl t0 t1 t5 t15 t16
    have hlt : ¬ ((i : Int) < N) := by omega
    rw [r_loop]
    simp [L10_1, t0, t1, t5, t15, t16, hlt]
  | succ k ih =>
    intro i l T hk hi hl t0 t1 t5 t15 t16
    have hlt : i < N := by omega
    have w1 : IntKind.i64.wrap ((i : Int) + 1) = (i : Int) + 1 := wrap64 _ (by omega) (by omega)
    have hbl : clL.length = 3 := rfl
    have ha := fun x y => sadd l clL (by omega) x y H
    have hc : (⟨#[42, 41, 32]⟩ : ByteArray) = strOf clL := by kernel_rfl
    rw [← hc] at ha
    have : ∃ T1, run J okAll (.loop L10_1) T H = run J okAll (.loop L10_1) T1 H ∧ T1.at 0 = v0 ∧ T1.at 1 = v1 ∧ T1.at 5 = .string (strOf (l ++ clL)) ∧ T1.at 23 = .int .i64 (N : Int) ∧ T1.at 24 = .int .i64 ((i : Int) + 1) := by
      rw [r_loop]
      simp [L10_1, t0, t1, t5, t15, t16, hlt, w1, ha]
      exact ⟨_, rfl, by simp [t0], by simp [t1], by simp, by simp [t15], by simp⟩
    obtain ⟨T1, e0, f0, f1, f5, f15, f16⟩ := this
    obtain ⟨T', g0, g1, g2, g3⟩ := ih (i + 1) (l ++ clL) T1 (by omega) (by omega) (by rw [List.length_append]; omega) f0 f1 f5 f15 (by rw [f16]; simp)
    refine ⟨T', by rw [e0, g0], g1, g2, ?_⟩
    rw [g3, List.replicate_succ, List.flatten_cons, List.append_assoc]
theorem c10 (H : IH) (hG : Glob H) (n c : Int) : ∃ H', Fr H.next H H' ∧ cal J okAll 10 #[.int .i64 n, .int .i64 c] H = some (.ret (.bool true), H') := by
  have h9 := hG.2.2
  obtain ⟨N, hN⟩ : ∃ N : Nat, max 1 (min n 300) = (N : Int) := ⟨(max 1 (min n 300)).toNat, by omega⟩
  obtain ⟨C, hC⟩ : ∃ C : Nat, max 0 (min c 300) = (C : Int) := ⟨(max 0 (min c 300)).toNat, by omega⟩
  have hN1 : 1 ≤ N ∧ N ≤ 300 := by omega
  obtain ⟨M, hM⟩ : ∃ M : Nat, min (C : Int) (N : Int) = (M : Int) := ⟨min C N, by omega⟩
  have hMN : M ≤ N ∧ (C < N → M < N) ∧ (¬ C < N → M = N) := by omega
  have hlx := lex_deep N M hN1.1 hMN.1 hN1.2
  have hsz : (strOf (deepL N M)).size < 2 ^ 39 := by rw [strOf_size, deep_len]; omega
  obtain ⟨H1, v1, f1, e1, hv1⟩ := c13 H (strOf (deepL N M)) hG hsz
  have hG1 := hG.mono h9 f1
  obtain ⟨H2, f2, e2⟩ := c16 H1 hG1
  refine ⟨H2, f1.trans' f2 f1.1, ?_⟩
  rw [hlx] at e1 hv1
  have k0 := fun T => loop10_0 H N hN1.2 (.int .i64 (N : Int)) (.int .i64 (C : Int)) N 0 [97, 32] T (by omega) (by omega) (by simp; omega)
  have k1 := fun T => loop10_1 H M (by omega) (.int .i64 (N : Int)) (.int .i64 (C : Int)) M 0 ([97, 32] ++ (List.replicate N opL).flatten) T (by omega) (by omega) (by rw [List.length_append, rep_len]; simp [opL]; omega)
  have ha := fun x y => sadd ([97, 32] ++ (List.replicate N opL).flatten ++ (List.replicate M clL).flatten) [99] (by simp only [List.length_append, rep_len]; simp [opL, clL]; omega) x y H
  have hc99 : (⟨#[99]⟩ : ByteArray) = strOf [99] := by kernel_rfl
  have hc97 : (⟨#[97, 32]⟩ : ByteArray) = strOf [97, 32] := by kernel_rfl
  have hdl : [97, 32] ++ (List.replicate N opL).flatten ++ (List.replicate M clL).flatten ++ [99] = deepL N M := by simp only [deepL, List.append_assoc]
  rw [hdl, ← hc99] at ha
  generalize strOf (deepL N M) = s at *
  rw [cal10 _ _ (by simp)]
  simp [C10, R10, regsOf, fin, iresult1, hN, hC]
  generalize hX : run J okAll (.loop L10_0) _ _ = X
  obtain ⟨T1, x1, a0, a1, a5, a15, a16⟩ : ∃ T1, run J okAll (.loop L10_0) T1 H = X ∧ T1.at 0 = .int .i64 (N : Int) ∧ T1.at 1 = .int .i64 (C : Int) ∧ T1.at 5 = .string (strOf [97, 32]) ∧ T1.at 15 = .int .i64 (N : Int) ∧ T1.at 16 = .int .i64 ((0 : Nat) : Int) :=
    ⟨_, hX, by simp, by simp, by simp [hc97], by simp, by simp⟩
  obtain ⟨T2, r1, b0, b1, b5⟩ := k0 T1 a0 a1 a5 a15 a16
  rw [← x1, r1]
  clear hX
  simp [b0, b1, b5, hM]
  generalize hX : run J okAll (.loop L10_1) _ _ = X
  obtain ⟨T3, x3, a0, a1, a5, a15, a16⟩ : ∃ T3, run J okAll (.loop L10_1) T3 H = X ∧ T3.at 0 = .int .i64 (N : Int) ∧ T3.at 1 = .int .i64 (C : Int) ∧ T3.at 5 = .string (strOf ([97, 32] ++ (List.replicate N opL).flatten)) ∧ T3.at 23 = .int .i64 (M : Int) ∧ T3.at 24 = .int .i64 ((0 : Nat) : Int) :=
    ⟨_, hX, by simp [b0], by simp [b1], by simp [b5], by simp, by simp⟩
  obtain ⟨T4, r3, d0, d1, d5⟩ := k1 T3 a0 a1 a5 a15 a16
  rw [← x3, r3]
  clear hX
  generalize strOf ([97, 32] ++ (List.replicate N opL).flatten ++ (List.replicate M clL).flatten) = s2 at d5 ha
  by_cases hlt : C < N
  · rw [if_pos (hMN.2.1 hlt)] at e1 hv1
    obtain ⟨ba, cv, rfl⟩ := hv1.slice
    simp only [LR.errno, LR.pos, LR.toks, List.length_nil] at e1
    simp [d0, d1, d5, ha, e1, hlt, e2, fin, iresult1]
  · rw [if_neg (by omega)] at e1 hv1
    have hltD : decide ((C : Int) < N) = false := decide_eq_false (by omega)
    obtain ⟨b1, _, l1, rfl, g1⟩ := hv1.row (by simp [LR.toks])
    simp only [LR.errno, LR.pos, LR.toks] at e1 g1
    have xc : cellOf (H1.get b1) 6 = some (.string ⟨#[99]⟩) := by rw [g1]; rfl
    simp [d0, d1, d5, ha, e1, hlt, e2, iindexAddr, xc, fin, iresult1]
end Go.Proofs.YtjbcjcibnjbpcaaDoor.Idl
namespace Go.Proofs.YtjbcjcibnjbpcaaDoor.Idl
open Go
set_option maxHeartbeats 8000000
set_option maxRecDepth 100000
set_option linter.unusedSimpArgs false
theorem signF_byte (s : ByteArray) (p : Nat) (c : Int) (hp : p < s.size) (hc : bt s p = c) : ∀ S : List ByteArray, (∀ x ∈ S, 0 < x.size) → signF s p S = signF s p (S.filter fun x => bt x 0 == c) := by
  intro S
  induction S with
  | nil => intro _; rfl
  | cons x S ih =>
    intro h
    have hi := ih (fun y hy => h y (by simp [hy]))
    by_cases hx : bt x 0 = c
    · have hxb : (bt x 0 == c) = true := by simp [hx]
      rw [List.filter_cons, hxb]
      simp only [if_true, signF]
      rw [hi]
    · have hxb : (bt x 0 == c) = false := by simp [hx]
      have hpf : prefixB (s.extract p s.size) x = false := by
        cases h2 : prefixB (s.extract p s.size) x with
        | false => rfl
        | true =>
          have := prefixB_bt _ _ h2 0 (h x (by simp))
          rw [bt_suf s p 0 (by omega), Nat.add_zero, hc] at this
          exact absurd this.symm hx
      rw [List.filter_cons, hxb]
      simp only [Bool.false_eq_true, if_false, signF, hpf]
      exact hi
/-- The token of a semicolon. -/
theorem tok_semi (s : ByteArray) (p : Nat) (hp : p < s.size) (hb : bt s p = 59) : tokF s p = ⟨6, ⟨#[59]⟩, 0, p + 1, true⟩ := by
  have hf : signsL.filter (fun x => bt x 0 == (59 : Int)) = [⟨#[59]⟩] := by kernel_rfl
  have h1 : prefixB (s.extract p s.size) ⟨#[59]⟩ = true := by
    have := prefixB1 (s.extract p s.size) 59
    rw [size_suf, bt_suf s p 0 (by omega), Nat.add_zero, hb] at this
    rw [this]
    simp
    omega
  have hs : signF s p signsL = some ⟨#[59]⟩ := by
    rw [signF_byte s p 59 hp hb signsL signs_pos, hf]
    simp only [signF, h1, if_true]
  unfold tokF
  rw [hb, hs]
  rfl
def semiL : List Int := [59, 32]
theorem byl_semi : ByL semiL := by intro x hx; simp [semiL] at hx; omega
theorem lex_semi (s : ByteArray) (N : Nat) : ∀ (k j f : Nat) (acc : List (Nat × Tk)), N = j + k → At s (2 * j) ((List.replicate k semiL).flatten) → acc.length = j → j ≤ 4000 → s.size < f + 2 * j →
    (N ≤ 4000 → ∃ l, lexF s f (2 * j) acc = .ok l ∧ l.length = N) ∧ (4000 < N → lexF s f (2 * j) acc = .err 2 8000) := by
  intro k
  induction k with
  | zero =>
    intro j f acc hN hA hl hj hf
    have hsz : s.size = 2 * j := by have := hA.1; simp at this; omega
    obtain ⟨f, rfl⟩ : ∃ g, f = g + 1 := ⟨f - 1, by omega⟩
    rw [lexF_end s _ (by omega) (by omega)]
    exact ⟨fun _ => ⟨acc, rfl, by omega⟩, fun h => by omega⟩
  | succ k ih =>
    intro j f acc hN hA hl hj hf
    rw [List.replicate_succ, List.flatten_cons] at hA
    have h1 : At s (2 * j) (59 :: 32 :: (List.replicate k semiL).flatten) := hA
    have h0 := h1.head
    have h2 := h1.tail.head
    have h3 := h1.tail.tail
    obtain ⟨f, rfl⟩ : ∃ g, f = g + 1 := ⟨f - 1, by omega⟩
    have p0 : prefixB (s.extract (2 * j) s.size) ⟨#[40, 42]⟩ = false := by rw [openB s _ (by omega), h0.2]; simp
    rw [lexF_tok s _ h0.1 (by rw [h0.2]; rfl) ((remS_zero _).2 p0), tok_semi s _ h0.1 h0.2]
    simp only [Bool.true_eq_false, if_false]
    by_cases h4 : acc.length = 4000
    · rw [if_pos h4]
      have : j = 4000 := by omega
      subst this
      exact ⟨fun h => by omega, fun _ => rfl⟩
    · rw [if_neg h4, lexF_blank s _ h2.1 (by rw [h2.2]; rfl), show 2 * j + 1 + 1 = 2 * (j + 1) by omega]
      exact ih (j + 1) f _ (by omega) (by rw [show 2 * (j + 1) = 2 * j + 1 + 1 by omega]; exact h3) (by simp; omega) (by omega) (by omega)
theorem lex_blanks (s : ByteArray) : ∀ (k i f : Nat), At s i (List.replicate k 32) → s.size < f + i → lexF s f i [] = .ok [] := by
  intro k
  induction k with
  | zero =>
    intro i f hA hf
    have hsz : s.size = i := by have := hA.1; simp at this; omega
    obtain ⟨f, rfl⟩ : ∃ g, f = g + 1 := ⟨f - 1, by omega⟩
    rw [lexF_end s _ (by omega) (by omega)]
  | succ k ih =>
    intro i f hA hf
    rw [List.replicate_succ] at hA
    rw [lexF_blank s i hA.head.1 (by rw [hA.head.2]; rfl)]
    exact ih (i + 1) f hA.tail (by omega)
theorem byl_32 (n : Nat) : ByL (List.replicate n 32) := fun x hx => by have := List.eq_of_mem_replicate hx; omega
theorem lexR_blanks (n : Nat) : lexR (strOf (List.replicate n 32)) = if 16384 < n then .err 2 0 else .ok [] := by
  have hA := At.start _ (byl_32 n)
  have hsz : (strOf (List.replicate n 32)).size = n := by rw [strOf_size]; simp
  unfold lexR
  rw [hsz]
  by_cases h : 16384 < n
  · rw [if_pos h, if_pos h]
  · rw [if_neg h, if_neg h]
    exact lex_blanks _ n 0 _ hA (by rw [hsz]; omega)
theorem lexR_semi (n : Nat) (hn : n ≤ 5000) : (n ≤ 4000 → ∃ l, lexR (strOf (List.replicate n semiL).flatten) = .ok l ∧ l.length = n) ∧ (4000 < n → lexR (strOf (List.replicate n semiL).flatten) = .err 2 8000) := by
  have hA := At.start _ (byl_rep semiL byl_semi n)
  have hsz : (strOf (List.replicate n semiL).flatten).size = 2 * n := by rw [strOf_size, rep_len]; simp [semiL]; omega
  unfold lexR
  rw [if_neg (by omega)]
  exact lex_semi _ n n 0 _ [] (by omega) hA rfl (by omega) (by omega)
/-- The bytes of the law's second text, one after the other. -/
def patI (j : Nat) : Int := if j % 2 = 0 then 59 else 32
theorem pat_eq (n : Nat) : (List.range (2 * n)).map patI = (List.replicate n semiL).flatten := by
  induction n with
  | zero => rfl
  | succ n ih =>
    rw [show 2 * (n + 1) = 2 * n + 1 + 1 by omega, List.range_succ, List.range_succ, List.map_append, List.map_append, ih, List.replicate_succ', List.flatten_append]
    have e0 : patI (2 * n) = 59 := if_pos (by omega)
    have e1 : patI (2 * n + 1) = 32 := if_neg (by omega)
    simp [e0, e1, semiL]
end Go.Proofs.YtjbcjcibnjbpcaaDoor.Idl
namespace Go.Proofs.YtjbcjcibnjbpcaaDoor.Idl
open Go
set_option maxHeartbeats 16000000
set_option maxRecDepth 100000
set_option linter.unusedSimpArgs false
def rowB (l : List Int) : Blk := .cells (l.map (Value.int .u8)) 5 false
theorem bytesCells_strOf (l : List Int) (h : ByL l) : bytesCells (strOf l) = l.map (Value.int .u8) := by
  unfold bytesCells
  simp only [strOf, List.map_map]
  apply List.map_congr_left
  intro x hx
  have := h x hx
  have e : (UInt8.ofNat x.toNat).toNat = x.toNat := by rw [UInt8.toNat_ofNat']; omega
  simp only [Function.comp, e]
  congr 1
  omega
theorem conv_row (H : IH) (b cap : Nat) (l : List Int) (pr : Bool) (h : H.get b = some (.cells (l.map (Value.int .u8)) 5 pr)) : iconvert J 40 9 (.slice (some ⟨b, 0, none⟩) l.length cap) H = some (.string (strOf l), H) := by
  simp [iconvert, h, take_map, bytesOf_ints, strOf]
theorem rowB_store (done rest : List Int) (x c : Int) : overlay ((done ++ x :: rest).map (Value.int .u8)) done.length [.int .u8 c] = (done ++ c :: rest).map (Value.int .u8) := by
  unfold overlay
  have e1 : (done.map (Value.int IntKind.u8)).length = done.length := by simp
  rw [List.map_append, List.take_append_of_le_length (by simp), List.take_of_length_le (by simp), ← e1]
  rw [show (done.map (Value.int IntKind.u8)).length + [Value.int IntKind.u8 c].length = (done.map (Value.int IntKind.u8)).length + 1 from rfl, ← List.drop_drop, List.drop_left]
  simp
theorem loop11_0 (H : IH) (g c N : Nat) (hN : N ≤ 20000) (v0 : Value) : ∀ (k i : Nat) (T : Regs), i + k = N →
    T.at 0 = v0 → T.at 6 = .slice (some ⟨g, 0, none⟩) N c → T.at 26 = .int .i64 (N : Int) → T.at 27 = .int .i64 (i : Int) →
    ∃ T', run J okAll (.loop L11_0) T (H.set g (rowB (List.replicate i (32 : Int) ++ List.replicate k 0))) = some (.exit 0, T', H.set g (rowB (List.replicate N (32 : Int)))) ∧ T'.at 0 = v0 ∧ T'.at 6 = .slice (some ⟨g, 0, none⟩) N c := by
  intro k
  induction k with
  | zero =>
    intro i T hk t0 t6 t26 t27
    have hiN : i = N := by omega
    subst hiN
    rw [List.replicate_zero, List.append_nil, r_loop]
    simp [L11_0, t0, t6, t26, t27]
  | succ k ih =>
    intro i T hk t0 t6 t26 t27
    have hlt : i < N := by omega
    have w1 : IntKind.i64.wrap ((i : Int) + 1) = (i : Int) + 1 := wrap64 _ (by omega) (by omega)
    have hdl : (List.replicate i (32 : Int)).length = i := by simp
    have hgg : (H.set g (rowB (List.replicate i (32 : Int) ++ List.replicate (k + 1) 0))).get g = some (.cells ((List.replicate i (32 : Int) ++ (0 : Int) :: List.replicate k (0 : Int)).map (Value.int .u8)) 5 false) := by rw [IH.get_set_same]; rfl
    have hst := rowB_store (List.replicate i (32 : Int)) (List.replicate k 0) 0 (32)
    rw [hdl] at hst
    have hov : Blk.cells (overlay ((List.replicate i (32 : Int) ++ (0 : Int) :: List.replicate k (0 : Int)).map (Value.int .u8)) i [.int .u8 (32)]) 5 false = rowB (List.replicate (i + 1) (32 : Int) ++ List.replicate k 0) := by
      rw [hst, List.replicate_succ', List.append_assoc]; rfl
    have hln : ((List.replicate i (32 : Int) ++ (0 : Int) :: List.replicate k (0 : Int)).map (Value.int IntKind.u8)).length = N := by simp; omega
    generalize ((List.replicate i (32 : Int) ++ (0 : Int) :: List.replicate k (0 : Int)).map (Value.int IntKind.u8)) = row at *
    have hle : i + 1 ≤ row.length := by omega
    have : ∃ T1, run J okAll (.loop L11_0) T (H.set g (rowB (List.replicate i (32 : Int) ++ List.replicate (k + 1) 0))) = run J okAll (.loop L11_0) T1 (H.set g (rowB (List.replicate (i + 1) (32 : Int) ++ List.replicate k 0))) ∧ T1.at 0 = v0 ∧ T1.at 6 = .slice (some ⟨g, 0, none⟩) N c ∧ T1.at 26 = .int .i64 (N : Int) ∧ T1.at 27 = .int .i64 ((i : Int) + 1) := by
      rw [← hov]
      generalize rowB (List.replicate i (32 : Int) ++ List.replicate (k + 1) 0) = X0 at hgg ⊢
      rw [r_loop]
      simp [L11_0, t0, t6, t26, t27, hlt, w1, iindexAddr, hgg, hle, istore, Value.cells, plain1]
      exact ⟨_, rfl, by simp [t0], by simp [t6], by simp [t26], by simp⟩
    obtain ⟨T1, e0, f0, f6, f26, f27⟩ := this
    rw [e0]
    exact ih (i + 1) T1 (by omega) f0 f6 f26 (by rw [f27]; simp)
theorem loop11_1 (H : IH) (g c N : Nat) (hN : N ≤ 20000) (v0 : Value) : ∀ (k i : Nat) (T : Regs), i + k = N →
    T.at 0 = v0 → T.at 11 = .slice (some ⟨g, 0, none⟩) N c → T.at 67 = .int .i64 (N : Int) → T.at 68 = .int .i64 (i : Int) →
    ∃ T', run J okAll (.loop L11_1) T (H.set g (rowB ((List.range i).map patI ++ List.replicate k 0))) = some (.exit 2, T', H.set g (rowB ((List.range N).map patI))) ∧ T'.at 0 = v0 ∧ T'.at 11 = .slice (some ⟨g, 0, none⟩) N c := by
  intro k
  induction k with
  | zero =>
    intro i T hk t0 t11 t67 t68
    have hiN : i = N := by omega
    subst hiN
    rw [List.replicate_zero, List.append_nil, r_loop]
    simp [L11_1, t0, t11, t67, t68]
  | succ k ih =>
    intro i T hk t0 t11 t67 t68
    have hlt : i < N := by omega
    have w1 : IntKind.i64.wrap ((i : Int) + 1) = (i : Int) + 1 := wrap64 _ (by omega) (by omega)
    have hdl : ((List.range i).map patI).length = i := by simp
    have hgg : (H.set g (rowB ((List.range i).map patI ++ List.replicate (k + 1) 0))).get g = some (.cells (((List.range i).map patI ++ (0 : Int) :: List.replicate k (0 : Int)).map (Value.int .u8)) 5 false) := by rw [IH.get_set_same]; rfl
    have hrs : (List.range (i + 1)).map patI = (List.range i).map patI ++ [patI i] := by rw [List.range_succ, List.map_append]; rfl
    have hrem : (i : Int).tmod 2 = (i : Int) % 2 := Int.tmod_eq_emod_of_nonneg (by omega)
    have hpx : idxS ⟨#[59, 32]⟩ ((i : Int) % 2) = some (.int .u8 (patI i)) := by
      unfold patI
      rcases (by omega : i % 2 = 0 ∨ i % 2 = 1) with h | h
      · rw [show (i : Int) % 2 = 0 by omega, h]; rfl
      · rw [show (i : Int) % 2 = 1 by omega, h]; rfl
    have hst := rowB_store ((List.range i).map patI) (List.replicate k 0) 0 (patI i)
    rw [hdl] at hst
    have hov : Blk.cells (overlay (((List.range i).map patI ++ (0 : Int) :: List.replicate k (0 : Int)).map (Value.int .u8)) i [.int .u8 (patI i)]) 5 false = rowB ((List.range (i + 1)).map patI ++ List.replicate k 0) := by
      rw [hst, hrs, List.append_assoc]; rfl
    have hln : (((List.range i).map patI ++ (0 : Int) :: List.replicate k (0 : Int)).map (Value.int IntKind.u8)).length = N := by simp; omega
    generalize (((List.range i).map patI ++ (0 : Int) :: List.replicate k (0 : Int)).map (Value.int IntKind.u8)) = row at *
    have hle : i + 1 ≤ row.length := by omega
    have : ∃ T1, run J okAll (.loop L11_1) T (H.set g (rowB ((List.range i).map patI ++ List.replicate (k + 1) 0))) = run J okAll (.loop L11_1) T1 (H.set g (rowB ((List.range (i + 1)).map patI ++ List.replicate k 0))) ∧ T1.at 0 = v0 ∧ T1.at 11 = .slice (some ⟨g, 0, none⟩) N c ∧ T1.at 67 = .int .i64 (N : Int) ∧ T1.at 68 = .int .i64 ((i : Int) + 1) := by
      rw [← hov]
      generalize rowB ((List.range i).map patI ++ List.replicate (k + 1) 0) = X0 at hgg ⊢
      rw [r_loop]
      simp [L11_1, t0, t11, t67, t68, hlt, w1, iindexAddr, hgg, hle, istore, Value.cells, plain1, hrem, hpx]
      exact ⟨_, rfl, by simp [t0], by simp [t11], by simp [t67], by simp⟩
    obtain ⟨T1, e0, f0, f11, f67, f68⟩ := this
    rw [e0]
    exact ih (i + 1) T1 (by omega) f0 f11 f67 (by rw [f68]; simp)
end Go.Proofs.YtjbcjcibnjbpcaaDoor.Idl
namespace Go.Proofs.YtjbcjcibnjbpcaaDoor.Idl
open Go
set_option maxHeartbeats 16000000
set_option maxRecDepth 100000
set_option linter.unusedSimpArgs false
theorem zeros_row (n : Nat) : Blk.cells (List.replicate n (Value.int .u8 0)) 5 false = rowB (List.replicate n 0) := by
  unfold rowB
  rw [List.map_replicate]
theorem byl_0 (n : Nat) : ByL (List.replicate n 0) := fun x hx => by have := List.eq_of_mem_replicate hx; omega
theorem c11 (H : IH) (hG : Glob H) (n : Int) (wide : Bool) : ∃ H', Fr H.next H H' ∧ cal J okAll 11 #[.int .i64 n, .bool wide] H = some (.ret (.bool true), H') := by
  have h9 := hG.2.2
  obtain ⟨N, hN⟩ : ∃ N : Nat, max 0 (min n 20000) = (N : Int) := ⟨(max 0 (min n 20000)).toNat, by omega⟩
  have hN2 : N ≤ 20000 := by omega
  cases wide with
  | true =>
    have hlx := lexR_blanks N
    have hmk := mk40 H N (by omega)
    rw [zeros_row] at hmk
    have hc1 := conv_row (H.push (rowB (List.replicate N 0))) H.next N (List.replicate N 0) false (IH.get_push_same H _)
    rw [List.length_replicate] at hc1
    have hc2 := iconvert_str (strOf (List.replicate N 0)) (H.push (rowB (List.replicate N 0)))
    rw [strOf_size, List.length_replicate, bytesCells_strOf _ (byl_0 N)] at hc2
    have hrb : Blk.cells ((List.replicate N (0 : Int)).map (Value.int .u8)) 5 false = rowB (List.replicate N 0) := rfl
    rw [hrb] at hc2
    have k0 := fun T => loop11_0 ((H.push (rowB (List.replicate N 0))).push (rowB (List.replicate N 0))) (H.next + 1) capU N hN2 (.int .i64 (N : Int)) N 0 T (by omega)
    simp only [List.replicate_zero, List.nil_append] at k0
    rw [show ((H.push (rowB (List.replicate N 0))).push (rowB (List.replicate N 0))).set (H.next + 1) (rowB (List.replicate N 0)) = (H.push (rowB (List.replicate N 0))).push (rowB (List.replicate N 0)) from push_set (H.push (rowB (List.replicate N 0))) _ _,
      show ((H.push (rowB (List.replicate N 0))).push (rowB (List.replicate N 0))).set (H.next + 1) (rowB (List.replicate N 32)) = (H.push (rowB (List.replicate N 0))).push (rowB (List.replicate N 32)) from push_set (H.push (rowB (List.replicate N 0))) _ _] at k0
    have hc3 := conv_row ((H.push (rowB (List.replicate N 0))).push (rowB (List.replicate N 32))) (H.next + 1) capU (List.replicate N 32) false (IH.get_push_same (H.push (rowB (List.replicate N 0))) _)
    rw [List.length_replicate] at hc3
    have f0 : Fr H.next H ((H.push (rowB (List.replicate N 0))).push (rowB (List.replicate N 32))) := ((Fr.refl _ _).push (Nat.le_refl _) _).push (by simp) _
    generalize hH2 : (H.push (rowB (List.replicate N 0))).push (rowB (List.replicate N 32)) = H2 at *
    have hG2 := hG.mono h9 f0
    have hsz : (strOf (List.replicate N 32)).size < 2 ^ 39 := by rw [strOf_size, List.length_replicate]; omega
    obtain ⟨H3, v3, f3, e3, hv3⟩ := c13 H2 (strOf (List.replicate N 32)) hG2 hsz
    rw [hlx] at e3
    obtain ⟨H4, f4, e4⟩ := c16 H3 (hG2.mono (Nat.le_trans h9 f0.1) f3)
    refine ⟨H4, (f0.trans' f3 f0.1).trans' f4 (Nat.le_trans f0.1 f3.1), ?_⟩
    rw [cal11 _ _ (by simp)]
    simp [C11, R11, regsOf, fin, iresult1, hN, hmk, hc1, hc2]
    generalize hX : run J okAll (.loop L11_0) _ _ = X
    obtain ⟨T1, x1, t0, t6, t26, t27⟩ : ∃ T1, run J okAll (.loop L11_0) T1 ((H.push (rowB (List.replicate N 0))).push (rowB (List.replicate N 0))) = X ∧ T1.at 0 = .int .i64 (N : Int) ∧ T1.at 6 = .slice (some ⟨H.next + 1, 0, none⟩) N capU ∧ T1.at 26 = .int .i64 (N : Int) ∧ T1.at 27 = .int .i64 ((0 : Nat) : Int) :=
      ⟨_, hX, by simp, by simp, by simp, by simp⟩
    obtain ⟨T2, r1, b0, b6⟩ := k0 T1 t0 t6 t26 t27
    rw [← x1, r1]
    by_cases hbig : 16384 < N
    · rw [if_pos hbig] at e3
      have hb2 : ¬ (N : Int) ≤ 16384 := by omega
      simp only [LR.errno, LR.pos] at e3
      simp [b0, b6, hc3, e3, e4, hb2, fin, iresult1]
    · rw [if_neg hbig] at e3
      have hb2 : (N : Int) ≤ 16384 := by omega
      simp only [LR.errno, LR.pos] at e3
      simp [b0, b6, hc3, e3, e4, hb2, fin, iresult1]
  | false =>
    obtain ⟨M, hM⟩ : ∃ M : Nat, min (N : Int) 5000 = (M : Int) := ⟨min N 5000, by omega⟩
    have hM5 : M ≤ 5000 := by omega
    have w2 : IntKind.i64.wrap (2 * (M : Int)) = 2 * (M : Int) := wrap64 _ (by omega) (by omega)
    have hlx := lexR_semi M hM5
    have hmk := mk40 H (2 * M) (by omega)
    rw [zeros_row] at hmk
    push_cast at hmk
    have k0 := fun T => loop11_1 (H.push (rowB (List.replicate (2 * M) 0))) H.next (2 * M) (2 * M) (by omega) (.int .i64 (M : Int)) (2 * M) 0 T (by omega)
    simp only [List.range_zero, List.map_nil, List.nil_append] at k0
    rw [push_set, push_set, pat_eq] at k0
    have hpl : ((List.replicate M semiL).flatten).length = 2 * M := by rw [rep_len]; simp [semiL]; omega
    have hc3 := conv_row (H.push (rowB (List.replicate M semiL).flatten)) H.next (2 * M) (List.replicate M semiL).flatten false (IH.get_push_same H _)
    rw [hpl] at hc3
    have f0 : Fr H.next H (H.push (rowB (List.replicate M semiL).flatten)) := (Fr.refl _ _).push (Nat.le_refl _) _
    generalize hH2 : H.push (rowB (List.replicate M semiL).flatten) = H2 at *
    have hG2 := hG.mono h9 f0
    have hsz : (strOf (List.replicate M semiL).flatten).size < 2 ^ 39 := by rw [strOf_size, hpl]; omega
    obtain ⟨H3, v3, f3, e3, hv3⟩ := c13 H2 (strOf (List.replicate M semiL).flatten) hG2 hsz
    obtain ⟨H4, f4, e4⟩ := c16 H3 (hG2.mono (Nat.le_trans h9 f0.1) f3)
    refine ⟨H4, (f0.trans' f3 f0.1).trans' f4 (Nat.le_trans f0.1 f3.1), ?_⟩
    rw [cal11 _ _ (by simp)]
    simp [C11, R11, regsOf, fin, iresult1, hN, hM, w2, hmk]
    generalize hX : run J okAll (.loop L11_1) _ _ = X
    obtain ⟨T1, x1, t0, t11, t67, t68⟩ : ∃ T1, run J okAll (.loop L11_1) T1 (H.push (rowB (List.replicate (2 * M) 0))) = X ∧ T1.at 0 = .int .i64 (M : Int) ∧ T1.at 11 = .slice (some ⟨H.next, 0, none⟩) (2 * M) (2 * M) ∧ T1.at 67 = .int .i64 ((2 * M : Nat) : Int) ∧ T1.at 68 = .int .i64 ((0 : Nat) : Int) :=
      ⟨_, hX, by simp, by simp, by simp, by simp⟩
    obtain ⟨T2, r1, b0, b11⟩ := k0 T1 t0 t11 t67 t68
    rw [← x1, r1]
    by_cases hbig : 4000 < M
    · have hr := hlx.2 hbig
      rw [hr] at e3 hv3
      obtain ⟨ba, cv, rfl⟩ := hv3.slice
      have hb2 : (4000 : Int) < M := by omega
      simp only [LR.errno, LR.pos, LR.toks, List.length_nil] at e3
      simp [b0, b11, hc3, e3, e4, hb2, hbig, fin, iresult1]
    · obtain ⟨l, hr, hll⟩ := hlx.1 (by omega)
      rw [hr] at e3 hv3
      obtain ⟨ba, cv, rfl⟩ := hv3.slice
      have hb2 : ¬ (4000 : Int) < M := by omega
      simp only [LR.errno, LR.pos, LR.toks, hll] at e3
      simp [b0, b11, hc3, e3, e4, hb2, hbig, fin, iresult1]
end Go.Proofs.YtjbcjcibnjbpcaaDoor.Idl
namespace Go.Proofs.YtjbcjcibnjbpcaaDoor
open Go Go.ChangeShapes Go.WideShapes Go.ChangeAt Go.RowKit
set_option maxRecDepth 100000
theorem own : ownKnob Tryd.prog.godebug = .none := by kernel_rfl
theorem und4 : Tryd.prog.underlying 4 = some .bool := by kernel_rfl
theorem und3 : Tryd.prog.underlying 3 = some (.int .i64) := by kernel_rfl
theorem open_bool {H : Type} {enc : TypeId × Value → H} {W : World} {r : Reach} {b0 base : Nat} {sp : Nat → Bool} {held : Bool} {v : Value} {d : DataW H} {ps : List MemPlace} (hval : Value.okWide Tryd.prog W r b0 4 v) (hd : DataW.Trod enc Tryd.prog W base sp held 4 v d ps) : ∃ b : Bool, v = .bool b ∧ d = .lit (.bool b) ∧ ps = [] := by
  obtain ⟨b, rfl⟩ := okWide_bool und4 hval
  obtain ⟨fuel, hf⟩ := hd
  obtain ⟨b', h, hx⟩ := DataW.trod_bool und4 hf
  simp [Value.cells] at h
  subst h
  cases hx
  exact ⟨b, rfl, rfl, rfl⟩
theorem laidH (W : World) : laidMetH Tryd.prog Rows.lexLimitsRow.laid W = laidMet Tryd.prog Rows.lexLimitsRow.laid W := MakeChecks.laidMetH_plain _ _ _ (by kernel_rfl)
theorem func11 : Tryd.prog.funcs[11]? = some Tryd.f11 := by kernel_rfl
theorem params11 : Tryd.f11.params = #[3, 4] := by kernel_rfl
theorem law11 {W : World} (hL : laidMet Tryd.prog Rows.lexLimitsRow.laid W) (x0 : Int) (x1 : Bool) : Calls Tryd.prog 11 #[.int .i64 x0, .bool x1] W fun e W' => e = .returned (.bool true) ∧ Below W.heap.size W W' := by
  obtain ⟨H', _, hc⟩ := Idl.c11 Idl.H0 Idl.H0_glob x0 x1
  exact Idl.law_calls hL rfl hc
theorem lifted11 (os : Os) (started : os.Started) (H : Type) (enc : TypeId × Value → H) :
    ReturnsInHanded {} Tryd.checked os 11 .any (fun w args => (Rows.lexLimitsSpec.pre enc Tryd.prog Tryd.f11 [] false w args ∧ laidMetH Tryd.prog Rows.lexLimitsRow.laid w) ∧ sizedMet enc Tryd.prog Tryd.f11 (OpenSpec.ofChange Rows.lexLimitsSpec) false w args)
      (Rows.lexLimitsSpec.post enc Tryd.prog Tryd.f11 false true false false) := by
  refine returnsInHanded_of_change_and (C := Tryd.checked) (X := fun w _ => laidMetH Tryd.prog Rows.lexLimitsRow.laid w) (fun _ _ _ hh h => h.of_heap hh) own started (by kernel_rfl) func11
    (ChangeSpec.witness_shaped (enc := enc) (C := Tryd.checked) (os := os) (X := fun w _ => laidMetH Tryd.prog Rows.lexLimitsRow.laid w) false (World.laidAll Tryd.prog os Rows.lexLimitsRow.laid) #[.int .i64 0, .bool false] 8 (World.laidAll_os _ _ _)
      (World.shaped_of_ZipB (by kernel_rfl) (by kernel_rfl)) (by kernel_rfl) (by kernel_rfl) (by kernel_rfl)
      (by rw [laidH]; exact laidMet_laidAll _ (by kernel_rfl) (by kernel_rfl))) ?_
  intro W base args ds gs before hval0 hW hc _ hL _
  have hval : ∀ (j : Nat) t v, Tryd.f11.params[j]? = some t → args[j]? = some v → Value.okWide Tryd.prog W .any base t v := hval0
  have hW' := hW
  obtain ⟨p, q, hA0, hV, rfl, _, _⟩ := hW
  have hA : DataW.TrodAll enc Tryd.prog W 0 (fun _ => true) true Tryd.f11.params.toList args.toList ds p := hA0
  rw [params11] at hA hval
  obtain ⟨v0, v1, d0, d1, p0, p1, rfl, rfl, rfl, h0, h1⟩ := trodAll_two hA
  obtain ⟨rfl, rfl⟩ := trodVars_none hV
  obtain ⟨x0, rfl, rfl, rfl, hs0⟩ := open_int und3 (hval 0 3 v0 rfl rfl) h0
  obtain ⟨x1, rfl, rfl, rfl⟩ := open_bool (hval 1 4 v1 rfl rfl) h1
  simp only [List.append_nil] at hW'
  rw [laidH] at hL
  refine (law11 hL x0 x1).mono fun e W' ⟨he, hB⟩ => ?_
  subst he
  refine ⟨_, rfl, _, _, _, [], [], [], hW', ?_, ?_, ?_, Idl.keptBut_of_below hB _, fun h => by cases h⟩
  · exact trodAll_mk1 (shut_bool und4 true)
  · exact trodAll_mk2 (shut_int und3 hs0) (shut_bool und4 _)
  · rfl
theorem lexLimits_holds : Rows.LexLimitsSaid :=
  OpenClaim.holds_of_wide 11 Tryd.f11 rfl rfl rfl rfl rfl rfl rfl ⟨rfl, rfl, rfl, rfl, rfl⟩ rfl rfl rfl rfl rfl (by kernel_rfl) func11 (by kernel_rfl)
    (of_decide_eq_true (by kernel_rfl)) (by unfold Func.isWrapper; first | (rw [if_pos (by decide +kernel)]; kernel_rfl) | (rw [if_neg (by decide +kernel)]; exact ⟨rfl, rfl⟩))
    (fun os started H enc _ => lifted11 os started H enc)
theorem lexLimits_card : Rows.LexLimitsCardSaid :=
  Claim7.holds_tied_plain_at .later [] [.data, .data, .data, .sentinel, .sentinel, .listed, .data] true (true, "17391ddf44905ff62b8b72145bd5a67fc3f5c2f6327286b0eb46ce065c3c73e4") true
    lexLimits_holds (fun _ h => by cases h) (by kernel_rfl) (fun _ h => by cases h) lexLimits_row_tie rfl ⟨rfl, rfl⟩ (by kernel_rfl) rfl
    (fun f fn hf hfn => by
      obtain rfl : f = 11 := Option.some.inj ((show Tryd.prog.funcNamed "bellows/bellowslaw07.LexLimits" = some 11 by kernel_rfl).symm.trans hf) |>.symm
      obtain rfl : fn = Tryd.f11 := (Option.some.inj (func11.symm.trans hfn)).symm
      exact ⟨by kernel_rfl, fun j t ht => by
        rw [params11] at ht
        have hm : t ∈ [3, 4] := by simpa using Array.mem_of_getElem? ht
        have hall : ([3, 4].all fun u => !Tryd.prog.wantsStandIn u) = true := by kernel_rfl
        have := List.all_eq_true.1 hall t hm
        exact (show Tryd.prog.wantsStandIn t = false by simpa using this)⟩)
    (by kernel_rfl)
#print axioms lexLimits_card
end Go.Proofs.YtjbcjcibnjbpcaaDoor
