/- LexBack: the tokens of any text, printed, are cut into the same ones, and print the same: for every text the law answers true: the row, and its card, tied to the program's text. Conditions: none but the row's own (the listed variables hold what the program's text lays). -/
import Derived.Test.YtjbcjcibnjbpcaaDoorP4
import Derived.Test.YtjbcjcibnjbpcaaDoorCards
import Derived.ChangeMaps5
namespace Go.Proofs.YtjbcjcibnjbpcaaDoor.Idl
open Go
set_option maxHeartbeats 16000000
set_option maxRecDepth 100000
set_option linter.unusedSimpArgs false
/-- A row of bytes that append made, or a literal. -/
def BsE (H : IH) (v : Value) (l : List Int) (lo g : Nat) : Prop :=
  ∃ b c, (lo ≤ b ∧ b ≠ g) ∧ b < H.next ∧ v = .slice (some ⟨b, 0, none⟩) l.length c ∧ (c = capU ∨ c = l.length) ∧ H.get b = some (.cells (l.map (Value.int .u8)) 5 false)
theorem appK {H : IH} {v : Value} {l : List Int} {lo g : Nat} (hv : BsE H v l lo g) (hlo : lo ≤ H.next) (hg : g < H.next) (m : List Int) (hm : 0 < m.length) (hl : l.length + m.length < 2 ^ 40) :
    ∃ v' H', iappend J #[40, 40] v (.slice (some ⟨H.next, 0, none⟩) m.length m.length) (H.push (.cells (m.map (Value.int .u8)) 5 false)) = some (v', H') ∧ BsE H' v' (l ++ m) lo g ∧ H.next ≤ H'.next ∧ ∀ x, x < lo ∨ x = g → H'.get x = H.get x := by
  obtain ⟨b, c, h1, h2, rfl, h3, h4⟩ := hv
  have hb : (H.push (.cells (m.map (Value.int .u8)) 5 false)).get b = some (.cells (l.map (Value.int .u8)) 5 false) := by rw [IH.get_push_other _ _ _ h2]; exact h4
  have hcap : ((l.length + m.length) * 3 ≤ 140737488355328) := by omega
  have hmz : ¬ m.length = 0 := by omega
  have hmt := take_map m
  have hlt := take_map l
  have hcl : (List.map (Value.int IntKind.u8) l ++ List.map (Value.int IntKind.u8) m) = (l ++ m).map (Value.int .u8) := by rw [List.map_append]
  rcases h3 with rfl | rfl
  · refine ⟨.slice (some ⟨H.next + 1, 0, none⟩) (l.length + m.length) capU, ((H.push (.cells (m.map (Value.int .u8)) 5 false)).set b .dead).push (.cells ((l ++ m).map (Value.int .u8)) 5 false), ?_, ⟨H.next + 1, capU, ⟨by omega, by omega⟩, by simp, by simp, .inl rfl, ?_⟩, by simp; omega, fun x hx => ?_⟩
    · simp [iappend, ilenOf, ifirst, Value.cells, hb, plain1, hcap, capU, hmt, hlt, hmz]
    · have : H.next + 1 = ((H.push (.cells (m.map (Value.int .u8)) 5 false)).set b .dead).next := rfl
      rw [this, IH.get_push_same]
    · rw [IH.get_push_other _ _ _ (by simp; omega), IH.get_set_other _ _ _ _ (by omega), IH.get_push_other _ _ _ (by omega)]
  · have hne : ¬ l.length = capU := by unfold capU; omega
    have hgt : ¬ l.length + m.length ≤ l.length := by omega
    refine ⟨.slice (some ⟨H.next + 1, 0, none⟩) (l.length + m.length) capU, (H.push (.cells (m.map (Value.int .u8)) 5 false)).push (.cells ((l ++ m).map (Value.int .u8)) 5 false), ?_, ⟨H.next + 1, capU, ⟨by omega, by omega⟩, by simp, by simp, .inl rfl, ?_⟩, by simp; omega, fun x hx => ?_⟩
    · simp [iappend, ilenOf, ifirst, Value.cells, hb, plain1, hcap, hmt, hlt, hmz, hne]
      exact hm
    · have : H.next + 1 = (H.push (.cells (m.map (Value.int .u8)) 5 false)).next := rfl
      rw [this, IH.get_push_same]
    · rw [IH.get_push_other _ _ _ (by simp; omega), IH.get_push_other _ _ _ (by omega)]
theorem bld2 (H : IH) (a b : Int) : ibuildSlice J 40 2 [(0, .int .u8 a), (1, .int .u8 b)] H = some (.slice (some ⟨H.next, 0, none⟩) 2 2, H.push (.cells [.int .u8 a, .int .u8 b] 5 false)) := by kernel_rfl
theorem bld4 (H : IH) (a b c d : Int) : ibuildSlice J 40 4 [(0, .int .u8 a), (1, .int .u8 b), (2, .int .u8 c), (3, .int .u8 d)] H = some (.slice (some ⟨H.next, 0, none⟩) 4 4, H.push (.cells [.int .u8 a, .int .u8 b, .int .u8 c, .int .u8 d] 5 false)) := by kernel_rfl
theorem conv_bse {H : IH} {v : Value} {l : List Int} {lo g : Nat} (hv : BsE H v l lo g) : iconvert J 40 9 v H = some (.string (strOf l), H) := by
  obtain ⟨b, c, _, _, rfl, _, h4⟩ := hv
  exact conv_row H b c l false h4
theorem loop28 (g c lo : Nat) (s : ByteArray) (hs : s.size ≤ 100000) : ∀ (n i : Nat) (l : List Int) (H : IH) (v : Value) (T : Regs), s.size - i = n → i ≤ s.size → l.length ≤ 1 + 4 * i → lo ≤ H.next → g < H.next → BsE H v l lo g → H.get g = some (.cells (bytesCells s) 5 false) →
    T.at 3 = v → T.at 8 = .slice (some ⟨g, 0, none⟩) s.size c → T.at 9 = .int .i64 (s.size : Int) → T.at 10 = .int .i64 (i : Int) →
    ∃ T' H' v', run J okAll (.loop L28_0) T H = some (.exit 0, T', H') ∧ BsE H' v' (l ++ ((bytesI s).drop i).flatMap quoC) lo g ∧ H.next ≤ H'.next ∧ (∀ x, x < lo ∨ x = g → H'.get x = H.get x) ∧ T'.at 3 = v' := by
  intro n
  induction n with
  | zero =>
    intro i l H v T hn hi hl hlo hg hv hgg t3 t8 t9 t10
    have hlt : ¬ ((i : Int) < s.size) := by omega
    have hd : (bytesI s).drop i = [] := List.drop_of_length_le (by rw [bytesI_length]; omega)
    have : ∃ T', run J okAll (.loop L28_0) T H = some (.exit 0, T', H) ∧ T'.at 3 = v := by
      rw [r_loop]
      simp [L28_0, t3, t8, t9, t10, hlt]
    obtain ⟨T', e, a⟩ := this
    exact ⟨T', H, v, e, by rw [hd]; simpa using hv, Nat.le_refl _, fun _ _ => rfl, a⟩
  | succ n ih =>
    intro i l H v T hn hi hl hlo hg hv hgg t3 t8 t9 t10
    have hlt : i < s.size := by omega
    have w1 : IntKind.i64.wrap ((i : Int) + 1) = (i : Int) + 1 := wrap64 _ (by omega) (by omega)
    have hd : (bytesI s).drop i = bt s i :: (bytesI s).drop (i + 1) := by
      rw [List.drop_eq_getElem_cons (by rw [bytesI_length]; exact hlt)]
      congr 1
      have := bt_eq s i hlt
      rw [← this]
      simp [bytesI]
      rfl
    have hr := bt_range s i
    have hcell := bytesCells_get s i hlt
    rw [hd, List.flatMap_cons]
    generalize bt s i = ch at *
    have go : ∀ m : List Int, quoC ch = m → 0 < m.length → m.length ≤ 4 → (∀ v' H', iappend J #[40, 40] v (.slice (some ⟨H.next, 0, none⟩) m.length m.length) (H.push (.cells (m.map (Value.int .u8)) 5 false)) = some (v', H') → ∃ T1, run J okAll (.loop L28_0) T H = run J okAll (.loop L28_0) T1 H' ∧ T1.at 3 = v' ∧ T1.at 8 = .slice (some ⟨g, 0, none⟩) s.size c ∧ T1.at 9 = .int .i64 (s.size : Int) ∧ T1.at 10 = .int .i64 ((i : Int) + 1)) →
        ∃ T' H' v', run J okAll (.loop L28_0) T H = some (.exit 0, T', H') ∧ BsE H' v' (l ++ (quoC ch ++ ((bytesI s).drop (i + 1)).flatMap quoC)) lo g ∧ H.next ≤ H'.next ∧ (∀ x, x < lo ∨ x = g → H'.get x = H.get x) ∧ T'.at 3 = v' := by
      intro m hq hm0 hm4 hrun
      obtain ⟨v1, H1, ea, hv1, hn1, hf1⟩ := appK hv hlo hg m hm0 (by omega)
      obtain ⟨T1, e0, f3, f8, f9, f10⟩ := hrun v1 H1 ea
      obtain ⟨T', H', v', r1, r2, r3, r4, r5⟩ := ih (i + 1) (l ++ m) H1 v1 T1 (by omega) (by omega) (by rw [List.length_append]; omega) (by omega) (by omega) hv1 (by rw [hf1 g (.inr rfl)]; exact hgg) f3 f8 f9 (by rw [f10]; simp)
      refine ⟨T', H', v', by rw [e0, r1], ?_, by omega, fun x hx => by rw [r4 x hx, hf1 x hx], r5⟩
      rw [hq, ← List.append_assoc]; exact r2
    have fin : ∀ T0 : Regs, True := fun _ => trivial
    by_cases c1 : ch = 34 ∨ ch = 92
    · refine go [92, ch] (if_pos c1) (by simp) (by simp) (fun v' H' ea => ?_)
      simp only [List.map_cons, List.map_nil, List.length_cons, List.length_nil, Nat.zero_add] at ea
      rw [r_loop]
      rcases c1 with rfl | rfl
      · simp [L28_0, t3, t8, t9, t10, hlt, w1, iindexAddr, hgg, hcell, iparts, bld2, ea, guard_undef]
        exact ⟨_, rfl, by simp, by simp [t8], by simp [t9], by simp⟩
      · simp [L28_0, t3, t8, t9, t10, hlt, w1, iindexAddr, hgg, hcell, iparts, bld2, ea, guard_undef]
        exact ⟨_, rfl, by simp, by simp [t8], by simp [t9], by simp⟩
    · have d1 : decide (ch = 34) = false := decide_eq_false (fun e => c1 (.inl e))
      have d2 : decide (ch = 92) = false := decide_eq_false (fun e => c1 (.inr e))
      by_cases c3 : ch = 10
      · refine go [92, 110] (by unfold quoC; rw [if_neg c1, if_pos c3]) (by simp) (by simp) (fun v' H' ea => ?_)
        simp only [List.map_cons, List.map_nil, List.length_cons, List.length_nil, Nat.zero_add] at ea
        subst c3
        rw [r_loop]
        simp [L28_0, t3, t8, t9, t10, hlt, w1, iindexAddr, hgg, hcell, iparts, bld2, ea, guard_undef]
        exact ⟨_, rfl, by simp, by simp [t8], by simp [t9], by simp⟩
      · have d3 : decide (ch = 10) = false := decide_eq_false c3
        by_cases c4 : ch = 9
        · refine go [92, 116] (by unfold quoC; rw [if_neg c1, if_neg c3, if_pos c4]) (by simp) (by simp) (fun v' H' ea => ?_)
          simp only [List.map_cons, List.map_nil, List.length_cons, List.length_nil, Nat.zero_add] at ea
          subst c4
          rw [r_loop]
          simp [L28_0, t3, t8, t9, t10, hlt, w1, iindexAddr, hgg, hcell, iparts, bld2, ea, guard_undef]
          exact ⟨_, rfl, by simp, by simp [t8], by simp [t9], by simp⟩
        · have d4 : decide (ch = 9) = false := decide_eq_false c4
          by_cases c5 : ch < 32 ∨ 126 < ch
          · refine go [92, 48 + ch / 100, 48 + ch / 10 % 10, 48 + ch % 10] (by unfold quoC; rw [if_neg c1, if_neg c3, if_neg c4, if_pos c5]) (by simp) (by simp) (fun v' H' ea => ?_)
            simp only [List.map_cons, List.map_nil, List.length_cons, List.length_nil, Nat.zero_add] at ea
            have q1 : IntKind.u8.wrap (ch.tdiv 100) = ch / 100 := by rw [Int.tdiv_eq_ediv_of_nonneg hr.1]; exact wrap8 _ (by omega) (by omega)
            have q2 : IntKind.u8.wrap (ch.tdiv 10) = ch / 10 := by rw [Int.tdiv_eq_ediv_of_nonneg hr.1]; exact wrap8 _ (by omega) (by omega)
            have q3 : (ch / 10).tmod 10 = ch / 10 % 10 := Int.tmod_eq_emod_of_nonneg (by omega)
            have q4 : ch.tmod 10 = ch % 10 := Int.tmod_eq_emod_of_nonneg hr.1
            have q5 : IntKind.u8.wrap (48 + ch / 100) = 48 + ch / 100 := wrap8 _ (by omega) (by omega)
            have q6 : IntKind.u8.wrap (48 + ch / 10 % 10) = 48 + ch / 10 % 10 := wrap8 _ (by omega) (by omega)
            have q7 : IntKind.u8.wrap (48 + ch % 10) = 48 + ch % 10 := wrap8 _ (by omega) (by omega)
            rw [r_loop]
            by_cases c6 : ch < 32
            · have d5 : decide (ch < 32) = true := decide_eq_true c6
              simp [L28_0, t3, t8, t9, t10, hlt, w1, iindexAddr, hgg, hcell, iparts, bld4, ea, guard_undef, d1, d2, d3, d4, d5, q1, q2, q3, q4, q5, q6, q7]
              exact ⟨_, rfl, by simp, by simp [t8], by simp [t9], by simp⟩
            · have d5 : decide (ch < 32) = false := decide_eq_false c6
              have d6 : decide (126 < ch) = true := decide_eq_true (by omega)
              simp [L28_0, t3, t8, t9, t10, hlt, w1, iindexAddr, hgg, hcell, iparts, bld4, ea, guard_undef, d1, d2, d3, d4, d5, d6, q1, q2, q3, q4, q5, q6, q7]
              exact ⟨_, rfl, by simp, by simp [t8], by simp [t9], by simp⟩
          · refine go [ch] (by unfold quoC; rw [if_neg c1, if_neg c3, if_neg c4, if_neg c5]) (by simp) (by simp) (fun v' H' ea => ?_)
            simp only [List.map_cons, List.map_nil, List.length_cons, List.length_nil, Nat.zero_add] at ea
            have d5 : decide (ch < 32) = false := decide_eq_false (by omega)
            have d6 : decide (126 < ch) = false := decide_eq_false (by omega)
            have hb1 := build1 bt40 H ch
            rw [r_loop]
            simp [L28_0, t3, t8, t9, t10, hlt, w1, iindexAddr, hgg, hcell, iparts, hb1, ea, guard_undef, d1, d2, d3, d4, d5, d6]
            exact ⟨_, rfl, by simp, by simp [t8], by simp [t9], by simp⟩
end Go.Proofs.YtjbcjcibnjbpcaaDoor.Idl
namespace Go.Proofs.YtjbcjcibnjbpcaaDoor.Idl
open Go
set_option maxHeartbeats 16000000
set_option maxRecDepth 100000
set_option linter.unusedSimpArgs false
theorem quoC_len (c : Int) : (quoC c).length ≤ 4 := by unfold quoC; (repeat' split) <;> simp
theorem flat_len4 (l : List Int) : (l.flatMap quoC).length ≤ 4 * l.length := by
  induction l with
  | nil => simp
  | cons a l ih =>
    have := quoC_len a
    rw [List.flatMap_cons, List.length_append, List.length_cons]
    omega
theorem c28 (s : ByteArray) (hs : s.size ≤ 100000) : QuoOk s := fun H => by
  have hb1 := build1 bt40 H 34
  have hb2 := fun H => build1 bt40 H 34
  have hv0 : BsE ((H.push (.cells [.int .u8 34] 5 false)).push (.cells (bytesCells s) 5 false)) (.slice (some ⟨H.next, 0, none⟩) 1 1) [34] H.next (H.next + 1) :=
    ⟨H.next, 1, ⟨by omega, by omega⟩, by simp; omega, rfl, .inr rfl, by rw [IH.get_push_other _ _ _ (by simp)]; exact IH.get_push_same _ _⟩
  have hg1 : ((H.push (.cells [.int .u8 34] 5 false)).push (.cells (bytesCells s) 5 false)).get (H.next + 1) = some (.cells (bytesCells s) 5 false) := by
    have : H.next + 1 = (H.push (.cells [.int .u8 34] 5 false)).next := rfl
    rw [this]; exact IH.get_push_same _ _
  have key := fun c T => loop28 (H.next + 1) c H.next s hs s.size 0 [34] _ _ T (by omega) (by omega) (by simp) (by simp; omega) (by simp) hv0 hg1
  rw [cal28 _ _ (by simp)]
  simp [C28, R28, regsOf, fin, iresult1, iparts, hb1, iconvert_str]
  generalize hX : run J okAll (.loop L28_0) _ _ = X
  obtain ⟨T1, c, e1, t3, t8, t9, t10⟩ : ∃ T1 c, run J okAll (.loop L28_0) T1 ((H.push (.cells [.int .u8 34] 5 false)).push (.cells (bytesCells s) 5 false)) = X ∧ T1.at 3 = .slice (some ⟨H.next, 0, none⟩) 1 1 ∧ T1.at 8 = .slice (some ⟨H.next + 1, 0, none⟩) s.size c ∧ T1.at 9 = .int .i64 (s.size : Int) ∧ T1.at 10 = .int .i64 ((0 : Nat) : Int) :=
    ⟨_, _, hX, by simp, by simp; rfl, by simp, by simp⟩
  obtain ⟨T', H', v', r1, r2, r3, r4, r5⟩ := key c T1 t3 t8 t9 t10
  rw [← e1, r1]
  have hlen : ((bytesI s).drop 0).length = s.size := by rw [List.drop_zero, bytesI_length]
  have hq5 := flat_len4 ((bytesI s).drop 0)
  obtain ⟨v2, H2, a1, a2, a3, a4⟩ := appK r2 (by simp at r3; omega) (by simp at r3; omega) [34] (by simp) (by rw [List.length_append]; rw [hlen] at hq5; simp only [List.length_cons, List.length_nil]; omega)
  have hcv := conv_bse a2
  simp only [List.map_cons, List.map_nil, List.length_cons, List.length_nil, Nat.zero_add] at a1
  rw [List.drop_zero] at hcv
  refine ⟨H2, ⟨by simp at r3; omega, fun x hx => ?_⟩, ?_⟩
  · rw [a4 x (.inl hx), r4 x (.inl hx), IH.get_push_other _ _ _ (by simp; omega), IH.get_push_other _ _ _ (by omega)]
  · simp [r5, iparts, hb2, a1]
    simp [hcv, fin, iresult1, quoL]
end Go.Proofs.YtjbcjcibnjbpcaaDoor.Idl
namespace Go.Proofs.YtjbcjcibnjbpcaaDoor.Idl
open Go
set_option maxHeartbeats 8000000
set_option maxRecDepth 100000
set_option linter.unusedSimpArgs false
theorem byl_quoC (c : Int) (h : 0 ≤ c ∧ c < 256) : ByL (quoC c) := by
  intro x hx
  unfold quoC at hx
  split at hx
  · simp at hx; omega
  · split at hx
    · simp at hx; omega
    · split at hx
      · simp at hx; omega
      · split at hx
        · simp at hx; omega
        · simp at hx; omega
theorem byl_bytes (s : ByteArray) : ByL (bytesI s) := by
  intro x hx
  simp only [bytesI, List.mem_map] at hx
  obtain ⟨b, _, rfl⟩ := hx
  have := b.toNat_lt
  omega
theorem byl_flat (f : Int → List Int) (hf : ∀ c, 0 ≤ c ∧ c < 256 → ByL (f c)) (l : List Int) (h : ByL l) : ByL (l.flatMap f) := by
  intro x hx
  obtain ⟨c, hc, hx⟩ := List.mem_flatMap.1 hx
  exact hf c (h c hc) x hx
theorem byl_quoL (s : ByteArray) : ByL (quoL s) := by
  unfold quoL
  refine ByL.append (l := [34]) (by intro x hx; simp at hx; omega) (ByL.append (byl_flat _ byl_quoC _ (byl_bytes s)) (by intro x hx; simp at hx; omega))
theorem txt_quo (u : ByteArray) (rest : List Int) : ∀ (l : List Int) (k i : Nat) (acc : List Int), ByL l → At u i (l.flatMap quoC ++ 34 :: rest) → u.size < k + i → txtF u k i acc = some (acc ++ l, i + (l.flatMap quoC).length + 1) := by
  intro l
  induction l with
  | nil =>
    intro k i acc _ hA hk
    obtain ⟨k, rfl⟩ : ∃ m, k = m + 1 := ⟨k - 1, by have := hA.1; simp at this; omega⟩
    obtain ⟨h1, h2⟩ := At.head (by simpa using hA)
    simp only [txtF]
    rw [if_pos h1, if_pos h2]
    simp
  | cons c l ih =>
    intro k i acc hb hA hk
    have hc := hb c (by simp)
    have hb' : ByL l := fun x hx => hb x (by simp [hx])
    have hsz := hA.1
    rw [List.flatMap_cons, List.append_assoc] at hA
    rw [List.flatMap_cons, List.length_append]
    obtain ⟨k, rfl⟩ : ∃ m, k = m + 1 := ⟨k - 1, by
      simp at hsz; omega⟩
    have hpos : 0 < (quoC c).length := by unfold quoC; (repeat' split) <;> simp
    have hA' := hA.drop
    have g := fun k' acc' (hk' : u.size < k' + (i + (quoC c).length)) => ih k' (i + (quoC c).length) acc' hb' hA' hk'
    have e1 : acc ++ c :: l = acc ++ [c] ++ l := by simp
    have two : ∀ x : Int, quoC c = [92, x] → escF (u.extract (i + 1) u.size) = (c, 1) → txtF u (k + 1) i acc = some (acc ++ c :: l, i + ((quoC c).length + (l.flatMap quoC).length) + 1) := by
      intro x hq hesc
      rw [hq] at hA g ⊢
      obtain ⟨h1, h2⟩ := At.head hA
      simp only [txtF]
      rw [if_pos h1, h2, if_neg (by decide), if_neg (by decide), if_neg (by decide), hesc]
      simp only [show ¬ (1 : Int) = 0 by decide, if_false]
      have := g k (acc ++ [c]) (by simp; omega)
      rw [show i + (1 : Int).toNat + 1 = i + [92, x].length from rfl, this, e1]
      simp [Nat.add_assoc]
    have bx : ∀ x : Int, quoC c = [92, x] → ¬ (u.extract (i + 1) u.size).size = 0 ∧ bt (u.extract (i + 1) u.size) 0 = x := fun x hq => by
      rw [hq] at hA
      obtain ⟨h1, h2⟩ := At.head hA.tail
      exact ⟨by rw [size_suf]; omega, by rw [bt_suf u (i + 1) 0 (by omega)]; exact h2⟩
    by_cases c1 : c = 34 ∨ c = 92
    · have hq : quoC c = [92, c] := if_pos c1
      obtain ⟨z, b0⟩ := bx c hq
      refine two c hq ?_
      unfold escF
      rw [if_neg z, b0, if_neg (by omega), if_neg (by omega), if_pos (by omega)]
    · by_cases c2 : c = 10
      · have hq : quoC c = [92, 110] := by unfold quoC; rw [if_neg c1, if_pos c2]
        obtain ⟨z, b0⟩ := bx 110 hq
        refine two 110 hq ?_
        unfold escF
        rw [if_neg z, b0, if_pos rfl, c2]
      · by_cases c3 : c = 9
        · have hq : quoC c = [92, 116] := by unfold quoC; rw [if_neg c1, if_neg c2, if_pos c3]
          obtain ⟨z, b0⟩ := bx 116 hq
          refine two 116 hq ?_
          unfold escF
          rw [if_neg z, b0, if_neg (by decide), if_pos rfl, c3]
        · by_cases c4 : c < 32 ∨ 126 < c
          · have hq : quoC c = [92, 48 + c / 100, 48 + c / 10 % 10, 48 + c % 10] := by unfold quoC; rw [if_neg c1, if_neg c2, if_neg c3, if_pos c4]
            rw [hq] at hA g ⊢
            obtain ⟨h1, h2⟩ := At.head hA
            obtain ⟨h3, h4⟩ := At.head hA.tail
            obtain ⟨h5, h6⟩ := At.head hA.tail.tail
            obtain ⟨h7, h8⟩ := At.head hA.tail.tail.tail
            have hesc : escF (u.extract (i + 1) u.size) = (c, 3) := by
              unfold escF
              rw [size_suf, bt_suf u (i + 1) 0 (by omega), bt_suf u (i + 1) 1 (by omega), bt_suf u (i + 1) 2 (by omega), Nat.add_zero, h4, show i + 1 + 2 = i + 1 + 1 + 1 by omega, h6, h8]
              rw [if_neg (by omega), if_neg (by omega), if_neg (by omega), if_neg (by omega), if_pos ⟨by omega, by simp [digitB]; omega, by simp [digitB]; omega, by simp [digitB]; omega, by omega⟩]
              rw [show 100 * (48 + c / 100 - 48) + 10 * (48 + c / 10 % 10 - 48) + (48 + c % 10 - 48) = c by omega]
            simp only [txtF]
            rw [if_pos h1, h2, if_neg (by decide), if_neg (by decide), if_neg (by decide), hesc]
            simp only [show ¬ (3 : Int) = 0 by decide, if_false]
            have := g k (acc ++ [c]) (by simp; omega)
            rw [show i + (3 : Int).toNat + 1 = i + [92, 48 + c / 100, 48 + c / 10 % 10, 48 + c % 10].length from rfl, this, e1]
            simp [Nat.add_assoc]
          · have hq : quoC c = [c] := by unfold quoC; rw [if_neg c1, if_neg c2, if_neg c3, if_neg c4]
            rw [hq] at hA g ⊢
            obtain ⟨h1, h2⟩ := At.head hA
            simp only [txtF]
            rw [if_pos h1, h2, if_neg (by omega), if_neg (by omega), if_pos (show c ≠ 92 by omega)]
            have := g k (acc ++ [c]) (by simp; omega)
            rw [show i + 1 = i + [c].length from rfl, this, e1]
            simp [Nat.add_assoc]
theorem tok_quo (u : ByteArray) (s : ByteArray) (rest : List Int) (p : Nat) (hA : At u p (quoL s ++ rest)) : tokF u p = ⟨2, s, 0, p + (quoL s).length, true⟩ := by
  have hA0 : At u p (34 :: ((bytesI s).flatMap quoC ++ 34 :: rest)) := by
    have : quoL s ++ rest = 34 :: ((bytesI s).flatMap quoC ++ 34 :: rest) := by simp [quoL]
    rw [← this]; exact hA
  obtain ⟨h1, h2⟩ := At.head hA0
  have := txt_quo u rest (bytesI s) (u.size + 1) (p + 1) [] (byl_bytes s) hA0.tail (by omega)
  unfold tokF
  rw [h2, if_neg (by decide), if_pos rfl, this]
  simp only [txtT, List.nil_append, strOf_bytesI, Tk.mk.injEq, true_and, and_true]
  simp [quoL]
  omega
theorem lex_quo (s : ByteArray) (hs : s.size ≤ 3000) : lexR (strOf (quoL s)) = .ok [(0, ⟨2, s, 0, (quoL s).length, true⟩)] := by
  have hA := At.start _ (byl_quoL s)
  have hl : (quoL s).length ≤ 12002 := by
    have := flat_len4 (bytesI s)
    rw [bytesI_length] at this
    simp [quoL]
    simp at this
    omega
  have hz := strOf_size (quoL s)
  have ht := tok_quo (strOf (quoL s)) s [] 0 (by rw [List.append_nil]; exact hA)
  have hA0 : At (strOf (quoL s)) 0 (34 :: ((bytesI s).flatMap quoC ++ [34])) := hA
  obtain ⟨h1, h2⟩ := At.head hA0
  generalize strOf (quoL s) = u at *
  unfold lexR
  rw [if_neg (by omega), lexF_tok u 0 h1 (by rw [h2]; rfl) ((remS_zero _).2 (by rw [openB u 0 (by omega), h2]; simp)), ht, if_neg (by simp), if_neg (by simp), Nat.zero_add]
  obtain ⟨m, hm⟩ : ∃ m, u.size = m + 1 := ⟨u.size - 1, by omega⟩
  rw [hm, lexF_end u (quoL s).length (by omega) (by omega)]
  rfl
end Go.Proofs.YtjbcjcibnjbpcaaDoor.Idl
namespace Go.Proofs.YtjbcjcibnjbpcaaDoor.Idl
open Go
set_option maxHeartbeats 16000000
set_option maxRecDepth 100000
set_option linter.unusedSimpArgs false
theorem bytesI_strOf (l : List Int) (h : ByL l) : bytesI (strOf l) = l := by
  have := bytesCells_strOf l h
  rw [← bytesI_cells] at this
  have inj : ∀ a b : List Int, a.map (Value.int .u8) = b.map (Value.int .u8) → a = b := by
    intro a
    induction a with
    | nil => intro b h; cases b with
      | nil => rfl
      | cons x b => simp at h
    | cons x a ih => intro b h; cases b with
      | nil => simp at h
      | cons y b => simp at h; rw [h.1, ih b (by simpa using h.2)]
  exact inj _ _ this
theorem pr_one (t : Nat × Tk) : strOf (prF true [t]) = tkS t.2 := by
  have : prF true [t] = bytesI (tkS t.2) := by simp [prF]
  rw [this, strOf_bytesI]
theorem cut_size (s : ByteArray) : (cutF s).size ≤ 3000 := by
  unfold cutF
  split
  · rw [ByteArray.size_extract]; omega
  · omega
theorem c8 (H : IH) (hG : Glob H) (s0 : ByteArray) : ∃ H', Fr H.next H H' ∧ cal J okAll 8 #[.string s0] H = some (.ret (.bool true), H') := by
  have h9 := hG.2.2
  have h12 := c12 H s0
  have hs := cut_size s0
  generalize cutF s0 = s at *
  have hlx := lex_quo s hs
  have hql : (quoL s).length ≤ 12002 := by
    have := flat_len4 (bytesI s)
    rw [bytesI_length] at this
    simp [quoL]
    simp at this
    omega
  have hz := strOf_size (quoL s)
  -- the print
  have hp1 := pr_one (0, ⟨2, s, 0, 0, true⟩)
  have hts : tkS ⟨2, s, 0, 0, true⟩ = strOf (quoL s) := rfl
  simp only at hp1
  rw [hts] at hp1
  have hpl : (prF true [(0, ⟨2, s, 0, 0, true⟩)]).length < 2 ^ 39 := by
    have : (strOf (prF true [(0, ⟨2, s, 0, 0, true⟩)])).size = (strOf (quoL s)).size := by rw [hp1]
    rw [strOf_size, hz] at this
    omega
  have f0 : Fr H.next H (H.push (.cells [.int .i64 2, .int .i64 0, .string s, .int .i64 0] 31 false)) := (Fr.refl _ _).push (Nat.le_refl _) _
  have hrow : TkRow (H.push (.cells [.int .i64 2, .int .i64 0, .string s, .int .i64 0] 31 false)) H.next [(0, ⟨2, s, 0, 0, true⟩)] := fun i hi => by
    have : i = 0 := by simp at hi; omega
    subst this
    rw [IH.get_push_same]; rfl
  obtain ⟨H1, f1, e1⟩ := c17 _ (.slice (some ⟨H.next, 0, none⟩) 1 1) [(0, ⟨2, s, 0, 0, true⟩)] (by simp) (fun t ht => by
    simp only [List.mem_singleton] at ht
    subst ht
    exact ⟨fun h => absurd h (by simp), fun _ => c28 s (by omega)⟩) hpl (.inr ⟨H.next, 1, rfl, by simp, hrow⟩)
  rw [hp1] at e1
  have f01 := f0.trans' f1 f0.1
  have hG1 := hG.mono h9 f01
  obtain ⟨H2, v2, f2, e2, hv2⟩ := c13 H1 (strOf (quoL s)) hG1 (by omega)
  have f02 := f01.trans' f2 f01.1
  obtain ⟨H3, f3, e3⟩ := c16 H2 (hG.mono h9 f02)
  refine ⟨H3, f02.trans' f3 f02.1, ?_⟩
  rw [hlx] at e2 hv2
  obtain ⟨b1, _, l1, rfl, g1⟩ := hv2.row (by simp [LR.toks])
  simp only [LR.errno, LR.pos, LR.toks] at e2 g1
  have xc : cellsOf (H2.get b1) 0 4 = some [.int .i64 2, .int .i64 0, .string s, .int .i64 0] := by rw [g1]; rfl
  generalize strOf (quoL s) = u at *
  rw [cal8 _ _ (by simp)]
  simp [C8, R8, regsOf, fin, iresult1, h12, iparts, bl31c, bs23, e1, e2, iindexAddr, xc, e3]
end Go.Proofs.YtjbcjcibnjbpcaaDoor.Idl
namespace Go.Proofs.YtjbcjcibnjbpcaaDoor.Idl
open Go
set_option maxHeartbeats 8000000
set_option maxRecDepth 100000
set_option linter.unusedSimpArgs false
def DigL (l : List Int) : Prop := ∀ x ∈ l, 48 ≤ x ∧ x ≤ 57
def valF : Int → List Int → Int
  | n, [] => n
  | n, x :: l => valF (10 * n + (x - 48)) l
theorem valF_append (l m : List Int) : ∀ n, valF n (l ++ m) = valF (valF n l) m := by
  induction l with
  | nil => intro n; rfl
  | cons x l ih => intro n; exact ih _
theorem valF_ge (l : List Int) (h : DigL l) : ∀ n, 0 ≤ n → n ≤ valF n l := by
  induction l with
  | nil => intro n _; exact Int.le_refl _
  | cons x l ih =>
    intro n hn
    have hx := h x (by simp)
    have := ih (fun y hy => h y (by simp [hy])) (10 * n + (x - 48)) (by omega)
    simp only [valF]
    omega
theorem valF_zeros (k : Nat) : valF 0 (List.replicate k 48) = 0 := by
  induction k with
  | zero => rfl
  | succ k ih => rw [List.replicate_succ]; exact ih
theorem natD_dig : ∀ (k n : Nat), DigL (natD k n) ∧ 0 < (natD k n).length ∧ (natD k n).length ≤ k + 1 := by
  have one : ∀ c : Nat, c < 10 → DigL [48 + ((c : Nat) : Int)] := fun c hc x hx => by simp at hx; omega
  intro k
  induction k with
  | zero => intro n; exact ⟨one _ (by omega), by simp [natD], by simp [natD]⟩
  | succ k ih =>
    intro n
    unfold natD
    split
    · rename_i h; exact ⟨one _ h, by simp, by simp⟩
    · obtain ⟨h1, h2, h3⟩ := ih (n / 10)
      refine ⟨fun x hx => ?_, by rw [List.length_append]; omega, by rw [List.length_append]; simp; omega⟩
      rcases List.mem_append.1 hx with hx | hx
      · exact h1 x hx
      · exact one (n % 10) (by omega) x hx
theorem natD_val : ∀ (k n : Nat), n < 10 ^ (k + 1) → valF 0 (natD k n) = n := by
  intro k
  induction k with
  | zero =>
    intro n h
    have : n % 10 = n := by omega
    simp only [natD, valF, this]
    omega
  | succ k ih =>
    intro n h
    unfold natD
    split
    · simp only [valF]; omega
    · rw [valF_append, ih (n / 10) (by rw [Nat.pow_succ] at h; omega)]
      simp only [valF]
      omega
theorem numF_val (w : ByteArray) : ∀ (l : List Int) (k i : Nat) (n : Int), At w i l → DigL l → w.size < k + i → 0 ≤ n → valF n l < 18446744073709551616 → numF w k i n = some (valF n l) := by
  intro l
  induction l with
  | nil =>
    intro k i n hA _ hk _ _
    have := hA.1
    simp only [List.length_nil] at this
    obtain ⟨k, rfl⟩ : ∃ m, k = m + 1 := ⟨k - 1, by omega⟩
    simp only [numF]
    rw [if_neg (by omega)]
    rfl
  | cons x l ih =>
    intro k i n hA hD hk hn hv
    have hx := hD x (by simp)
    obtain ⟨h1, h2⟩ := At.head hA
    obtain ⟨k, rfl⟩ : ∃ m, k = m + 1 := ⟨k - 1, by omega⟩
    have hD' : DigL l := fun y hy => hD y (by simp [hy])
    have hge := valF_ge l hD' (10 * n + (x - 48)) (by omega)
    simp only [valF] at hv ⊢
    simp only [numF]
    rw [if_pos h1, h2, if_neg (by omega)]
    exact ih k (i + 1) _ hA.tail hD' (by omega) (by omega) hv
theorem dig_byl {l : List Int} (h : DigL l) : ByL l := fun x hx => by have := h x hx; omega
theorem At.suf {u : ByteArray} {p : Nat} {l : List Int} (h : At u p l) : At (u.extract p u.size) 0 l :=
  ⟨by rw [size_suf]; have := h.1; omega, fun j hj => by rw [Nat.zero_add, bt_suf u p j (by have := h.1; omega)]; exact h.2 j hj⟩
/-- The digits of a number at the end of a text are one token. -/
theorem tok_num (u : ByteArray) (p : Nat) (l : List Int) (hA : At u p l) (hD : DigL l) (h0 : 0 < l.length) (hv : valF 0 l < 18446744073709551616) : tokF u p = numT (some (valF 0 l)) u.size := by
  have hsz := hA.1
  have hdig : ∀ j, j < l.length → digitB (bt u (p + j)) = true := fun j hj => by
    rw [hA.2 j hj]
    have := hD _ (List.getElem_mem hj)
    simp [digitB]; omega
  have hsp : span digitB u p = u.size := by
    have := span_stop digitB u l.length p (by omega) hdig (.inl hsz)
    rw [this]; exact hsz
  have hd0 : digitB (bt u p) = true := by have := hdig 0 h0; rwa [Nat.add_zero] at this
  unfold tokF
  rw [hd0, if_pos rfl, hsp, numF_val _ l _ 0 0 hA.suf hD (by omega) (by omega) hv]
theorem lex_num (k n : Nat) (hk : k ≤ 50) (hn : n < 9223372036854775808) : lexR (strOf ([32] ++ (List.replicate k 48 ++ natD 20 n))) =
    if n < 4611686018427387904 then .ok [(1, ⟨1, ⟨#[]⟩, n, 1 + (k + (natD 20 n).length), true⟩)] else .err 10 1 := by
  obtain ⟨d1, d2, d3⟩ := natD_dig 20 n
  have hD : DigL (List.replicate k 48 ++ natD 20 n) := fun x hx => by
    rcases List.mem_append.1 hx with hx | hx
    · have := List.eq_of_mem_replicate hx; omega
    · exact d1 x hx
  have hA0 := At.start ([32] ++ (List.replicate k 48 ++ natD 20 n)) (ByL.append (by intro x hx; simp at hx; omega) (dig_byl hD))
  have hsz := strOf_size ([32] ++ (List.replicate k 48 ++ natD 20 n))
  generalize strOf ([32] ++ (List.replicate k 48 ++ natD 20 n)) = u at *
  have hA : At u 1 (List.replicate k 48 ++ natD 20 n) := At.drop (l := [32]) hA0
  obtain ⟨h1, h2⟩ := At.head (l := List.replicate k 48 ++ natD 20 n) (a := 32) hA0
  have hv : valF 0 (List.replicate k 48 ++ natD 20 n) = n := by rw [valF_append, valF_zeros, natD_val 20 n (by omega)]
  have hlen : (List.replicate k (48 : Int) ++ natD 20 n).length = k + (natD 20 n).length := by rw [List.length_append, List.length_replicate]
  have ht := tok_num u 1 _ hA hD (by omega) (by omega)
  have hsz2 : u.size = 1 + (k + (natD 20 n).length) := by rw [hsz, List.length_append, hlen]; rfl
  have hb1 : digitB (bt u 1) = true := by
    have h3 := hA.2 0 (by omega)
    rw [Nat.add_zero] at h3
    rw [h3]
    have := hD _ (List.getElem_mem (show 0 < (List.replicate k (48 : Int) ++ natD 20 n).length by omega))
    simp [digitB]; omega
  have hr := digit_range hb1
  rw [hv] at ht
  unfold lexR
  rw [if_neg (by omega), lexF_blank u 0 h1 (by rw [h2]; rfl)]
  obtain ⟨m, hm⟩ : ∃ m, u.size + 1 = m + 1 + 1 := ⟨u.size - 1, by omega⟩
  rw [hm, Nat.zero_add, lexF_tok u 1 (by omega) (by
    simp only [blankB]
    rw [decide_eq_false (show ¬ bt u 1 = 32 by omega), decide_eq_false (show ¬ bt u 1 = 9 by omega), decide_eq_false (show ¬ bt u 1 = 10 by omega), decide_eq_false (show ¬ bt u 1 = 13 by omega)]
    rfl) ((remS_zero _).2 (by rw [openB u 1 (by omega), decide_eq_false (show ¬ bt u 1 = 40 by omega)]; simp)), ht]
  have hnt : numT (some (n : Int)) u.size = ⟨1, ⟨#[]⟩, n, u.size, decide ((n : Int) < 4611686018427387904)⟩ := by
    simp only [numT]; rw [if_pos (by omega)]
  rw [hnt]
  by_cases hs : n < 4611686018427387904
  · have hs2 : decide ((n : Int) < 4611686018427387904) = true := decide_eq_true (by omega)
    rw [if_pos hs, hs2, if_neg (by simp), if_neg (by simp)]
    simp only
    rw [lexF_end u u.size (Nat.le_refl _) (Nat.le_refl _), hsz2]
    rfl
  · have hs2 : decide ((n : Int) < 4611686018427387904) = false := decide_eq_false (by omega)
    rw [if_neg hs, hs2, if_pos rfl]
end Go.Proofs.YtjbcjcibnjbpcaaDoor.Idl
namespace Go.Proofs.YtjbcjcibnjbpcaaDoor.Idl
open Go
set_option maxHeartbeats 16000000
set_option maxRecDepth 100000
set_option linter.unusedSimpArgs false
section
variable (J : Env) (T : Regs) (H : IH) (dst : Option Tmp) (type : TypeId) (pos : String) (after : Array Edge) (guard : Option (Nat × Bool))
def negV (a : Value) : Option Value :=
  match a with
  | .int k x => some (.int k (k.wrap (-x)))
  | _ => none
@[simp] theorem negV_int (k : IntKind) (x : Int) : negV (.int k x) = some (.int k (k.wrap (-x))) := rfl
theorem iop_neg (x : Operand) (t : TypeId) (k : IntKind) (a : Int) (hx : iev T x = .int k a) :
    iop J ⟨dst, .unOp .neg t x, type, pos, after, guard⟩ T H = some (.val (.int k (k.wrap (-a))) H) := by
  refine ipure_of J T H (by simp [Op.operands, hx, flat, flatN]) ?_ rfl
  have e1 : execOp (iev T) ⟨dst, .unOp .neg t x, type, pos, after, guard⟩ = (do pure (.value (← Op.unary .neg (.int k a))) : Sem Next) := by
    simp only [execOp]
    rw [hx]
  rw [e1, ← Int.zero_sub]
  rfl
@[simp] theorem iop_neg_q (x : Operand) (t : TypeId) : iop J ⟨dst, .unOp .neg t x, type, pos, after, guard⟩ T H =
    lenQ (negV (iev T x)) H (iopP J ⟨dst, .unOp .neg t x, type, pos, after, guard⟩ T H) := by
  cases hx : iev T x with
  | int k a => exact iop_neg J T H dst type pos after guard x t k a hx
  | _ => rfl
end
theorem loop9 (H : IH) (N : Nat) (hN : N ≤ 50) (v0 : Value) : ∀ (k i : Nat) (l : List Int) (T : Regs), N - i = k → i ≤ N → l.length + k < 2 ^ 30 →
    T.at 0 = v0 → T.at 5 = .string (strOf l) → T.at 20 = .int .i64 (N : Int) → T.at 21 = .int .i64 (i : Int) →
    ∃ T', run J okAll (.loop L9_0) T H = some (.exit 0, T', H) ∧ T'.at 0 = v0 ∧ T'.at 5 = .string (strOf (List.replicate k 48 ++ l)) := by
  intro k
  induction k with
  | zero =>
    intro i l T hk hi hl t0 t5 t20 t21
    have hlt : ¬ ((i : Int) < N) := by omega
    rw [r_loop]
    simp [L9_0, t0, t5, t20, t21, hlt]
  | succ k ih =>
    intro i l T hk hi hl t0 t5 t20 t21
    have hlt : i < N := by omega
    have w1 : IntKind.i64.wrap ((i : Int) + 1) = (i : Int) + 1 := wrap64 _ (by omega) (by omega)
    have ha := fun x y => sadd [48] l (by simp; omega) x y H
    have hc : (⟨#[48]⟩ : ByteArray) = strOf [48] := by kernel_rfl
    rw [← hc] at ha
    have : ∃ T1, run J okAll (.loop L9_0) T H = run J okAll (.loop L9_0) T1 H ∧ T1.at 0 = v0 ∧ T1.at 5 = .string (strOf ([48] ++ l)) ∧ T1.at 20 = .int .i64 (N : Int) ∧ T1.at 21 = .int .i64 ((i : Int) + 1) := by
      rw [r_loop]
      simp [L9_0, t0, t5, t20, t21, hlt, w1, ha]
      exact ⟨_, rfl, by simp [t0], by simp, by simp [t20], by simp⟩
    obtain ⟨T1, e0, f0, f5, f20, f21⟩ := this
    obtain ⟨T', g0, g1, g2⟩ := ih (i + 1) ([48] ++ l) T1 (by omega) (by omega) (by rw [List.length_append]; simp; omega) f0 f5 f20 (by rw [f21]; simp)
    refine ⟨T', by rw [e0, g0], g1, ?_⟩
    rw [g2, ← List.append_assoc]
    congr 3
    rw [List.replicate_succ', List.append_cancel_right_eq] <;> rfl
theorem bl31n (n : Int) : ibuild J 31 [(0, .int .i64 1), (3, .int .i64 n)] = some (.agg #[.int .i64 1, .int .i64 0, .string ⟨#[]⟩, .int .i64 n]) := by kernel_rfl
theorem bl31m (n : Int) : ibuild J 31 [(0, .int .i64 1), (1, .int .i64 1), (3, .int .i64 n)] = some (.agg #[.int .i64 1, .int .i64 1, .string ⟨#[]⟩, .int .i64 n]) := by kernel_rfl
theorem fmtL_nat (n : Nat) : fmtL (n : Int) = natD 20 n := by unfold fmtL; rw [if_neg (by omega)]; simp
theorem c9 (H : IH) (hG : Glob H) (n0 c : Int) (h0 : -9223372036854775808 ≤ n0) (h1 : n0 ≤ 9223372036854775807) : ∃ H', Fr H.next H H' ∧ cal J okAll 9 #[.int .i64 n0, .int .i64 c] H = some (.ret (.bool true), H') := by
  have h9 := hG.2.2
  obtain ⟨n, hn⟩ : ∃ n : Nat, (if n0 < 0 then -(n0 + 1) else n0) = (n : Int) := ⟨(if n0 < 0 then -(n0 + 1) else n0).toNat, by split <;> omega⟩
  have hnb : n < 9223372036854775808 := by split at hn <;> omega
  obtain ⟨N, hN⟩ : ∃ N : Nat, max 0 (min c 50) = (N : Int) := ⟨(max 0 (min c 50)).toNat, by omega⟩
  have hN2 : N ≤ 50 := by omega
  have hlx := lex_num N n hN2 hnb
  obtain ⟨d1, d2, d3⟩ := natD_dig 20 n
  have f0 : Fr H.next H (H.push (.cells [.int .i64 1, .int .i64 0, .string ⟨#[]⟩, .int .i64 (n : Int)] 31 false)) := (Fr.refl _ _).push (Nat.le_refl _) _
  have hrow : TkRow (H.push (.cells [.int .i64 1, .int .i64 0, .string ⟨#[]⟩, .int .i64 (n : Int)] 31 false)) H.next [(0, ⟨1, ⟨#[]⟩, n, 0, true⟩)] := fun i hi => by
    have : i = 0 := by simp at hi; omega
    subst this
    rw [IH.get_push_same]; rfl
  have hp1 := pr_one (0, ⟨1, ⟨#[]⟩, n, 0, true⟩)
  have hts : tkS ⟨1, ⟨#[]⟩, n, 0, true⟩ = strOf (natD 20 n) := by
    show strOf (fmtL (n : Int)) = _
    rw [fmtL_nat]
  simp only at hp1
  rw [hts] at hp1
  have hpl : (prF true [(0, ⟨1, ⟨#[]⟩, n, 0, true⟩)]).length < 2 ^ 39 := by
    have : (strOf (prF true [(0, ⟨1, ⟨#[]⟩, n, 0, true⟩)])).size = (strOf (natD 20 n)).size := by rw [hp1]
    rw [strOf_size, strOf_size] at this
    omega
  obtain ⟨H1, f1, e1⟩ := c17 _ (.slice (some ⟨H.next, 0, none⟩) 1 1) [(0, ⟨1, ⟨#[]⟩, n, 0, true⟩)] (by simp) (fun t ht => by
    simp only [List.mem_singleton] at ht
    subst ht
    exact ⟨fun _ => fmt_ok n (by omega) (by omega), fun h => absurd h (by simp)⟩) hpl (.inr ⟨H.next, 1, rfl, by simp, hrow⟩)
  rw [hp1] at e1
  have f01 := f0.trans' f1 f0.1
  have hG1 := hG.mono h9 f01
  have hl21 : (List.replicate N (48 : Int) ++ natD 20 n).length ≤ 71 := by rw [List.length_append, List.length_replicate]; omega
  obtain ⟨H2, v2, f2, e2, hv2⟩ := c13 H1 (strOf ([32] ++ (List.replicate N 48 ++ natD 20 n))) hG1 (by rw [strOf_size, List.length_append]; simp only [List.length_cons, List.length_nil]; omega)
  have f02 := f01.trans' f2 f01.1
  obtain ⟨H3, f3, e3⟩ := c16 H2 (hG.mono h9 f02)
  refine ⟨H3, f02.trans' f3 f02.1, ?_⟩
  have k0 := fun T v0 => loop9 H1 N hN2 v0 N 0 (natD 20 n) T (by omega) (by omega) (by omega)
  have ha := fun x y => sadd [32] (List.replicate N 48 ++ natD 20 n) (by simp only [List.length_cons, List.length_nil]; omega) x y H1
  have hc32 : (⟨#[32]⟩ : ByteArray) = strOf [32] := by kernel_rfl
  rw [← hc32] at ha
  rw [hlx] at e2 hv2
  generalize strOf ([32] ++ (List.replicate N 48 ++ natD 20 n)) = u at *
  generalize 1 + (N + (natD 20 n).length) = fe at *
  generalize strOf (natD 20 n) = s0 at *
  generalize strOf (List.replicate N 48 ++ natD 20 n) = s1 at *
  rw [cal9 _ _ (by simp)]
  by_cases hneg : n0 < 0
  · rw [if_pos hneg] at hn
    have w1 : IntKind.i64.wrap (n0 + 1) = n0 + 1 := wrap64 _ (by omega) (by omega)
    have w2 : IntKind.i64.wrap (-(n0 + 1)) = (n : Int) := by rw [hn]; exact wrap64 _ (by omega) (by omega)
    simp [C9, R9, regsOf, fin, iresult1, hneg, w1, w2, iparts, bl31n, bs23, e1, hN]
    generalize hX : run J okAll (.loop L9_0) _ _ = X
    obtain ⟨T1, x1, a0, a5, a20, a21⟩ : ∃ T1, run J okAll (.loop L9_0) T1 H1 = X ∧ T1.at 0 = .int .i64 (n : Int) ∧ T1.at 5 = .string s0 ∧ T1.at 20 = .int .i64 (N : Int) ∧ T1.at 21 = .int .i64 ((0 : Nat) : Int) := ⟨_, hX, by simp, by simp, by simp, by simp⟩
    obtain ⟨T2, r1, b0, b5⟩ := k0 T1 _ a0 a5 a20 a21
    rw [← x1, r1]
    clear hX
    by_cases hbig : n < 4611686018427387904
    · rw [if_pos hbig] at e2 hv2
      have hge : decide ((4611686018427387904 : Int) ≤ (n : Int)) = false := decide_eq_false (by omega)
      obtain ⟨b1, _, l1, rfl, g1⟩ := hv2.row (by simp [LR.toks])
      simp only [LR.errno, LR.pos, LR.toks] at e2 g1
      have xc : cellsOf (H2.get b1) 0 4 = some [.int .i64 1, .int .i64 1, .string ⟨#[]⟩, .int .i64 (n : Int)] := by rw [g1]; rfl
      simp [b0, b5, ha, e2, hge, iindexAddr, xc, iparts, bl31m, e3, fin, iresult1, guard_undef]
    · rw [if_neg hbig] at e2 hv2
      have hge : decide ((4611686018427387904 : Int) ≤ (n : Int)) = true := decide_eq_true (by omega)
      obtain ⟨ba, cv, rfl⟩ := hv2.slice
      simp only [LR.errno, LR.pos, LR.toks, List.length_nil] at e2
      simp [b0, b5, ha, e2, hge, e3, fin, iresult1, guard_undef]
  · rw [if_neg hneg] at hn
    subst hn
    have hneg : decide ((n : Int) < 0) = false := decide_eq_false (by omega)
    simp [C9, R9, regsOf, fin, iresult1, hneg, iparts, bl31n, bs23, e1, hN]
    generalize hX : run J okAll (.loop L9_0) _ _ = X
    obtain ⟨T1, x1, a0, a5, a20, a21⟩ : ∃ T1, run J okAll (.loop L9_0) T1 H1 = X ∧ T1.at 0 = .int .i64 (n : Int) ∧ T1.at 5 = .string s0 ∧ T1.at 20 = .int .i64 (N : Int) ∧ T1.at 21 = .int .i64 ((0 : Nat) : Int) := ⟨_, hX, by simp, by simp, by simp, by simp⟩
    obtain ⟨T2, r1, b0, b5⟩ := k0 T1 _ a0 a5 a20 a21
    rw [← x1, r1]
    clear hX
    by_cases hbig : n < 4611686018427387904
    · rw [if_pos hbig] at e2 hv2
      have hge : decide ((4611686018427387904 : Int) ≤ (n : Int)) = false := decide_eq_false (by omega)
      obtain ⟨b1, _, l1, rfl, g1⟩ := hv2.row (by simp [LR.toks])
      simp only [LR.errno, LR.pos, LR.toks] at e2 g1
      have xc : cellsOf (H2.get b1) 0 4 = some [.int .i64 1, .int .i64 1, .string ⟨#[]⟩, .int .i64 (n : Int)] := by rw [g1]; rfl
      simp [b0, b5, ha, e2, hge, iindexAddr, xc, iparts, bl31m, e3, fin, iresult1, guard_undef]
    · rw [if_neg hbig] at e2 hv2
      have hge : decide ((4611686018427387904 : Int) ≤ (n : Int)) = true := decide_eq_true (by omega)
      obtain ⟨ba, cv, rfl⟩ := hv2.slice
      simp only [LR.errno, LR.pos, LR.toks, List.length_nil] at e2
      simp [b0, b5, ha, e2, hge, e3, fin, iresult1, guard_undef]
end Go.Proofs.YtjbcjcibnjbpcaaDoor.Idl
namespace Go.Proofs.YtjbcjcibnjbpcaaDoor.Idl
open Go
set_option maxHeartbeats 8000000
set_option maxRecDepth 100000
set_option linter.unusedSimpArgs false
theorem numF_lt (s : ByteArray) (hd : ∀ j, j < s.size → digitB (bt s j) = true) : ∀ (k i : Nat) (n r : Int), i ≤ s.size → 0 ≤ n → numF s k i n = some r → 0 ≤ r ∧ r < (n + 1) * 10 ^ (s.size - i) := by
  intro k
  induction k with
  | zero => intro i n r _ _ h; simp [numF] at h
  | succ k ih =>
    intro i n r hi hn h
    simp only [numF] at h
    by_cases hlt : i < s.size
    · rw [if_pos hlt] at h
      have hdg := digit_range (hd i hlt)
      by_cases hb : 18446744073709551616 ≤ 10 * n + (bt s i - 48)
      · rw [if_pos hb] at h; cases h
      · rw [if_neg hb] at h
        obtain ⟨g1, g2⟩ := ih (i + 1) _ r (by omega) (by omega) h
        refine ⟨g1, Int.lt_of_lt_of_le g2 ?_⟩
        rw [show s.size - i = (s.size - (i + 1)) + 1 by omega, Int.pow_succ]
        have hp : (0 : Int) ≤ 10 ^ (s.size - (i + 1)) := by
          have : (0 : Int) < 10 ^ (s.size - (i + 1)) := Int.pow_pos (by omega)
          omega
        have : (10 * n + (bt s i - 48) + 1) * 10 ^ (s.size - (i + 1)) ≤ ((n + 1) * 10) * 10 ^ (s.size - (i + 1)) := Int.mul_le_mul_of_nonneg_right (by omega) hp
        rw [Int.mul_comm (10 ^ (s.size - (i + 1))) 10, ← Int.mul_assoc]
        exact this
    · rw [if_neg hlt] at h
      cases h
      rw [show s.size - i = 0 by omega]
      simp
      omega
theorem natD_len : ∀ (k n L : Nat), n < 10 ^ L → 1 ≤ L → (natD k n).length ≤ L := by
  intro k
  induction k with
  | zero => intro n L _ h; simpa [natD] using h
  | succ k ih =>
    intro n L h hL
    unfold natD
    split
    · simpa using hL
    · rename_i h10
      obtain ⟨M, rfl⟩ : ∃ M, L = M + 1 := ⟨L - 1, by omega⟩
      have hM : 1 ≤ M := by
        rcases Nat.eq_zero_or_pos M with rfl | h1
        · simp at h; omega
        · exact h1
      have := ih (n / 10) M (by rw [Nat.pow_succ] at h; omega) hM
      rw [List.length_append]
      simp
      omega
theorem txtF_len (s : ByteArray) : ∀ (k i : Nat) (l l' : List Int) (e : Nat), txtF s k i l = some (l', e) → l'.length + i + 1 ≤ l.length + e ∧ e ≤ s.size := by
  intro k
  induction k with
  | zero => intro i l l' e h; simp [txtF] at h
  | succ k ih =>
    intro i l l' e h
    simp only [txtF] at h
    by_cases hlt : i < s.size
    · rw [if_pos hlt] at h
      by_cases c1 : bt s i = 34
      · rw [if_pos c1] at h; cases h; omega
      · rw [if_neg c1] at h
        by_cases c2 : bt s i < 32
        · rw [if_pos c2] at h; cases h
        · rw [if_neg c2] at h
          by_cases c3 : bt s i ≠ 92
          · rw [if_pos c3] at h
            have := ih _ _ _ _ h
            rw [List.length_append] at this
            simp at this
            omega
          · rw [if_neg c3] at h
            by_cases c4 : (escF (s.extract (i + 1) s.size)).2 = 0
            · rw [if_pos c4] at h; cases h
            · rw [if_neg c4] at h
              have := ih _ _ _ _ h
              rw [List.length_append] at this
              simp at this
              omega
    · rw [if_neg hlt] at h; cases h
theorem span_digits (s : ByteArray) (p : Nat) (hp : p ≤ s.size) : ∀ j, j < (s.extract p (span digitB s p)).size → digitB (bt (s.extract p (span digitB s p)) j) = true := by
  intro j hj
  have hr := span_range digitB s p hp
  have hz : (s.extract p (span digitB s p)).size = span digitB s p - p := by rw [ByteArray.size_extract]; omega
  rw [bt_extract s p _ j (by omega) hr.2]
  exact span_all digitB s _ p rfl hp (p + j) (by omega) (by omega)
theorem tok_cases (s : ByteArray) (p : Nat) (hp : p < s.size) (hok : (tokF s p).ok = true) :
    (∃ n : Nat, n < 4611686018427387904 ∧ n < 10 ^ ((tokF s p).fin - p) ∧ p < (tokF s p).fin ∧ tokF s p = ⟨1, ⟨#[]⟩, n, (tokF s p).fin, true⟩) ∨
    (∃ l e, l.length + p + 2 ≤ e ∧ e ≤ s.size ∧ tokF s p = ⟨2, strOf l, 0, e, true⟩) ∨ ((tokF s p).kind ≠ 1 ∧ (tokF s p).kind ≠ 2) := by
  have hend := tokF_end s p hp hok
  revert hok hend
  unfold tokF
  cases hd : digitB (bt s p) with
  | true =>
    simp only [if_true]
    intro hok hend
    left
    have hdg := span_digits s p (by omega)
    have hz : (s.extract p (span digitB s p)).size = span digitB s p - p := by
      have hr := span_range digitB s p (by omega)
      rw [ByteArray.size_extract]; omega
    cases hn : numF (s.extract p (span digitB s p)) ((s.extract p (span digitB s p)).size + 1) 0 0 with
    | none => rw [hn] at hok; cases hok
    | some r =>
      obtain ⟨g1, g2⟩ := numF_lt _ hdg _ 0 0 r (by omega) (by omega) hn
      rw [hn] at hok hend
      simp only [numT] at hok hend ⊢
      by_cases h63 : r < 9223372036854775808
      · rw [if_pos h63] at hok hend ⊢
        have h62 : r < 4611686018427387904 := by simpa using hok
        obtain ⟨n, rfl⟩ : ∃ n : Nat, r = n := ⟨r.toNat, by omega⟩
        refine ⟨n, by omega, ?_, hend.1, ?_⟩
        · rw [Nat.sub_zero, hz] at g2
          simp only [Int.zero_add, Int.one_mul] at g2
          have : ((10 ^ (span digitB s p - p) : Nat) : Int) = (10 : Int) ^ (span digitB s p - p) := by push_cast; rfl
          rw [← this] at g2
          exact Int.ofNat_lt.1 g2
        · rw [decide_eq_true h62]
      · rw [if_neg h63] at hok; cases hok
  | false =>
    simp only [Bool.false_eq_true, if_false]
    by_cases h34 : bt s p = 34
    · simp only [if_pos h34]
      intro hok hend
      right; left
      cases hx : txtF s (s.size + 1) (p + 1) [] with
      | none => rw [hx] at hok; cases hok
      | some r =>
        obtain ⟨l, e⟩ := r
        have := txtF_len s _ _ _ _ _ hx
        simp at this
        exact ⟨l, e, by omega, this.2, rfl⟩
    · simp only [if_neg h34]
      intro hok hend
      right; right
      by_cases h39 : bt s p = 39
      · simp only [if_pos h39]; exact ⟨by simp, by simp⟩
      · simp only [if_neg h39] at hok hend ⊢
        by_cases hw : (smallB (bt s p) || greatB (bt s p)) = true
        · rw [if_pos hw] at *
          have hk : ∀ c w : Int, kindW c w ≠ 1 ∧ kindW c w ≠ 2 := fun c w => by unfold kindW; (repeat' split) <;> exact ⟨by decide, by decide⟩
          exact hk _ _
        · rw [if_neg hw] at *
          cases hx : signF s p signsL with
          | none => rw [hx] at hok; cases hok
          | some x => exact ⟨by simp [signT], by simp [signT]⟩
theorem bytesI_get (s : ByteArray) (j : Nat) (h : j < (bytesI s).length) : (bytesI s)[j] = bt s j := by
  have hj : j < s.size := by rwa [bytesI_length] at h
  rw [← bt_eq s j hj]
  simp [bytesI]
  rfl
/-- What a token is printed as is not much longer than what it was read from. -/
theorem tok_len (s : ByteArray) (p : Nat) (hp : p < s.size) (hok : (tokF s p).ok = true) : (tkS (tokF s p)).size + 1 ≤ 4 * ((tokF s p).fin - p) ∧ 0 < (tkS (tokF s p)).size := by
  have hend := tokF_end s p hp hok
  rcases tok_cases s p hp hok with ⟨n, h1, h2, h3, h4⟩ | ⟨l, e, h1, h2, h3⟩ | ⟨h1, h2⟩
  · have : (tkS (tokF s p)).size = (natD 20 n).length := by
      rw [h4]
      show (strOf (fmtL (n : Int))).size = _
      rw [strOf_size, fmtL_nat]
    have g := natD_len 20 n _ h2 (by omega)
    have := (natD_dig 20 n).2.1
    omega
  · have : (tkS (tokF s p)).size = (quoL (strOf l)).length := by
      rw [h3]
      show (strOf (quoL (strOf l))).size = _
      rw [strOf_size]
    have g := flat_len4 (bytesI (strOf l))
    rw [bytesI_length, strOf_size] at g
    have e1 : (quoL (strOf l)).length = 2 + ((bytesI (strOf l)).flatMap quoC).length := by simp only [quoL, List.length_cons, List.length_append, List.length_nil]; omega
    have e2 : (tokF s p).fin = e := by rw [h3]
    omega
  · have : tkS (tokF s p) = (tokF s p).text := by unfold tkS; rw [if_neg h1, if_neg h2]
    have g := tok_text_size s p hp hok h1 h2
    rw [this]
    omega
theorem tok_num2 (u : ByteArray) (p : Nat) (l rest : List Int) (hA : At u p (l ++ rest)) (hr : rest = [] ∨ ∃ r, rest = 32 :: r) (hD : DigL l) (h0 : 0 < l.length) (hv : valF 0 l < 18446744073709551616) : tokF u p = numT (some (valF 0 l)) (p + l.length) := by
  have hsz := hA.1
  rw [List.length_append] at hsz
  have hat : ∀ j (h : j < l.length), bt u (p + j) = l[j] := fun j hj => by
    rw [hA.2 j (by rw [List.length_append]; omega), List.getElem_append_left hj]
  have hdig : ∀ j, j < l.length → digitB (bt u (p + j)) = true := fun j hj => by
    rw [hat j hj]
    have := hD _ (List.getElem_mem hj)
    simp [digitB]; omega
  have hsp : span digitB u p = p + l.length := by
    refine span_stop digitB u l.length p (by omega) hdig ?_
    rcases hr with rfl | ⟨r, rfl⟩
    · left; simp at hsz; omega
    · right
      have := At.head hA.drop
      rw [this.2]; rfl
  have hd0 : digitB (bt u p) = true := by have := hdig 0 h0; rwa [Nat.add_zero] at this
  have hz : (u.extract p (p + l.length)).size = l.length := by rw [ByteArray.size_extract]; omega
  have hw : At (u.extract p (p + l.length)) 0 l := ⟨by omega, fun j hj => by rw [Nat.zero_add, bt_extract u p _ j (by omega) (by omega)]; exact hat j hj⟩
  unfold tokF
  rw [hd0, if_pos rfl, hsp, numF_val _ l _ 0 0 hw hD (by omega) (by omega) hv]
theorem tok_print (a : ByteArray) (p : Nat) (hp : p < a.size) (hok : (tokF a p).ok = true) (hbl : blankB (bt a p) = false) (hrem : prefixB (a.extract p a.size) ⟨#[40, 42]⟩ = false) (u : ByteArray) (q : Nat) (rest : List Int)
    (hA : At u q (bytesI (tkS (tokF a p)) ++ rest)) (hr : rest = [] ∨ ∃ r, rest = 32 :: r) :
    q < u.size ∧ blankB (bt u q) = false ∧ prefixB (u.extract q u.size) ⟨#[40, 42]⟩ = false ∧ tokF u q = { tokF a p with fin := q + (tkS (tokF a p)).size } := by
  have hlen := (tok_len a p hp hok).2
  have hend := tokF_end a p hp hok
  have hq : q < u.size := by have := hA.1; rw [List.length_append, bytesI_length] at this; omega
  have nb : ∀ c : Int, c ≠ 32 → c ≠ 9 → c ≠ 10 → c ≠ 13 → blankB c = false := fun c h1 h2 h3 h4 => by simp [blankB, h1, h2, h3, h4]
  have np : bt u q ≠ 40 → prefixB (u.extract q u.size) ⟨#[40, 42]⟩ = false := fun h => by rw [openB u q (by omega), decide_eq_false h]; simp
  refine ⟨hq, ?_⟩
  rcases tok_cases a p hp hok with ⟨n, h1, h2, h3, h4⟩ | ⟨l, e, h1, h2, h3⟩ | ⟨h1, h2⟩
  · obtain ⟨d1, d2, d3⟩ := natD_dig 20 n
    have hs : tkS (tokF a p) = strOf (natD 20 n) := by
      rw [h4]
      show strOf (fmtL (n : Int)) = _
      rw [fmtL_nat]
    rw [hs, bytesI_strOf _ (dig_byl d1)] at hA
    have hv : valF 0 (natD 20 n) = n := natD_val 20 n (by omega)
    have ht := tok_num2 u q _ rest hA hr d1 d2 (by omega)
    have hb : 48 ≤ bt u q ∧ bt u q ≤ 57 := by
      have := hA.2 0 (by rw [List.length_append]; omega)
      rw [Nat.add_zero, List.getElem_append_left d2] at this
      rw [this]; exact d1 _ (List.getElem_mem d2)
    refine ⟨nb _ (by omega) (by omega) (by omega) (by omega), np (by omega), ?_⟩
    rw [ht, hv, hs, strOf_size, h4]
    simp only [numT]
    rw [if_pos (by omega), decide_eq_true (by omega)]
  · have hs : tkS (tokF a p) = strOf (quoL (strOf l)) := by rw [h3]; rfl
    rw [hs, bytesI_strOf _ (byl_quoL _)] at hA
    have ht := tok_quo u (strOf l) rest q hA
    have hb : bt u q = 34 := (At.head (l := ((bytesI (strOf l)).flatMap quoC ++ [34]) ++ rest) (by simpa [quoL] using hA)).2
    refine ⟨by rw [hb]; rfl, np (by rw [hb]; decide), ?_⟩
    rw [ht, hs, strOf_size, h3]
  · have hs : tkS (tokF a p) = (tokF a p).text := by unfold tkS; rw [if_neg h1, if_neg h2]
    have htx := tok_text a p hp hok h1 h2
    have htz := tok_text_size a p hp hok h1 h2
    rw [hs] at hA ⊢
    have hSz := hA.1
    rw [List.length_append, bytesI_length] at hSz
    have hS : Same a p u q ((tokF a p).fin - p) := by
      refine ⟨by omega, by omega, fun j hj => ?_⟩
      have := hA.2 j (by rw [List.length_append, bytesI_length]; omega)
      rw [this, List.getElem_append_left (by rw [bytesI_length]; omega), bytesI_get, htx, bt_extract a p _ j (by omega) hend.2]
    have hb : bt u q = bt a p := by have := hS.2.2 0 (by omega); rw [Nat.add_zero, Nat.add_zero] at this; exact this.symm
    have hnext : q + ((tokF a p).fin - p) = u.size ∨ (q + ((tokF a p).fin - p) < u.size ∧ bt u (q + ((tokF a p).fin - p)) = 32) := by
      rcases hr with rfl | ⟨r, rfl⟩
      · left; simp at hSz; omega
      · right
        have h5 := At.head hA.drop
        rw [bytesI_length, show q + (tokF a p).text.size = q + ((tokF a p).fin - p) by omega] at h5
        exact h5
    have ht := tok_same a u p q hp hok hS (by
      rcases hnext with h | ⟨h, h'⟩
      · exact .inl h
      · exact .inr ⟨h, .inl (by rw [h']; rfl)⟩)
    refine ⟨by rw [hb]; exact hbl, ?_, ?_⟩
    · rw [openB u q (by omega)]
      rw [openB a p (by omega)] at hrem
      rw [hb]
      by_cases h2p : p + 2 ≤ (tokF a p).fin
      · have h6 := hS.2.2 1 (by omega)
        rw [← h6]
        rw [decide_eq_true (show p + 2 ≤ a.size by omega), Bool.true_and] at hrem
        rw [hrem, Bool.and_false]
      · have h7 : (tokF a p).fin - p = 1 := by omega
        rw [h7] at hnext
        rcases hnext with h | ⟨h, h'⟩
        · rw [decide_eq_false (by omega)]; rfl
        · rw [h']; simp
    · rw [ht]
      simp only [Tk.mk.injEq, true_and, and_true]
      omega
end Go.Proofs.YtjbcjcibnjbpcaaDoor.Idl
namespace Go.Proofs.YtjbcjcibnjbpcaaDoor.Idl
open Go
set_option maxHeartbeats 8000000
set_option maxRecDepth 100000
set_option linter.unusedSimpArgs false
/-- A token of a text that begins at its place. -/
def TkAt (a : ByteArray) (x : Nat × Tk) : Prop := x.1 < a.size ∧ x.2 = tokF a x.1 ∧ x.2.ok = true ∧ blankB (bt a x.1) = false ∧ prefixB (a.extract x.1 a.size) ⟨#[40, 42]⟩ = false
def plF : Nat → List (Nat × Tk) → List (Nat × Tk)
  | _, [] => []
  | q, t :: r => (q, { t.2 with fin := q + (tkS t.2).size }) :: plF (q + (tkS t.2).size + 1) r
theorem chain_good (a : ByteArray) : ∀ (l : List (Nat × Tk)) (p : Nat), Chain a p l → p ≤ a.size → (∀ x ∈ l, TkAt a x) ∧ (prF false l).length ≤ 4 * (a.size - p) := by
  intro l
  induction l with
  | nil => intro p _ _; exact ⟨by simp, by simp [prF]⟩
  | cons t r ih =>
    intro p h hp
    obtain ⟨g1, g2, g3, g4, g5⟩ := h
    have hge := (skipL_ge a (a.size + 1) p).1
    rw [g1] at hge
    simp only at hge
    obtain ⟨n1, n2⟩ := skip_stop a (a.size + 1) p t.1 (by omega) g1 g2 hp
    have hok : (tokF a t.1).ok = true := by rw [← g3]; exact g4
    have hend := tokF_end a t.1 g2 hok
    have hlen := tok_len a t.1 g2 hok
    rw [← g3] at hend hlen
    obtain ⟨i1, i2⟩ := ih t.2.fin g5 hend.2
    refine ⟨fun x hx => ?_, ?_⟩
    · rcases List.mem_cons.1 hx with rfl | hx
      · exact ⟨g2, g3, g4, n1, n2⟩
      · exact i1 x hx
    · simp only [prF, List.length_append, bytesI_length, Bool.false_eq_true, if_false, List.length_cons, List.length_nil]
      omega
theorem prF_byl : ∀ (l : List (Nat × Tk)) (b : Bool), ByL (prF b l) := by
  intro l
  induction l with
  | nil => intro b x hx; simp [prF] at hx
  | cons t r ih =>
    intro b
    simp only [prF]
    refine ByL.append ?_ (ByL.append (byl_bytes _) (ih false))
    cases b <;> intro x hx <;> simp at hx
    omega
theorem lexF_print (a u : ByteArray) : ∀ (r : List (Nat × Tk)) (t : Nat × Tk) (k q : Nat) (acc : List (Nat × Tk)), (∀ x ∈ t :: r, TkAt a x) → At u q (bytesI (tkS t.2) ++ prF false r) → acc.length + r.length + 1 ≤ 4000 → u.size < k + q →
    lexF u k q acc = .ok (acc ++ plF q (t :: r)) := by
  intro r
  induction r with
  | nil =>
    intro t k q acc hg hA hl hk
    obtain ⟨g2, g3, g4, g5, g6⟩ := hg t (by simp)
    have hok : (tokF a t.1).ok = true := by rw [← g3]; exact g4
    rw [g3] at hA
    obtain ⟨p1, p2, p3, p4⟩ := tok_print a t.1 g2 hok g5 g6 u q [] hA (.inl rfl)
    have hsz := hA.1
    rw [List.length_append, bytesI_length] at hsz
    simp only [prF, List.length_nil] at hsz
    obtain ⟨k, rfl⟩ : ∃ m, k = m + 1 + 1 := ⟨k - 2, by have := (tok_len a t.1 g2 hok).2; omega⟩
    rw [lexF_tok u q p1 p2 ((remS_zero _).2 p3), p4, if_neg (by simp [hok]), if_neg (by simp at hl; omega)]
    simp only
    rw [lexF_end u _ (by omega) (by omega)]
    simp only [plF]
    rw [g3]
  | cons t' r ih =>
    intro t k q acc hg hA hl hk
    obtain ⟨g2, g3, g4, g5, g6⟩ := hg t (by simp)
    have hok : (tokF a t.1).ok = true := by rw [← g3]; exact g4
    rw [g3] at hA
    have hpr : prF false (t' :: r) = 32 :: (bytesI (tkS t'.2) ++ prF false r) := by simp [prF]
    rw [hpr] at hA
    obtain ⟨p1, p2, p3, p4⟩ := tok_print a t.1 g2 hok g5 g6 u q _ hA (.inr ⟨_, rfl⟩)
    have hA2 := hA.drop
    rw [bytesI_length] at hA2
    obtain ⟨b1, b2⟩ := At.head hA2
    have hpos := (tok_len a t.1 g2 hok).2
    obtain ⟨k, rfl⟩ : ∃ m, k = m + 1 := ⟨k - 1, by omega⟩
    rw [lexF_tok u q p1 p2 ((remS_zero _).2 p3), p4, if_neg (by simp [hok]), if_neg (by simp at hl; omega)]
    simp only
    rw [lexF_blank u _ b1 (by rw [b2]; rfl), ih t' k (q + (tkS (tokF a t.1)).size + 1) _ (fun x hx => hg x (by simp at hx ⊢; right; exact hx)) hA2.tail (by simp at hl ⊢; omega) (by omega), List.append_assoc]
    simp only [plF, List.cons_append, List.nil_append]
    rw [g3]
theorem chain_len2 (s : ByteArray) (l : List (Nat × Tk)) (h : lexR s = .ok l) : l.length ≤ s.size := by
  have := chain_len s l 0 (lexR_chain s l h) (by omega)
  omega
/-- The tokens of a text, printed, are cut into the same ones. -/
theorem lex_back (a : ByteArray) (ha : a.size ≤ 3000) (l : List (Nat × Tk)) (h : lexR a = .ok l) : lexR (strOf (prF true l)) = .ok (plF 0 l) := by
  have hch := lexR_chain a l h
  have hll := chain_len2 a l h
  obtain ⟨hg, hlen⟩ := chain_good a l 0 hch (by omega)
  have hA := At.start _ (prF_byl l true)
  have hsz := strOf_size (prF true l)
  cases l with
  | nil => exact (show lexR (strOf []) = LR.ok [] by kernel_rfl)
  | cons t r =>
    have hpr : prF true (t :: r) = bytesI (tkS t.2) ++ prF false r := by simp [prF]
    have hpr2 : prF false (t :: r) = 32 :: prF true (t :: r) := by simp [prF]
    rw [hpr2] at hlen
    simp only [List.length_cons] at hlen hll
    rw [hpr] at hA
    rw [← hpr] at hA
    generalize hu : strOf (prF true (t :: r)) = u at *
    rw [hpr] at hA
    unfold lexR
    rw [if_neg (by omega), lexF_print a u r t _ 0 [] hg hA (by simp; omega) (by omega), List.nil_append]
theorem plF_same : ∀ (l : List (Nat × Tk)) (q : Nat) (b : Bool), prF b (plF q l) = prF b l := by
  intro l
  induction l with
  | nil => intro q b; rfl
  | cons t r ih => intro q b; simp only [plF, prF]; rw [ih]; rfl
theorem plF_len : ∀ (l : List (Nat × Tk)) (q : Nat), (plF q l).length = l.length := by
  intro l
  induction l with
  | nil => intro q; rfl
  | cons t r ih => intro q; simp only [plF, List.length_cons, ih]
/-- A token without its place. -/
def bareT (t : Nat × Tk) : Nat × Tk := (0, t.2)
theorem plF_bare : ∀ (l : List (Nat × Tk)) (q : Nat), ((plF q l).map bareT).map tkC = (l.map bareT).map tkC := by
  intro l
  induction l with
  | nil => intro q; rfl
  | cons t r ih => intro q; simp only [plF, List.map_cons, ih]; rfl
/-- The tokens of a text print. -/
theorem good_ok (a : ByteArray) (ha : a.size ≤ 3000) (t : Nat × Tk) (h : TkAt a t) : TokOk t.2 := by
  obtain ⟨g2, g3, g4, g5, g6⟩ := h
  have hok : (tokF a t.1).ok = true := by rw [← g3]; exact g4
  rw [g3]
  rcases tok_cases a t.1 g2 hok with ⟨n, h1, h2, h3, h4⟩ | ⟨l, e, h1, h2, h3⟩ | ⟨h1, h2⟩
  · rw [h4]; exact ⟨fun _ => fmt_ok n (by omega) (by omega), fun h => absurd h (by simp)⟩
  · rw [h3]; exact ⟨fun h => absurd h (by simp), fun _ => c28 _ (by rw [strOf_size]; omega)⟩
  · exact ⟨fun h => absurd h h1, fun h => absurd h h2⟩
theorem plF_ok (P : Tk → Prop) (hP : ∀ t f, P t → P { t with fin := f }) : ∀ (l : List (Nat × Tk)) (q : Nat), (∀ t ∈ l, P t.2) → ∀ t ∈ plF q l, P t.2 := by
  intro l
  induction l with
  | nil => intro q _ t ht; simp [plF] at ht
  | cons a r ih =>
    intro q h t ht
    simp only [plF, List.mem_cons] at ht
    rcases ht with rfl | ht
    · exact hP _ _ (h a (by simp))
    · exact ih _ (fun x hx => h x (by simp [hx])) t ht
end Go.Proofs.YtjbcjcibnjbpcaaDoor.Idl
namespace Go.Proofs.YtjbcjcibnjbpcaaDoor.Idl
open Go
set_option maxHeartbeats 16000000
set_option maxRecDepth 100000
set_option linter.unusedSimpArgs false
theorem loop19 (tb c lo : Nat) (l : List (Nat × Tk)) (hl : l.length ≤ 4000) (htb : tb < lo) : ∀ (n i : Nat) (H : IH) (v : Value) (T : Regs),
    l.length - i = n → i ≤ l.length → lo ≤ H.next → TkRow H tb l → TksAt H v ((l.take i).map bareT) lo →
    T.at 3 = v → T.at 6 = .slice (some ⟨tb, 0, none⟩) l.length c → T.at 7 = .int .i64 (l.length : Int) → T.at 8 = .int .i64 (i : Int) →
    ∃ T' H' v', run J okAll (.loop L19_0) T H = some (.exit 0, T', H') ∧ H.next ≤ H'.next ∧ (∀ x, x < lo → H'.get x = H.get x) ∧ TksAt H' v' (l.map bareT) lo ∧ T'.at 3 = v' := by
  intro n
  induction n with
  | zero =>
    intro i H v T hn hi hlo hrow hv t3 t6 t7 t8
    have hiN : i = l.length := by omega
    subst hiN
    rw [List.take_length] at hv
    have : ∃ T', run J okAll (.loop L19_0) T H = some (.exit 0, T', H) ∧ T'.at 3 = v := by
      rw [r_loop]
      simp [L19_0, t3, t6, t7, t8]
    obtain ⟨T', e, a⟩ := this
    exact ⟨T', H, v, e, Nat.le_refl _, fun _ _ => rfl, hv, a⟩
  | succ n ih =>
    intro i H v T hn hi hlo hrow hv t3 t6 t7 t8
    have hlt : i < l.length := by omega
    have w1 : IntKind.i64.wrap ((i : Int) + 1) = (i : Int) + 1 := wrap64 _ (by omega) (by omega)
    have hc := hrow i hlt
    have htk : (l.take (i + 1)).map bareT = (l.take i).map bareT ++ [bareT l[i]] := by rw [List.take_succ_eq_append_getElem hlt, List.map_append]; rfl
    have hll : ((l.take i).map bareT).length = i := by rw [List.length_map, List.length_take]; omega
    generalize l[i] = t at *
    have hvp : TksAt (H.push (.cells (tkC (bareT t)) 31 false)) v ((l.take i).map bareT) lo := hv.mono (by simp) (fun x hx1 hx2 => IH.get_push_other _ _ _ hx2)
    obtain ⟨v', H3, ea, hv3, hn3, hf3⟩ := rsApp rt23 hvp (by simp; omega) (by rw [List.length_map, hll]; omega) (tkC (bareT t)) rfl (by simp [tkC, plain1])
    have z0 : ((0 : Nat) : Int) = 0 := rfl
    simp only [tkC, bareT, IH.next_push, z0] at ea hc
    have : ∃ T1, run J okAll (.loop L19_0) T H = run J okAll (.loop L19_0) T1 H3 ∧ T1.at 3 = v' ∧ T1.at 6 = .slice (some ⟨tb, 0, none⟩) l.length c ∧ T1.at 7 = .int .i64 (l.length : Int) ∧ T1.at 8 = .int .i64 ((i : Int) + 1) := by
      rw [r_loop]
      simp [L19_0, t3, t6, t7, t8, hlt, w1, iindexAddr, hc, inew, istore, Value.cells, plain1, overlay, IH.get_push, IH.get_set, iparts, bs23, push_set, ea]
      exact ⟨_, rfl, by simp, by simp [t6], by simp [t7], by simp⟩
    obtain ⟨T1, e0, f3, f6, f7, f8⟩ := this
    obtain ⟨T', H', v2, r1, r2, r3, r4, r5⟩ := ih (i + 1) H3 v' T1 (by omega) (by omega) (by simp at hn3; omega) (fun j hj => by rw [hf3 tb htb, IH.get_push_other _ _ _ (by omega)]; exact hrow j hj)
      (by unfold TksAt; rw [htk, List.map_append]; exact hv3) f3 f6 f7 (by rw [f8]; simp)
    refine ⟨T', H', v2, by rw [e0, r1], by simp at hn3; omega, fun x hx => ?_, r4, r5⟩
    rw [r3 x hx, hf3 x hx, IH.get_push_other _ _ _ (by omega)]
theorem c19 (H : IH) (v : Value) (l : List (Nat × Tk)) (lo0 : Nat) (hl : l.length ≤ 4000) (hv : TksAt H v l lo0) : ∃ H' v', Fr H.next H H' ∧ cal J okAll 19 #[v] H = some (.ret v', H') ∧ TksAt H' v' (l.map bareT) H.next := by
  have hnil : TksAt H (.slice none 0 0) [] H.next := ⟨by simp, .inl ⟨rfl, rfl⟩⟩
  rw [cal19 _ _ (by simp)]
  by_cases h0 : l = []
  · subst h0
    have a : v = .slice none 0 0 ∨ ∃ b, v = .slice (some ⟨b, 0, none⟩) 0 capU := by
      rcases hv.2 with ⟨h, _⟩ | ⟨b, _, _, h, _⟩
      · exact .inl h
      · exact .inr ⟨b, h⟩
    refine ⟨H, .slice none 0 0, Fr.refl _ _, ?_, hnil⟩
    have e : ∀ T : Regs, T.at 3 = .slice none 0 0 → T.at 7 = .int .i64 0 → T.at 8 = .int .i64 0 → ∃ T', run J okAll (.loop L19_0) T H = some (.exit 0, T', H) ∧ T'.at 3 = .slice none 0 0 := fun T t3 t7 t8 => by
      rw [r_loop]
      simp [L19_0, t3, t7, t8]
    rcases a with rfl | ⟨b, rfl⟩
    all_goals
      simp [C19, R19, regsOf, fin, iresult1]
      generalize hX : run J okAll (.loop L19_0) _ _ = X
      obtain ⟨T1, e1, t3, t7, t8⟩ : ∃ T1, run J okAll (.loop L19_0) T1 H = X ∧ T1.at 3 = .slice none 0 0 ∧ T1.at 7 = .int .i64 0 ∧ T1.at 8 = .int .i64 0 := ⟨_, hX, by simp, by simp, by simp⟩
      obtain ⟨T', r, r3⟩ := e T1 t3 t7 t8
      rw [← e1, r]
      simp [fin, iresult1, r3]
  · obtain ⟨b, hb0, hb1, rfl, hg⟩ := hv.row h0
    have hrow : TkRow H b l := fun i hi => tks_cell hv hi
    have key := fun T => loop19 b capU H.next l hl hb1 _ 0 H (.slice none 0 0) T rfl (by omega) (Nat.le_refl _) hrow hnil
    simp [C19, R19, regsOf, fin, iresult1]
    generalize hX : run J okAll (.loop L19_0) _ _ = X
    obtain ⟨T1, e1, t3, t6, t7, t8⟩ : ∃ T1, run J okAll (.loop L19_0) T1 H = X ∧ T1.at 3 = .slice none 0 0 ∧ T1.at 6 = .slice (some ⟨b, 0, none⟩) l.length capU ∧ T1.at 7 = .int .i64 (l.length : Int) ∧ T1.at 8 = .int .i64 ((0 : Nat) : Int) := ⟨_, hX, by simp, by simp, by simp, by simp⟩
    obtain ⟨T', H', v', r1, r2, r3, r4, r5⟩ := key T1 t3 t6 t7 t8
    rw [← e1, r1]
    exact ⟨H', ⟨r2, r3⟩, v', by simp [fin, iresult1, r5], r4⟩
end Go.Proofs.YtjbcjcibnjbpcaaDoor.Idl
namespace Go.Proofs.YtjbcjcibnjbpcaaDoor.Idl
open Go
set_option maxHeartbeats 16000000
set_option maxRecDepth 100000
set_option linter.unusedSimpArgs false
theorem TksAt.weaken {H : IH} {v : Value} {l : List (Nat × Tk)} {lo lo' : Nat} (h : TksAt H v l lo) (hl : lo' ≤ lo) : TksAt H v l lo' := by
  refine ⟨h.1, ?_⟩
  rcases h.2 with h | ⟨b, h1, h2⟩
  · exact .inl h
  · exact .inr ⟨b, by omega, h2⟩
theorem TksAt.prints {H : IH} {v : Value} {l : List (Nat × Tk)} {lo : Nat} (h : TksAt H v l lo) : (v = .slice none 0 0 ∧ l = []) ∨ ∃ tb c, v = .slice (some ⟨tb, 0, none⟩) l.length c ∧ tb < H.next ∧ TkRow H tb l := by
  have h0 := h
  rcases h.2 with ⟨h1, h2⟩ | ⟨b, h1, h2, h3, h4⟩
  · rw [List.map_eq_nil_iff] at h2; exact .inl ⟨h1, h2⟩
  · rw [List.length_map] at h3
    subst h3
    exact .inr ⟨b, capU, rfl, h2, fun i hi => tks_cell h0 hi⟩
theorem TksAt.fr {H H' : IH} {v : Value} {l : List (Nat × Tk)} {lo : Nat} (h : TksAt H v l lo) (f : Fr H.next H H') : TksAt H' v l lo := h.mono f.1 (fun x _ hx => f.2 x hx)
theorem c5 (H : IH) (hG : Glob H) (s0 : ByteArray) : ∃ H', Fr H.next H H' ∧ cal J okAll 5 #[.string s0] H = some (.ret (.bool true), H') := by
  have h9 := hG.2.2
  have h12 := c12 H s0
  have hs := cut_size s0
  generalize cutF s0 = s at *
  obtain ⟨H1, v1, f1, e1, hv1⟩ := c13 H s hG (by omega)
  have hG1 := hG.mono h9 f1
  cases hlx : lexR s with
  | err e a =>
    rw [hlx] at e1
    simp only [LR.errno, LR.pos] at e1
    have he := lexR_err s e a hlx
    obtain ⟨H2, f2, e2⟩ := c16 H1 hG1
    refine ⟨H2, f1.trans' f2 f1.1, ?_⟩
    rw [cal5 _ _ (by simp)]
    rcases he with rfl | rfl <;> simp [C5, R5, regsOf, fin, iresult1, h12, e1, e2]
  | ok l =>
    rw [hlx] at e1 hv1
    simp only [LR.errno, LR.pos, LR.toks] at e1 hv1
    have hlen := chain_len2 s l hlx
    obtain ⟨hgood, hplen⟩ := chain_good s l 0 (lexR_chain s l hlx) (by omega)
    have hback := lex_back s hs l hlx
    have hpt : (prF true l).length ≤ (prF false l).length := by
      cases l with
      | nil => simp [prF]
      | cons t r => simp [prF]
    obtain ⟨H2, f2, e2⟩ := c17 H1 v1 l (by omega) (fun t ht => good_ok s hs t (hgood t ht)) (by omega) hv1.prints
    have f02 := f1.trans' f2 f1.1
    have hG2 := hG.mono h9 f02
    obtain ⟨H3, v3, f3, e3, hv3⟩ := c13 H2 (strOf (prF true l)) hG2 (by rw [strOf_size]; omega)
    rw [hback] at e3 hv3
    simp only [LR.errno, LR.pos, LR.toks] at e3 hv3
    have f03 := f02.trans' f3 f02.1
    have hv13 : TksAt H3 v1 l H.next := (hv1.fr f2).fr f3
    obtain ⟨H4, b1, f4, e4, hb1⟩ := c19 H3 v1 l _ (by omega) hv13
    have f04 := f03.trans' f4 f03.1
    obtain ⟨H5, b2, f5, e5, hb2⟩ := c19 H4 v3 (plF 0 l) _ (by rw [plF_len]; omega) (hv3.fr f4)
    have f05 := f04.trans' f5 f04.1
    have hb1' := (hb1.fr f5).weaken (Nat.le_refl H3.next)
    have hb2' := tks_conv (hb2.weaken f4.1) (plF_bare l 0)
    have e6 := c15 H5 b1 b2 (l.map bareT) H3.next (by rw [List.length_map]; omega) hb1' hb2'
    have hv35 : TksAt H5 v3 (plF 0 l) H2.next := (hv3.fr f4).fr f5
    obtain ⟨H6, f6, e7⟩ := c17 H5 v3 (plF 0 l) (by rw [plF_len]; omega) (plF_ok TokOk (fun t f h => h) l 0 (fun t ht => good_ok s hs t (hgood t ht))) (by rw [plF_same]; omega) hv35.prints
    rw [plF_same] at e7
    have f06 := f05.trans' f6 f05.1
    obtain ⟨H7, f7, e8⟩ := c16 H6 (hG.mono h9 f06)
    refine ⟨H7, f06.trans' f7 f06.1, ?_⟩
    generalize strOf (prF true l) = u at *
    rw [cal5 _ _ (by simp)]
    simp [C5, R5, regsOf, fin, iresult1, h12, e1, e2, e3, e4, e5, e6, e7, e8]
end Go.Proofs.YtjbcjcibnjbpcaaDoor.Idl
namespace Go.Proofs.YtjbcjcibnjbpcaaDoor
open Go Go.ChangeShapes Go.WideShapes Go.ChangeAt Go.RowKit
set_option maxRecDepth 100000
theorem own : ownKnob Tryd.prog.godebug = .none := by kernel_rfl
theorem und4 : Tryd.prog.underlying 4 = some .bool := by kernel_rfl
theorem und9 : Tryd.prog.underlying 9 = some .string := by kernel_rfl
theorem laidH (W : World) : laidMetH Tryd.prog Rows.lexBackRow.laid W = laidMet Tryd.prog Rows.lexBackRow.laid W := MakeChecks.laidMetH_plain _ _ _ (by kernel_rfl)
theorem func5 : Tryd.prog.funcs[5]? = some Tryd.f5 := by kernel_rfl
theorem params5 : Tryd.f5.params = #[9] := by kernel_rfl
theorem law5 {W : World} (hL : laidMet Tryd.prog Rows.lexBackRow.laid W) (x0 : ByteArray) : Calls Tryd.prog 5 #[.string x0] W fun e W' => e = .returned (.bool true) ∧ Below W.heap.size W W' := by
  obtain ⟨H', _, hc⟩ := Idl.c5 Idl.H0 Idl.H0_glob x0
  exact Idl.law_calls hL rfl hc
theorem lifted5 (os : Os) (started : os.Started) (H : Type) (enc : TypeId × Value → H) :
    ReturnsInHanded {} Tryd.checked os 5 .any (fun w args => (Rows.lexBackSpec.pre enc Tryd.prog Tryd.f5 [] false w args ∧ laidMetH Tryd.prog Rows.lexBackRow.laid w) ∧ sizedMet enc Tryd.prog Tryd.f5 (OpenSpec.ofChange Rows.lexBackSpec) false w args)
      (Rows.lexBackSpec.post enc Tryd.prog Tryd.f5 false true false false) := by
  refine returnsInHanded_of_change_and (C := Tryd.checked) (X := fun w _ => laidMetH Tryd.prog Rows.lexBackRow.laid w) (fun _ _ _ hh h => h.of_heap hh) own started (by kernel_rfl) func5
    (ChangeSpec.witness_shaped (enc := enc) (C := Tryd.checked) (os := os) (X := fun w _ => laidMetH Tryd.prog Rows.lexBackRow.laid w) false (World.laidAll Tryd.prog os Rows.lexBackRow.laid) #[.string ⟨#[]⟩] 8 (World.laidAll_os _ _ _)
      (World.shaped_of_ZipB (by kernel_rfl) (by kernel_rfl)) (by kernel_rfl) (by kernel_rfl) (by kernel_rfl)
      (by rw [laidH]; exact laidMet_laidAll _ (by kernel_rfl) (by kernel_rfl))) ?_
  intro W base args ds gs before hval0 hW hc _ hL _
  have hval : ∀ (j : Nat) t v, Tryd.f5.params[j]? = some t → args[j]? = some v → Value.okWide Tryd.prog W .any base t v := hval0
  have hW' := hW
  obtain ⟨p, q, hA0, hV, rfl, _, _⟩ := hW
  have hA : DataW.TrodAll enc Tryd.prog W 0 (fun _ => true) true Tryd.f5.params.toList args.toList ds p := hA0
  rw [params5] at hA hval
  obtain ⟨v0, d0, rfl, rfl, h0⟩ := trodAll_one hA
  obtain ⟨rfl, rfl⟩ := trodVars_none hV
  obtain ⟨x0, rfl, rfl, rfl, hs0⟩ := ChangeMaps.open_string und9 (hval 0 9 v0 rfl rfl) h0
  simp only [List.append_nil] at hW'
  rw [laidH] at hL
  refine (law5 hL x0).mono fun e W' ⟨he, hB⟩ => ?_
  subst he
  refine ⟨_, rfl, _, _, _, [], [], [], hW', ?_, ?_, ?_, Idl.keptBut_of_below hB _, fun h => by cases h⟩
  · exact trodAll_mk1 (shut_bool und4 true)
  · exact trodAll_mk1 (ChangeMaps.shut_string und9 hs0)
  · rfl
theorem lexBack_holds : Rows.LexBackSaid :=
  OpenClaim.holds_of_wide 5 Tryd.f5 rfl rfl rfl rfl rfl rfl rfl ⟨rfl, rfl, rfl, rfl, rfl⟩ rfl rfl rfl rfl rfl (by kernel_rfl) func5 (by kernel_rfl)
    (of_decide_eq_true (by kernel_rfl)) (by unfold Func.isWrapper; first | (rw [if_pos (by decide +kernel)]; kernel_rfl) | (rw [if_neg (by decide +kernel)]; exact ⟨rfl, rfl⟩))
    (fun os started H enc _ => lifted5 os started H enc)
theorem lexBack_card : Rows.LexBackCardSaid :=
  Claim7.holds_tied_plain_at .later [] [.data, .data, .data, .sentinel, .sentinel, .listed, .data] true (true, "17391ddf44905ff62b8b72145bd5a67fc3f5c2f6327286b0eb46ce065c3c73e4") true
    lexBack_holds (fun _ h => by cases h) (by kernel_rfl) (fun _ h => by cases h) lexBack_row_tie rfl ⟨rfl, rfl⟩ (by kernel_rfl) rfl
    (fun f fn hf hfn => by
      obtain rfl : f = 5 := Option.some.inj ((show Tryd.prog.funcNamed "bellows/bellowslaw07.LexBack" = some 5 by kernel_rfl).symm.trans hf) |>.symm
      obtain rfl : fn = Tryd.f5 := (Option.some.inj (func5.symm.trans hfn)).symm
      exact ⟨by kernel_rfl, fun j t ht => by
        rw [params5] at ht
        have hm : t ∈ [9] := by simpa using Array.mem_of_getElem? ht
        have hall : ([9].all fun u => !Tryd.prog.wantsStandIn u) = true := by kernel_rfl
        have := List.all_eq_true.1 hall t hm
        exact (show Tryd.prog.wantsStandIn t = false by simpa using this)⟩)
    (by kernel_rfl)
#print axioms lexBack_card
end Go.Proofs.YtjbcjcibnjbpcaaDoor
