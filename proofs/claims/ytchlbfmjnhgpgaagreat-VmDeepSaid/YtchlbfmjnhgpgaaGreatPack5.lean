/- VmDeep: calls within calls take their slots and two words each: for every input the law answers true: the row. Conditions: none but the row's own. -/
import Derived.Test.YtchlbfmjnhgpgaaGreatPack4
import Derived.Test.YtchlbfmjnhgpgaaGreatRows
import Derived.ChangeMaps5
import Derived.RowKitTokens
import Derived.ProofKit
import Derived.ChangeAt2
namespace Go.Proofs.YtchlbfmjnhgpgaaGreat.Idl
open Go
set_option maxHeartbeats 8000000
set_option maxRecDepth 100000
set_option linter.unusedSimpArgs false
section
variable {H : IH} {lo : Nat}
theorem step70b {v : Value} {l : List Bl} (hv : LAt lo 2 (BlAt H lo) v l) (hlo : lo ≤ H.next) (hl : l.length ≤ 100000) (K : Nat → Value) {i : Nat} {T : Regs} {H' : IH} {left : Int} {x : Bl} (hj : l[i]? = some x) (hxl : x.code.length ≤ 4611686018427387904) (hf : Fr H.next H H')
    (hlf : 0 ≤ left ∧ left ≤ 20000) (hK : ∀ t, t < 104 ∧ t ≠ 7 ∧ t ≠ 11 ∧ t ≠ 13 ∧ t ≠ 103 → T.at t = K t) (t7 : T.at 7 = .int .i64 left) (tv : T.at 101 = v) (tl : T.at 102 = .int .i64 (l.length : Int)) (ti : T.at 103 = .int .i64 (i : Int)) :
    ∃ T1 H2, Fr H.next H H2 ∧ (((decide (left - x.code.length < 0) || decide ((200 : Int) < x.inn.length) || x.code.any bigCode) = true ∧ run J okAll (.loop L70_3) T H' = some (.ret, T1, H2) ∧ T1.at 2 = .bool true) ∨
      ((decide (left - x.code.length < 0) || decide ((200 : Int) < x.inn.length) || x.code.any bigCode) = false ∧ run J okAll (.loop L70_3) T H' = run J okAll (.loop L70_3) T1 H2 ∧ (∀ t, t < 104 ∧ t ≠ 7 ∧ t ≠ 11 ∧ t ≠ 13 ∧ t ≠ 103 → T1.at t = K t) ∧ T1.at 7 = .int .i64 (left - x.code.length) ∧ T1.at 103 = .int .i64 ((i + 1 : Nat) : Int))) := by
  obtain ⟨b, o, c, rfl, hb, hlt, hcell⟩ := hv.get hj
  have hsb : SameB lo H H' := fun z hz => hf.2 z (Nat.lt_of_lt_of_le hz hlo)
  have hw1 : IntKind.i64.wrap ((i : Int) + 1) = ((i + 1 : Nat) : Int) := by rw [wrap64 _ (by omega) (by omega)]; simp
  have hw2 : IntKind.i64.wrap (left - x.code.length) = left - x.code.length := by rw [wrapI]; omega
  have hn := hf.1
  have nx2 : ¬ H'.next = H'.next + 1 + 1 := by omega
  obtain ⟨cs, pr, vi, vc, g0, g1, g2, g3, g4⟩ := hcell.ex
  replace g0 := (hsb b hb).trans g0
  obtain ⟨ia, ic, rfl, _⟩ := id g3
  obtain ⟨ca, cc, rfl, _⟩ := id g4
  have hco : cellsOf (some (.cells cs 56 pr)) (o + i * 2) 2 = some [.slice ia x.inn.length ic, .slice ca x.code.length cc] := cellsOf_of rfl (by omega) fun j hj => by
    match j, hj with
    | 0, _ => simpa using g1
    | 1, _ => simpa using g2
  by_cases hp : left - x.code.length < 0
  · have hd : decide (left - (x.code.length : Int) < 0) = true := decide_eq_true hp
    obtain ⟨T', H'', key, hF⟩ : ∃ T' H'', (run J okAll (.loop L70_3) T H' = some (.ret, T', H'') ∧ T'.at 2 = .bool true) ∧ Fr H.next H H'' := by
      rw [r_loop]
      simp [L70_3, tv, tl, ti, t7, hlt, iindexAddr, g0, hco, loadT_agg, inew, istore, Value.cells, plain1, overlay, IH.get_push, IH.get_set, iparts, -IH.next_set, -IH.next_push, nxs, nxp, nx2, hw2, hd, bs_int1, ov_int1]
      refine ⟨_, _, ⟨⟨rfl, rfl⟩, by simp⟩, ?_⟩
      repeat' first | exact hf | apply Fr.push | apply Fr.set
      all_goals first | omega | (simp <;> omega)
    exact ⟨T', H'', hF, .inl ⟨by simp only [hd, Bool.true_or], key⟩⟩
  have hd : decide (left - (x.code.length : Int) < 0) = false := decide_eq_false hp
  by_cases hq : (200 : Int) < x.inn.length
  · have he : decide ((200 : Int) < x.inn.length) = true := decide_eq_true hq
    obtain ⟨T', H'', key, hF⟩ : ∃ T' H'', (run J okAll (.loop L70_3) T H' = some (.ret, T', H'') ∧ T'.at 2 = .bool true) ∧ Fr H.next H H'' := by
      rw [r_loop]
      simp [L70_3, tv, tl, ti, t7, hlt, iindexAddr, g0, hco, loadT_agg, inew, istore, Value.cells, plain1, overlay, IH.get_push, IH.get_set, iparts, -IH.next_set, -IH.next_push, nxs, nxp, nx2, hw2, hd, he, bs_int1, ov_int1]
      refine ⟨_, _, ⟨⟨rfl, rfl⟩, by simp⟩, ?_⟩
      repeat' first | exact hf | apply Fr.push | apply Fr.set
      all_goals first | omega | (simp <;> omega)
    exact ⟨T', H'', hF, .inl ⟨by simp only [hd, he, Bool.true_or, Bool.or_true], key⟩⟩
  have he : decide ((200 : Int) < x.inn.length) = false := decide_eq_false hq
  simp only [hd, he, Bool.false_or]
  obtain ⟨T2, G, eq, hF, f2, f7, f103, f121, f122, f123⟩ : ∃ T2 G, run J okAll (.loop L70_3) T H' = rseq J okAll (.loop L70_3) (rseq J okAll (.region 33 #[Idl.o 140 (.binOp .add 3 (.tmp 103) (xi 1) 3) 3, Idl.o 103 (.move (.tmp 140)) 3] false) (blockOut 7 (blockOut 8 (run J okAll (.loop L70_2) T2 G)))) ∧ Fr H.next H G ∧
      (∀ t, t < 104 ∧ t ≠ 7 ∧ t ≠ 11 ∧ t ≠ 13 ∧ t ≠ 103 → T2.at t = K t) ∧ T2.at 7 = .int .i64 (left - x.code.length) ∧ T2.at 103 = .int .i64 (i : Int) ∧ T2.at 121 = .slice ca x.code.length cc ∧ T2.at 122 = .int .i64 (x.code.length : Int) ∧ T2.at 123 = .int .i64 ((0 : Nat) : Int) := by
    rw [r_loop]
    simp [L70_3, tv, tl, ti, t7, hlt, iindexAddr, g0, hco, loadT_agg, inew, istore, Value.cells, plain1, overlay, IH.get_push, IH.get_set, iparts, -IH.next_set, -IH.next_push, nxs, nxp, nx2, hw2, hd, he, bs_int1, ov_int1]
    refine ⟨_, _, rfl, ?_, fun t h1 h2 h3 h4 h5 => by simp (disch := omega) only [at_set_om]; exact hK t ⟨h1, h2, h3, h4, h5⟩, by simp, by simp [ti], by simp, by simp, by simp⟩
    repeat' first | exact hf | apply Fr.push | apply Fr.set
    all_goals first | omega | (simp <;> omega)
  have hc100 : x.code.length ≤ 100000 := by omega
  obtain ⟨T3, H3, f3, d⟩ := loop70c g4 hlo hc100 (fun t => T2.at t) x.code 0 T2 G rfl (by omega) hF (fun t ht => rfl) f121 f122 f123
  rcases d with ⟨d1, d2, d3⟩ | ⟨d1, d2, d3⟩
  · refine ⟨T3, H3, f3, .inl ⟨d1, ?_, d3⟩⟩
    rw [eq, d2]
    simp
  · rw [d2] at eq
    have k7 := (d3 7 (by omega)).trans f7
    have k103 := (d3 103 (by omega)).trans f103
    obtain ⟨T4, e4, q1, q2, q3⟩ : ∃ T4, rseq J okAll (.loop L70_3) (rseq J okAll (.region 33 #[Idl.o 140 (.binOp .add 3 (.tmp 103) (xi 1) 3) 3, Idl.o 103 (.move (.tmp 140)) 3] false) (blockOut 7 (blockOut 8 (some (.exit 8, T3, H3))))) = run J okAll (.loop L70_3) T4 H3 ∧
        (∀ t, t < 104 ∧ t ≠ 7 ∧ t ≠ 11 ∧ t ≠ 13 ∧ t ≠ 103 → T4.at t = K t) ∧ T4.at 7 = .int .i64 (left - x.code.length) ∧ T4.at 103 = .int .i64 ((i + 1 : Nat) : Int) := by
      simp [k103, hw1]
      exact ⟨_, rfl, fun t h1 h2 h3 h4 h5 => by simp (disch := omega) only [at_set_om]; exact (d3 t (by omega)).trans (f2 t ⟨h1, h2, h3, h4, h5⟩), by simp [k7], by simp⟩
    exact ⟨T4, H3, f3, .inr ⟨d1, eq.trans e4, q1, q2, q3⟩⟩
theorem loop70b {v : Value} {l : List Bl} (hv : LAt lo 2 (BlAt H lo) v l) (hlo : lo ≤ H.next) (hl : l.length ≤ 100000) (hsm : ∀ x ∈ l, x.code.length ≤ 4611686018427387904) (K : Nat → Value) : ∀ (rest : List Bl) (i : Nat) (T : Regs) (H' : IH) (left : Int), l.drop i = rest → i ≤ l.length → Fr H.next H H' → 0 ≤ left ∧ left ≤ 20000 →
    (∀ t, t < 104 ∧ t ≠ 7 ∧ t ≠ 11 ∧ t ≠ 13 ∧ t ≠ 103 → T.at t = K t) → T.at 7 = .int .i64 left → K 101 = v → K 102 = .int .i64 (l.length : Int) → T.at 103 = .int .i64 (i : Int) →
    ∃ T' H'', Fr H.next H H'' ∧ ((bigBlocks left rest = none ∧ run J okAll (.loop L70_3) T H' = some (.ret, T', H'') ∧ T'.at 2 = .bool true) ∨ (∃ left', bigBlocks left rest = some left' ∧ (0 ≤ left' ∧ left' ≤ 20000) ∧ run J okAll (.loop L70_3) T H' = some (.exit 6, T', H'') ∧ T'.at 7 = .int .i64 left' ∧ (∀ t, t < 104 ∧ t ≠ 7 ∧ t ≠ 11 ∧ t ≠ 13 ∧ t ≠ 103 → T'.at t = K t))) := by
  intro rest
  induction rest with
  | nil =>
    intro i T H' left hr hi hf hlf hK t7 tv tl ti
    have : i = l.length := by have := congrArg List.length hr; simp at this; omega
    subst this
    have tl := (hK 102 (by omega)).trans tl
    obtain ⟨T', key⟩ : ∃ T', run J okAll (.loop L70_3) T H' = some (.exit 6, T', H') ∧ T'.at 7 = .int .i64 left ∧ (∀ t, t < 104 ∧ t ≠ 7 ∧ t ≠ 11 ∧ t ≠ 13 ∧ t ≠ 103 → T'.at t = K t) := by
      rw [r_loop]
      simp [L70_3, tl, ti, t7]
      exact fun t h1 h2 h3 h4 h5 => by simp (disch := omega) only [at_set_om]; exact hK t ⟨h1, h2, h3, h4, h5⟩
    exact ⟨T', H', hf, .inr ⟨left, rfl, hlf, key⟩⟩
  | cons x rest ih =>
    intro i T H' left hr hi hf hlf hK t7 tv tl ti
    have hlt : i < l.length := by have := congrArg List.length hr; simp at this; omega
    have hj : l[i]? = some x := by have := congrArg (fun u => u[0]?) hr; simpa using this
    have hr2 : l.drop (i + 1) = rest := by rw [← List.tail_drop, hr]; rfl
    obtain ⟨T1, H2, f, d⟩ := step70b hv hlo hl K hj (hsm x (List.mem_of_getElem? hj)) hf hlf hK t7 ((hK 101 (by omega)).trans tv) ((hK 102 (by omega)).trans tl) ti
    unfold bigBlocks
    rcases d with ⟨d1, d2, d3⟩ | ⟨d1, d2, d3, d4, d5⟩
    · rw [if_pos d1]
      exact ⟨T1, H2, f, .inl ⟨rfl, d2, d3⟩⟩
    · rw [if_neg (by rw [d1]; simp), d2]
      have hle : ¬ left - x.code.length < 0 := by
        simp only [Bool.or_eq_false_iff, decide_eq_false_iff_not] at d1
        exact d1.1.1
      exact ih (i + 1) T1 H2 (left - x.code.length) hr2 (by omega) f (by omega) d3 d4 tv tl d5
end
end Go.Proofs.YtchlbfmjnhgpgaaGreat.Idl
namespace Go.Proofs.YtchlbfmjnhgpgaaGreat.Idl
open Go
set_option maxHeartbeats 8000000
set_option maxRecDepth 100000
set_option linter.unusedSimpArgs false
def bigFn (f : Fn) : Bool := decide (200 < f.slots) || decide ((200 : Int) < f.params.length) || decide ((2000 : Int) < f.blocks.length)
section
variable {H : IH} {lo : Nat}
theorem step70f {v : Value} {l : List Fn} (hv : LAt lo 4 (FnAt H lo) v l) (hlo : lo ≤ H.next) (hl : l.length ≤ 100000) (K : Nat → Value) {i : Nat} {T : Regs} {H' : IH} {left : Int} {x : Fn} (hj : l[i]? = some x) (hsm : ∀ y ∈ x.blocks, y.code.length ≤ 4611686018427387904) (hf : Fr H.next H H')
    (hlf : 0 ≤ left ∧ left ≤ 20000) (hK : ∀ t, t < 81 ∧ t ≠ 7 ∧ t ≠ 9 ∧ t ≠ 11 ∧ t ≠ 13 → T.at t = K t) (t7 : T.at 7 = .int .i64 left) (tv : T.at 79 = v) (tl : T.at 80 = .int .i64 (l.length : Int)) (ti : T.at 81 = .int .i64 (i : Int)) :
    ∃ T1 H2, Fr H.next H H2 ∧ (((bigFn x = true ∨ (bigFn x = false ∧ bigBlocks left x.blocks = none)) ∧ run J okAll (.loop L70_4) T H' = some (.ret, T1, H2) ∧ T1.at 2 = .bool true) ∨
      (∃ left', bigFn x = false ∧ bigBlocks left x.blocks = some left' ∧ (0 ≤ left' ∧ left' ≤ 20000) ∧ run J okAll (.loop L70_4) T H' = run J okAll (.loop L70_4) T1 H2 ∧ (∀ t, t < 81 ∧ t ≠ 7 ∧ t ≠ 9 ∧ t ≠ 11 ∧ t ≠ 13 → T1.at t = K t) ∧ T1.at 7 = .int .i64 left' ∧ T1.at 81 = .int .i64 ((i + 1 : Nat) : Int))) := by
  obtain ⟨b, o, c, rfl, hb, hlt, hcell⟩ := hv.get hj
  have hsb : SameB lo H H' := fun z hz => hf.2 z (Nat.lt_of_lt_of_le hz hlo)
  have hw1 : IntKind.i64.wrap ((i : Int) + 1) = ((i + 1 : Nat) : Int) := by rw [wrap64 _ (by omega) (by omega)]; simp
  have hn := hf.1
  have nx2 : ¬ H'.next = H'.next + 1 + 1 := by omega
  have nx3 : ¬ H'.next = H'.next + 1 + 1 + 1 := by omega
  have nx4 : ¬ H'.next = H'.next + 1 + 1 + 1 + 1 := by omega
  obtain ⟨cs, pr, vp, vb, g0, g1, g2, g3, g4, g5, g6⟩ := hcell.ex
  replace g0 := (hsb b hb).trans g0
  obtain ⟨pa, pc, rfl, _⟩ := id g5
  obtain ⟨ba, bc, rfl, _⟩ := id g6
  have hco : cellsOf (some (.cells cs 59 pr)) (o + i * 4) 4 = some [.slice pa x.params.length pc, .int .i64 x.result, .int .i64 x.slots, .slice ba x.blocks.length bc] := cellsOf_of rfl (by omega) fun j hj => by
    match j, hj with
    | 0, _ => simpa using g1
    | 1, _ => simpa using g2
    | 2, _ => simpa using g3
    | 3, _ => simpa using g4
  by_cases hp : 200 < x.slots
  · have hd : decide (200 < x.slots) = true := decide_eq_true hp
    obtain ⟨T', H'', key, hF⟩ : ∃ T' H'', (run J okAll (.loop L70_4) T H' = some (.ret, T', H'') ∧ T'.at 2 = .bool true) ∧ Fr H.next H H'' := by
      rw [r_loop]
      simp [L70_4, tv, tl, ti, t7, hlt, iindexAddr, g0, hco, loadT_agg, inew, istore, Value.cells, plain1, overlay, IH.get_push, IH.get_set, iparts, -IH.next_set, -IH.next_push, nxs, nxp, nx2, nx3, nx4, hd, bs_int1, ov_int1, bs_block, ov_block]
      refine ⟨_, _, ⟨⟨rfl, rfl⟩, by simp⟩, ?_⟩
      repeat' first | exact hf | apply Fr.push | apply Fr.set
      all_goals first | omega | (simp <;> omega)
    exact ⟨T', H'', hF, .inl ⟨.inl (by simp only [bigFn, hd, Bool.true_or]), key⟩⟩
  have hd : decide (200 < x.slots) = false := decide_eq_false hp
  by_cases hq : (200 : Int) < x.params.length
  · have he : decide ((200 : Int) < x.params.length) = true := decide_eq_true hq
    obtain ⟨T', H'', key, hF⟩ : ∃ T' H'', (run J okAll (.loop L70_4) T H' = some (.ret, T', H'') ∧ T'.at 2 = .bool true) ∧ Fr H.next H H'' := by
      rw [r_loop]
      simp [L70_4, tv, tl, ti, t7, hlt, iindexAddr, g0, hco, loadT_agg, inew, istore, Value.cells, plain1, overlay, IH.get_push, IH.get_set, iparts, -IH.next_set, -IH.next_push, nxs, nxp, nx2, nx3, nx4, hd, he, bs_int1, ov_int1, bs_block, ov_block]
      refine ⟨_, _, ⟨⟨rfl, rfl⟩, by simp⟩, ?_⟩
      repeat' first | exact hf | apply Fr.push | apply Fr.set
      all_goals first | omega | (simp <;> omega)
    exact ⟨T', H'', hF, .inl ⟨.inl (by simp only [bigFn, hd, he, Bool.true_or, Bool.or_true]), key⟩⟩
  have he : decide ((200 : Int) < x.params.length) = false := decide_eq_false hq
  by_cases hr : (2000 : Int) < x.blocks.length
  · have hh : decide ((2000 : Int) < x.blocks.length) = true := decide_eq_true hr
    obtain ⟨T', H'', key, hF⟩ : ∃ T' H'', (run J okAll (.loop L70_4) T H' = some (.ret, T', H'') ∧ T'.at 2 = .bool true) ∧ Fr H.next H H'' := by
      rw [r_loop]
      simp [L70_4, tv, tl, ti, t7, hlt, iindexAddr, g0, hco, loadT_agg, inew, istore, Value.cells, plain1, overlay, IH.get_push, IH.get_set, iparts, -IH.next_set, -IH.next_push, nxs, nxp, nx2, nx3, nx4, hd, he, hh, bs_int1, ov_int1, bs_block, ov_block]
      refine ⟨_, _, ⟨⟨rfl, rfl⟩, by simp⟩, ?_⟩
      repeat' first | exact hf | apply Fr.push | apply Fr.set
      all_goals first | omega | (simp <;> omega)
    exact ⟨T', H'', hF, .inl ⟨.inl (by simp only [bigFn, hh, Bool.or_true]), key⟩⟩
  have hh : decide ((2000 : Int) < x.blocks.length) = false := decide_eq_false hr
  have hbf : bigFn x = false := by simp only [bigFn, hd, he, hh, Bool.or_self]
  obtain ⟨T2, G, eq, hF, f2, f7, f79, f80, f81, f101, f102, f103⟩ : ∃ T2 G, run J okAll (.loop L70_4) T H' = rseq J okAll (.loop L70_4) (rseq J okAll (.region 34 #[Idl.o 141 (.binOp .add 3 (.tmp 81) (xi 1) 3) 3, Idl.o 81 (.move (.tmp 141)) 3] false) (blockOut 5 (blockOut 6 (run J okAll (.loop L70_3) T2 G)))) ∧ Fr H.next H G ∧
      (∀ t, t < 81 ∧ t ≠ 7 ∧ t ≠ 9 ∧ t ≠ 11 ∧ t ≠ 13 → T2.at t = K t) ∧ T2.at 7 = .int .i64 left ∧ T2.at 79 = .slice (some ⟨b, o, none⟩) l.length c ∧ T2.at 80 = .int .i64 (l.length : Int) ∧ T2.at 81 = .int .i64 (i : Int) ∧ T2.at 101 = .slice ba x.blocks.length bc ∧ T2.at 102 = .int .i64 (x.blocks.length : Int) ∧ T2.at 103 = .int .i64 ((0 : Nat) : Int) := by
    rw [r_loop]
    simp [L70_4, tv, tl, ti, t7, hlt, iindexAddr, g0, hco, loadT_agg, inew, istore, Value.cells, plain1, overlay, IH.get_push, IH.get_set, iparts, -IH.next_set, -IH.next_push, nxs, nxp, nx2, nx3, nx4, hd, he, hh, bs_int1, ov_int1, bs_block, ov_block]
    refine ⟨_, _, rfl, ?_, fun t h1 h2 h3 h4 h5 => by simp (disch := omega) only [at_set_om]; exact hK t ⟨h1, h2, h3, h4, h5⟩, by simp [t7], by simp [tv], by simp [tl], by simp [ti], by simp, by simp, by simp⟩
    repeat' first | exact hf | apply Fr.push | apply Fr.set
    all_goals first | omega | (simp <;> omega)
  obtain ⟨T3, H3, f3, d⟩ := loop70b g6 hlo (by omega) hsm (fun t => T2.at t) x.blocks 0 T2 G left rfl (by omega) hF hlf (fun t ht => rfl) f7 f101 f102 f103
  rcases d with ⟨d1, d2, d3⟩ | ⟨left', d1, dl, d2, d7, d3⟩
  · refine ⟨T3, H3, f3, .inl ⟨.inr ⟨hbf, d1⟩, ?_, d3⟩⟩
    rw [eq, d2]
    simp
  · rw [d2] at eq
    have k81 := (d3 81 (by omega)).trans f81
    obtain ⟨T4, e4, q1, q2, q3⟩ : ∃ T4, rseq J okAll (.loop L70_4) (rseq J okAll (.region 34 #[Idl.o 141 (.binOp .add 3 (.tmp 81) (xi 1) 3) 3, Idl.o 81 (.move (.tmp 141)) 3] false) (blockOut 5 (blockOut 6 (some (.exit 6, T3, H3))))) = run J okAll (.loop L70_4) T4 H3 ∧
        (∀ t, t < 81 ∧ t ≠ 7 ∧ t ≠ 9 ∧ t ≠ 11 ∧ t ≠ 13 → T4.at t = K t) ∧ T4.at 7 = .int .i64 left' ∧ T4.at 81 = .int .i64 ((i + 1 : Nat) : Int) := by
      simp [k81, hw1]
      exact ⟨_, rfl, fun t h1 h2 h3 h4 h5 => by simp (disch := omega) only [at_set_om]; exact (d3 t (by omega)).trans (f2 t ⟨h1, h2, h3, h4, h5⟩), by simp [d7], by simp⟩
    exact ⟨T4, H3, f3, .inr ⟨left', hbf, d1, dl, eq.trans e4, q1, q2, q3⟩⟩
theorem loop70f {v : Value} {l : List Fn} (hv : LAt lo 4 (FnAt H lo) v l) (hlo : lo ≤ H.next) (hl : l.length ≤ 100000) (hsm : ∀ x ∈ l, ∀ y ∈ x.blocks, y.code.length ≤ 4611686018427387904) (K : Nat → Value) : ∀ (rest : List Fn) (i : Nat) (T : Regs) (H' : IH) (left : Int), l.drop i = rest → i ≤ l.length → Fr H.next H H' → 0 ≤ left ∧ left ≤ 20000 →
    (∀ t, t < 81 ∧ t ≠ 7 ∧ t ≠ 9 ∧ t ≠ 11 ∧ t ≠ 13 → T.at t = K t) → T.at 7 = .int .i64 left → K 79 = v → K 80 = .int .i64 (l.length : Int) → T.at 81 = .int .i64 (i : Int) →
    ∃ T' H'', Fr H.next H H'' ∧ ((bigFns left rest = none ∧ run J okAll (.loop L70_4) T H' = some (.ret, T', H'') ∧ T'.at 2 = .bool true) ∨ ((bigFns left rest).isSome = true ∧ run J okAll (.loop L70_4) T H' = some (.exit 4, T', H'') ∧ (∀ t, t < 81 ∧ t ≠ 7 ∧ t ≠ 9 ∧ t ≠ 11 ∧ t ≠ 13 → T'.at t = K t))) := by
  intro rest
  induction rest with
  | nil =>
    intro i T H' left hr hi hf hlf hK t7 tv tl ti
    have : i = l.length := by have := congrArg List.length hr; simp at this; omega
    subst this
    have tl := (hK 80 (by omega)).trans tl
    obtain ⟨T', key⟩ : ∃ T', run J okAll (.loop L70_4) T H' = some (.exit 4, T', H') ∧ (∀ t, t < 81 ∧ t ≠ 7 ∧ t ≠ 9 ∧ t ≠ 11 ∧ t ≠ 13 → T'.at t = K t) := by
      rw [r_loop]
      simp [L70_4, tl, ti, t7]
      exact fun t h1 h2 h3 h4 h5 => by simp (disch := omega) only [at_set_om]; exact hK t ⟨h1, h2, h3, h4, h5⟩
    exact ⟨T', H', hf, .inr ⟨rfl, key⟩⟩
  | cons x rest ih =>
    intro i T H' left hr hi hf hlf hK t7 tv tl ti
    have hlt : i < l.length := by have := congrArg List.length hr; simp at this; omega
    have hj : l[i]? = some x := by have := congrArg (fun u => u[0]?) hr; simpa using this
    have hr2 : l.drop (i + 1) = rest := by rw [← List.tail_drop, hr]; rfl
    obtain ⟨T1, H2, f, d⟩ := step70f hv hlo hl K hj (hsm x (List.mem_of_getElem? hj)) hf hlf hK t7 ((hK 79 (by omega)).trans tv) ((hK 80 (by omega)).trans tl) ti
    unfold bigFns
    rcases d with ⟨d1, d2, d3⟩ | ⟨left', d1, d2, dl, d3, d4, d5, d6⟩
    · refine ⟨T1, H2, f, .inl ⟨?_, d2, d3⟩⟩
      rcases d1 with d1 | ⟨d1, d1'⟩
      · unfold bigFn at d1; rw [if_pos d1]
      · unfold bigFn at d1; rw [if_neg (by rw [d1]; simp), d1']
    · unfold bigFn at d1
      rw [if_neg (by rw [d1]; simp), d2, d3]
      exact ih (i + 1) T1 H2 left' hr2 (by omega) f dl d4 d5 tv tl d6
def bigF (im : Img) : Bool :=
  decide ((1024 : Int) < im.types.length) || decide ((512 : Int) < im.shapes.length) || (decide ((256 : Int) < im.strings.length) || decide ((256 : Int) < im.names.length)) || decide ((1024 : Int) < im.funcs.length) ||
  (im.strings.any fun s => decide ((16384 : Int) < s.size)) || (im.names.any fun s => decide ((16384 : Int) < s.size)) ||
  (im.types.any fun x => decide ((512 : Int) < x.shapes.length)) || im.shapes.any bigShape || (bigFns 20000 im.funcs).isNone
def ImV.val (u : ImV) (im : Img) : Value := .agg (ImV.cells u im).toArray
end
end Go.Proofs.YtchlbfmjnhgpgaaGreat.Idl
namespace Go.Proofs.YtchlbfmjnhgpgaaGreat.Idl
open Go
set_option maxHeartbeats 8000000
set_option maxRecDepth 100000
set_option linter.unusedSimpArgs false
/-- Rows are not longer than any memory. -/
structure ImSm (im : Img) : Prop where
  code : ∀ x ∈ im.funcs, ∀ y ∈ x.blocks, y.code.length ≤ 4611686018427387904
  num : ∀ x ∈ im.funcs, ∀ y ∈ x.blocks, ∀ z ∈ y.code, -9223372036854775808 ≤ z.n ∧ z.n ≤ 9223372036854775807
section
variable {H : IH} {lo : Nat}
theorem c_big {u : ImV} {im : Img} (hv : ImvAt H lo u im) (hlo : lo ≤ H.next) (hsm : ImSm im) : ∃ H', Fr H.next H H' ∧ cal J okAll 70 #[u.val im] H = some (.ret (.bool (bigF im)), H') := by
  rw [cal70 _ _ (by simp)]
  obtain ⟨vt, vs, vst, vn, vf⟩ := u
  obtain ⟨ta, tc, et, _⟩ := id hv.types
  obtain ⟨sa, sc, es, _⟩ := id hv.shapes
  obtain ⟨ga, gc, eg, _⟩ := id hv.strings
  obtain ⟨na, nc, en, _⟩ := id hv.names
  obtain ⟨fa, fc, ef, _⟩ := id hv.funcs
  dsimp only at et es eg en ef
  subst et es eg en ef
  obtain ⟨B0, hB0⟩ : ∃ B0, B0 = H.push (.cells [.slice ta im.types.length tc, .slice sa im.shapes.length sc, .slice ga im.strings.length gc, .slice na im.names.length nc, .slice fa im.funcs.length fc, .int .i64 im.main, .int .i64 im.exn] 27 false) := ⟨_, rfl⟩
  have nB0 : B0.next = H.next + 1 := by rw [hB0]; simp
  have gB0 : B0.get H.next = some (.cells [.slice ta im.types.length tc, .slice sa im.shapes.length sc, .slice ga im.strings.length gc, .slice na im.names.length nc, .slice fa im.funcs.length fc, .int .i64 im.main, .int .i64 im.exn] 27 false) := by rw [hB0, IH.get_push_same]
  have sB0 : SameB lo H B0 := fun z hz => by rw [hB0, IH.get_push_other _ _ _ (by omega)]
  have fB0 : Fr H.next H B0 := by rw [hB0]; exact (Fr.refl _ _).push (Nat.le_refl _) _
  obtain ⟨M, hM⟩ : ∃ M, M = ((((((((B0.push (.cells [.slice ta im.types.length tc] 22 false)).push (.cells [.int .i64 1024] 3 false)).push (.cells [.slice sa im.shapes.length sc] 23 false)).push (.cells [.int .i64 512] 3 false)).push (.cells [.slice ga im.strings.length gc, .slice na im.names.length nc] 24 false)).push (.cells [.int .i64 256] 3 false)).push (.cells [.slice fa im.funcs.length fc] 25 false)).push (.cells [.int .i64 1024] 3 false)) := ⟨_, rfl⟩
  have fM : Fr B0.next B0 M := by
    rw [hM]
    repeat' first | exact Fr.refl _ _ | apply Fr.push | apply Fr.set
    all_goals first | omega | (simp <;> omega)
  have sM : SameB lo H M := fun z hz => (fM.2 z (by omega)).trans (sB0 z hz)
  have gM : M.get H.next = _ := (fM.2 H.next (by omega)).trans gB0
  have hv0 := hv.same sB0
  have hvM := hv.same sM
  have k2 : ¬ H.next = H.next + 1 + 1 := by omega
  have k3 : ¬ H.next = H.next + 1 + 1 + 1 := by omega
  have k4 : ¬ H.next = H.next + 1 + 1 + 1 + 1 := by omega
  have k5 : ¬ H.next = H.next + 1 + 1 + 1 + 1 + 1 := by omega
  have k6 : ¬ H.next = H.next + 1 + 1 + 1 + 1 + 1 + 1 := by omega
  have k7 : ¬ H.next = H.next + 1 + 1 + 1 + 1 + 1 + 1 + 1 := by omega
  have k8 : ¬ H.next = H.next + 1 + 1 + 1 + 1 + 1 + 1 + 1 + 1 := by omega
  unfold bigF
  simp only [ImV.val, ImV.cells]
  by_cases b1 : (1024 : Int) < im.types.length
  · have d1 : decide ((1024 : Int) < im.types.length) = true := decide_eq_true b1
    simp only [d1, Bool.true_or, Bool.or_true]
    simp [C70, regsOf, fin, iresult1, inew, Value.cells, IH.get_push, IH.get_set, iparts, -IH.next_set, -IH.next_push, nxs, nxp, k2, k3, k4, k5, k6, k7, k8, bs_type, ov_type, bs_shape, ov_shape, bs_strs, ov_strs, bs_func, ov_func, d1]
    repeat' first | exact Fr.refl _ _ | apply Fr.push | apply Fr.set
    all_goals first | omega | (simp <;> omega)
  have d1 : decide ((1024 : Int) < im.types.length) = false := decide_eq_false b1
  by_cases b2 : (512 : Int) < im.shapes.length
  · have d2 : decide ((512 : Int) < im.shapes.length) = true := decide_eq_true b2
    simp only [d1, d2, Bool.true_or, Bool.or_true]
    simp [C70, regsOf, fin, iresult1, inew, Value.cells, IH.get_push, IH.get_set, iparts, -IH.next_set, -IH.next_push, nxs, nxp, k2, k3, k4, k5, k6, k7, k8, bs_type, ov_type, bs_shape, ov_shape, bs_strs, ov_strs, bs_func, ov_func, d1, d2]
    repeat' first | exact Fr.refl _ _ | apply Fr.push | apply Fr.set
    all_goals first | omega | (simp <;> omega)
  have d2 : decide ((512 : Int) < im.shapes.length) = false := decide_eq_false b2
  by_cases b3 : (256 : Int) < im.strings.length ∨ (256 : Int) < im.names.length
  · have d3 : (decide ((256 : Int) < im.strings.length) || decide ((256 : Int) < im.names.length)) = true := by simpa using b3
    simp only [d1, d2, d3, Bool.true_or, Bool.or_true]
    simp [C70, regsOf, fin, iresult1, inew, Value.cells, IH.get_push, IH.get_set, iparts, -IH.next_set, -IH.next_push, nxs, nxp, k2, k3, k4, k5, k6, k7, k8, bs_type, ov_type, bs_shape, ov_shape, bs_strs, ov_strs, bs_func, ov_func, d1, d2, d3]
    repeat' first | exact Fr.refl _ _ | apply Fr.push | apply Fr.set
    all_goals first | omega | (simp <;> omega)
  have d3 : (decide ((256 : Int) < im.strings.length) || decide ((256 : Int) < im.names.length)) = false := by simpa using b3
  by_cases b4 : (1024 : Int) < im.funcs.length
  · have d4 : decide ((1024 : Int) < im.funcs.length) = true := decide_eq_true b4
    simp only [d1, d2, d3, d4, Bool.true_or, Bool.or_true]
    simp [C70, regsOf, fin, iresult1, inew, Value.cells, IH.get_push, IH.get_set, iparts, -IH.next_set, -IH.next_push, nxs, nxp, k2, k3, k4, k5, k6, k7, k8, bs_type, ov_type, bs_shape, ov_shape, bs_strs, ov_strs, bs_func, ov_func, d1, d2, d3, d4]
    repeat' first | exact Fr.refl _ _ | apply Fr.push | apply Fr.set
    all_goals first | omega | (simp <;> omega)
  have d4 : decide ((1024 : Int) < im.funcs.length) = false := decide_eq_false b4
  have hsl : im.strings.length ≤ 100000 ∧ im.names.length ≤ 100000 := by omega
  have w5 := c_wide hvM.strings hsl.1
  have w6 := c_wide hvM.names hsl.2
  dsimp only at w5 w6
  by_cases b5 : (im.strings.any fun s => decide ((16384 : Int) < s.size)) = true
  · rw [b5] at w5
    simp only [d1, d2, d3, d4, b5, Bool.true_or, Bool.or_true]
    simp [C70, regsOf, fin, iresult1, inew, Value.cells, IH.get_push, IH.get_set, iparts, -IH.next_set, -IH.next_push, nxs, nxp, k2, k3, k4, k5, k6, k7, k8, bs_type, ov_type, bs_shape, ov_shape, bs_strs, ov_strs, bs_func, ov_func, d1, d2, d3, d4, ← hB0, nB0, gB0, ← hM, gM, w5]
    exact fB0.trans (fM.of_le (by omega))
  rw [Bool.not_eq_true] at b5
  by_cases b6 : (im.names.any fun s => decide ((16384 : Int) < s.size)) = true
  · rw [b5] at w5
    rw [b6] at w6
    simp only [d1, d2, d3, d4, b5, b6, Bool.true_or, Bool.or_true]
    simp [C70, regsOf, fin, iresult1, inew, Value.cells, IH.get_push, IH.get_set, iparts, -IH.next_set, -IH.next_push, nxs, nxp, k2, k3, k4, k5, k6, k7, k8, bs_type, ov_type, bs_shape, ov_shape, bs_strs, ov_strs, bs_func, ov_func, d1, d2, d3, d4, ← hB0, nB0, gB0, ← hM, gM, w5, w6]
    exact fB0.trans (fM.of_le (by omega))
  rw [Bool.not_eq_true] at b6
  rw [b5] at w5
  rw [b6] at w6
  simp only [d1, d2, d3, d4, b5, b6, Bool.false_or]
  simp [C70, regsOf, fin, iresult1, inew, Value.cells, IH.get_push, IH.get_set, iparts, -IH.next_set, -IH.next_push, nxs, nxp, k2, k3, k4, k5, k6, k7, k8, bs_type, ov_type, bs_shape, ov_shape, bs_strs, ov_strs, bs_func, ov_func, d1, d2, d3, d4, ← hB0, nB0, gB0, ← hM, gM, w5, w6]
  have hlb : lo ≤ B0.next := by omega
  generalize hX : run J okAll (.loop L70_0) _ _ = X
  obtain ⟨T1, hT, a1, a2, a49, a50, a51⟩ : ∃ T1, run J okAll (.loop L70_0) T1 M = X ∧ T1.at 1 = ptrV H.next ∧ T1.at 2 = .bool false ∧ T1.at 49 = .slice ta im.types.length tc ∧ T1.at 50 = .int .i64 (im.types.length : Int) ∧ T1.at 51 = .int .i64 ((0 : Nat) : Int) := ⟨_, hX, by simp [ptrV], by simp, by simp, by simp, by simp⟩
  obtain ⟨T2, H2, f2, e⟩ := loop70t hv0.types hlb (by omega) (fun t => T1.at t) im.types 0 T1 M rfl (by omega) fM (fun t ht => rfl) a49 a50 a51
  have ff2 := fB0.trans (f2.of_le (lo := H.next) (by omega))
  rcases e with ⟨e1, e2, e3⟩ | ⟨e1, e2, e3⟩
  · have e2 := hT.symm.trans e2
    subst e2
    simp only [e1, Bool.true_or]
    simp [regsOf, fin, iresult1, e3]
    exact ff2
  have e2 := hT.symm.trans e2
  subst e2
  have c1 := (e3 1 (by omega)).trans a1
  have c2 := (e3 2 (by omega)).trans a2
  have g2 : H2.get H.next = _ := (f2.2 H.next (by omega)).trans gB0
  simp only [e1, Bool.false_or]
  simp only [ptrV] at c1
  simp [c1, g2]
  generalize hX2 : run J okAll (.loop L70_1) _ _ = X2
  obtain ⟨T3, hT3, a1', a2', a61, a62, a63⟩ : ∃ T3, run J okAll (.loop L70_1) T3 H2 = X2 ∧ T3.at 1 = ptrV H.next ∧ T3.at 2 = .bool false ∧ T3.at 61 = .slice sa im.shapes.length sc ∧ T3.at 62 = .int .i64 (im.shapes.length : Int) ∧ T3.at 63 = .int .i64 ((0 : Nat) : Int) := ⟨_, hX2, by simp [ptrV, c1], by simp [c2], by simp, by simp, by simp⟩
  obtain ⟨T4, H4, f4, e⟩ := loop70s hv0.shapes hlb (by omega) (fun t => T3.at t) im.shapes 0 T3 H2 rfl (by omega) f2 (fun t ht => rfl) a61 a62 a63
  have ff4 := fB0.trans (f4.of_le (lo := H.next) (by omega))
  rcases e with ⟨s1, s2, s3⟩ | ⟨s1, s2, s3⟩
  · have s2 := hT3.symm.trans s2
    subst s2
    simp only [s1, Bool.true_or]
    simp [regsOf, fin, iresult1, s3]
    exact ff4
  have s2 := hT3.symm.trans s2
  subst s2
  have c1' := (s3 1 (by omega)).trans a1'
  have c2' := (s3 2 (by omega)).trans a2'
  have g4 : H4.get H.next = _ := (f4.2 H.next (by omega)).trans gB0
  simp only [ptrV] at c1'
  simp only [s1, Bool.false_or]
  simp [c1', g4]
  generalize hX3 : run J okAll (.loop L70_4) _ _ = X3
  obtain ⟨T5, hT5, a2'', a7, a79, a80, a81⟩ : ∃ T5, run J okAll (.loop L70_4) T5 H4 = X3 ∧ T5.at 2 = .bool false ∧ T5.at 7 = .int .i64 20000 ∧ T5.at 79 = .slice fa im.funcs.length fc ∧ T5.at 80 = .int .i64 (im.funcs.length : Int) ∧ T5.at 81 = .int .i64 ((0 : Nat) : Int) := ⟨_, hX3, by simp [c2'], by simp, by simp, by simp, by simp⟩
  obtain ⟨T6, H6, f6, e⟩ := loop70f hv0.funcs hlb (by omega) hsm.code (fun t => T5.at t) im.funcs 0 T5 H4 20000 rfl (by omega) f4 (by omega) (fun t ht => rfl) a7 a79 a80 a81
  have ff6 := fB0.trans (f6.of_le (lo := H.next) (by omega))
  rcases e with ⟨s1, s2, s3⟩ | ⟨s1, s2, s3⟩
  · have s2 := hT5.symm.trans s2
    subst s2
    rw [s1]
    simp [regsOf, fin, iresult1, s3]
    exact ff6
  · have s2 := hT5.symm.trans s2
    subst s2
    have hn : (bigFns 20000 im.funcs).isNone = false := by
      cases hz : bigFns 20000 im.funcs with
      | none => rw [hz] at s1; simp at s1
      | some z => rfl
    rw [hn]
    simp [regsOf, fin, iresult1]
    exact ff6
end
end Go.Proofs.YtchlbfmjnhgpgaaGreat.Idl
namespace Go.Proofs.YtchlbfmjnhgpgaaGreat.Idl
open Go
set_option maxHeartbeats 8000000
set_option maxRecDepth 100000
set_option linter.unusedSimpArgs false
def oddCode (b : Bl) : Bool := b.code.any fun x => !plainF x
def oddFn (f : Fn) : Bool := f.blocks.any oddCode
def checkF (im : Img) : Int := if bigF im then 2 else if im.funcs.any oddFn then 1 else 0
theorem bigBlocks_ok : ∀ (bs : List Bl) (left l : Int), left ≤ 20000 → bigBlocks left bs = some l → l ≤ left ∧ ∀ b ∈ bs, b.code.length ≤ 20000 ∧ b.inn.length ≤ 200 ∧ b.code.any bigCode = false
  | [], left, l, _, h => by
    simp only [bigBlocks, Option.some.injEq] at h
    exact ⟨by omega, fun b hb => by simp at hb⟩
  | b :: bs, left, l, hl, h => by
    unfold bigBlocks at h
    split at h
    · simp at h
    · rename_i hc
      simp only [Bool.not_eq_true, Bool.or_eq_false_iff, decide_eq_false_iff_not] at hc
      obtain ⟨h1, h2⟩ := bigBlocks_ok bs _ l (by omega) h
      refine ⟨by omega, fun x hx => ?_⟩
      rcases List.mem_cons.1 hx with rfl | hx
      · exact ⟨by omega, by omega, hc.2⟩
      · exact h2 x hx
theorem bigFns_ok : ∀ (fs : List Fn) (left l : Int), left ≤ 20000 → bigFns left fs = some l → ∀ f ∈ fs, f.slots ≤ 200 ∧ f.params.length ≤ 200 ∧ f.blocks.length ≤ 2000 ∧ ∀ b ∈ f.blocks, b.code.length ≤ 20000 ∧ b.inn.length ≤ 200 ∧ b.code.any bigCode = false
  | [], left, l, _, h => fun f hf => by simp at hf
  | f :: fs, left, l, hl, h => by
    unfold bigFns at h
    split at h
    · simp at h
    · rename_i hc
      simp only [Bool.not_eq_true, Bool.or_eq_false_iff, decide_eq_false_iff_not] at hc
      cases hb : bigBlocks left f.blocks with
      | none => rw [hb] at h; simp at h
      | some l' =>
        rw [hb] at h
        obtain ⟨h1, h2⟩ := bigBlocks_ok f.blocks left l' hl hb
        intro x hx
        rcases List.mem_cons.1 hx with rfl | hx
        · exact ⟨by omega, by omega, by omega, h2⟩
        · exact bigFns_ok fs l' l (by omega) h x hx
theorem bigF_ok {im : Img} (h : bigF im = false) (hs : ImSm im) : ImOk im := by
  unfold bigF at h
  simp only [Bool.or_eq_false_iff, decide_eq_false_iff_not] at h
  obtain ⟨⟨⟨⟨⟨⟨⟨⟨h1, h2⟩, h3, h4⟩, h5⟩, h6⟩, h7⟩, h8⟩, h9⟩, h10⟩ := h
  cases hb : bigFns 20000 im.funcs with
  | none => rw [hb] at h10; simp at h10
  | some l =>
    have hf := bigFns_ok im.funcs 20000 l (by omega) hb
    refine ⟨fun x hx => ?_, by omega, by omega, fun x hx => ?_, fun x hx => ?_⟩
    · obtain ⟨f1, f2, f3, f4⟩ := hf x hx
      refine ⟨f1, f3, fun b hb => ?_⟩
      obtain ⟨b1, b2, b3⟩ := f4 b hb
      refine ⟨b1, fun y hy => ?_⟩
      rw [List.any_eq_false] at b3
      have hc := b3 y hy
      simp only [bigCode, Bool.not_eq_true, Bool.or_eq_false_iff, decide_eq_false_iff_not] at hc
      exact ⟨hs.num x hx b hb y hy, by omega, by omega, by omega⟩
    · rw [List.any_eq_false] at h9
      have hc := h9 x hx
      simp only [bigShape, Bool.not_eq_true, Bool.or_eq_false_iff, decide_eq_false_iff_not] at hc
      omega
    · rw [List.any_eq_false] at h6
      have hc := h6 x hx
      simp only [decide_eq_true_eq] at hc
      omega
section
variable {H : IH} {lo : Nat}
theorem loop38b {v : Value} {l : List Bl} (hv : LAt lo 2 (BlAt H lo) v l) (hlo : lo ≤ H.next) (hl : l.length ≤ 100000) (hsm : ∀ x ∈ l, x.code.length ≤ 100000) (K : Nat → Value) : ∀ (rest : List Bl) (i : Nat) (T : Regs) (H' : IH), l.drop i = rest → i ≤ l.length → Fr H.next H H' →
    (∀ t, t < 19 ∧ t ≠ 6 → T.at t = K t) → K 17 = v → K 18 = .int .i64 (l.length : Int) → T.at 19 = .int .i64 (i : Int) →
    ∃ T' H'', Fr H.next H H'' ∧ ((rest.any oddCode = true ∧ run J okAll (.loop L38_0) T H' = some (.ret, T', H'') ∧ T'.at 2 = .int .i64 1) ∨ (rest.any oddCode = false ∧ run J okAll (.loop L38_0) T H' = some (.exit 2, T', H'') ∧ (∀ t, t < 19 ∧ t ≠ 6 → T'.at t = K t))) := by
  intro rest
  induction rest with
  | nil =>
    intro i T H' hr hi hf hK tv tl ti
    have : i = l.length := by have := congrArg List.length hr; simp at this; omega
    subst this
    have tl := (hK 18 (by omega)).trans tl
    obtain ⟨T', key⟩ : ∃ T', run J okAll (.loop L38_0) T H' = some (.exit 2, T', H') ∧ (∀ t, t < 19 ∧ t ≠ 6 → T'.at t = K t) := by
      rw [r_loop]
      simp [L38_0, tl, ti]
      exact fun t h1 h2 => by simp (disch := omega) only [at_set_om]; exact hK t ⟨h1, h2⟩
    exact ⟨T', H', hf, .inr ⟨rfl, key⟩⟩
  | cons x rest ih =>
    intro i T H' hr hi hf hK tv tl ti
    have hlt : i < l.length := by have := congrArg List.length hr; simp at this; omega
    have hj : l[i]? = some x := by have := congrArg (fun u => u[0]?) hr; simpa using this
    have hr2 : l.drop (i + 1) = rest := by rw [← List.tail_drop, hr]; rfl
    have tv' := (hK 17 (by omega)).trans tv
    have tl' := (hK 18 (by omega)).trans tl
    obtain ⟨b, o, c, rfl, hb, _, hcell⟩ := hv.get hj
    have hsb : SameB lo H H' := fun z hz => hf.2 z (Nat.lt_of_lt_of_le hz hlo)
    have hw1 : IntKind.i64.wrap ((i : Int) + 1) = ((i + 1 : Nat) : Int) := by rw [wrap64 _ (by omega) (by omega)]; simp
    have hn := hf.1
    obtain ⟨cs, pr, vi, vc, g0, g1, g2, g3, g4⟩ := hcell.ex
    replace g0 := (hsb b hb).trans g0
    obtain ⟨ia, ic, rfl, _⟩ := id g3
    obtain ⟨ca, cc, rfl, _⟩ := id g4
    have hco : cellsOf (some (.cells cs 56 pr)) (o + i * 2) 2 = some [.slice ia x.inn.length ic, .slice ca x.code.length cc] := cellsOf_of rfl (by omega) fun j hj => by
      match j, hj with
      | 0, _ => simpa using g1
      | 1, _ => simpa using g2
    obtain ⟨G, hG⟩ : ∃ G, G = (H'.push (.cells [.slice none 0 0, .slice none 0 0] 56 false)).set H'.next (.cells [.slice ia x.inn.length ic, .slice ca x.code.length cc] 56 false) := ⟨_, rfl⟩
    have fG : Fr H.next H G := by rw [hG]; exact (hf.push (by omega) _).set (by omega) _
    have gG : G.get H'.next = some (.cells [.slice ia x.inn.length ic, .slice ca x.code.length cc] 56 false) := by rw [hG, IH.get_set, if_pos rfl]
    have hsG : SameB lo H G := fun z hz => fG.2 z (Nat.lt_of_lt_of_le hz hlo)
    obtain ⟨H2, f2, cp⟩ := c_plains (H := G) (lo := lo) (g4.mono fun _ _ _ hb hx => InsAt.same hx hsG hb) (by have := fG.1; omega) (hsm x (List.mem_of_getElem? hj))
    have ff := fG.trans (f2.of_le fG.1)
    simp only [List.any_cons]
    cases hp : oddCode x with
    | true =>
      have cp : cal J okAll 71 #[.slice ca x.code.length cc, .func (.func 72) #[] #[]] G = some (.ret (.bool (oddCode x)), H2) := cp
      rw [hp] at cp
      obtain ⟨T', key⟩ : ∃ T', run J okAll (.loop L38_0) T H' = some (.ret, T', H2) ∧ T'.at 2 = .int .i64 1 := by
        rw [r_loop]
        simp [L38_0, tv', tl', ti, hlt, iindexAddr, g0, hco, loadT_agg, inew, istore, Value.cells, plain1, overlay, IH.get_push, ← hG, gG, cp]
      exact ⟨T', H2, ff, .inl ⟨by simp, key⟩⟩
    | false =>
      have cp : cal J okAll 71 #[.slice ca x.code.length cc, .func (.func 72) #[] #[]] G = some (.ret (.bool (oddCode x)), H2) := cp
      rw [hp] at cp
      obtain ⟨T1, s1, s2, s3⟩ : ∃ T1, run J okAll (.loop L38_0) T H' = run J okAll (.loop L38_0) T1 H2 ∧ (∀ t, t < 19 ∧ t ≠ 6 → T1.at t = K t) ∧ T1.at 19 = .int .i64 ((i + 1 : Nat) : Int) := by
        rw [r_loop]
        simp [L38_0, tv', tl', ti, hlt, iindexAddr, g0, hco, loadT_agg, inew, istore, Value.cells, plain1, overlay, IH.get_push, ← hG, gG, cp, hw1]
        exact ⟨_, rfl, fun t h1 h2 => by simp (disch := omega) only [at_set_om]; exact hK t ⟨h1, h2⟩, by simp⟩
      rw [s1]
      simp only [Bool.false_or]
      exact ih (i + 1) T1 H2 hr2 (by omega) ff s2 tv tl s3
end
end Go.Proofs.YtchlbfmjnhgpgaaGreat.Idl
namespace Go.Proofs.YtchlbfmjnhgpgaaGreat.Idl
open Go
set_option maxHeartbeats 8000000
set_option maxRecDepth 100000
set_option linter.unusedSimpArgs false
section
variable {H : IH} {lo : Nat}
theorem loop38f {v : Value} {l : List Fn} (hv : LAt lo 4 (FnAt H lo) v l) (hlo : lo ≤ H.next) (hl : l.length ≤ 100000) (hlim : ∀ x ∈ l, FnLim x) (K : Nat → Value) : ∀ (rest : List Fn) (i : Nat) (T : Regs) (H' : IH), l.drop i = rest → i ≤ l.length → Fr H.next H H' →
    (∀ t, t < 12 ∧ t ≠ 4 ∧ t ≠ 6 → T.at t = K t) → K 10 = v → K 11 = .int .i64 (l.length : Int) → T.at 12 = .int .i64 (i : Int) →
    ∃ T' H'', Fr H.next H H'' ∧ ((rest.any oddFn = true ∧ run J okAll (.loop L38_1) T H' = some (.ret, T', H'') ∧ T'.at 2 = .int .i64 1) ∨ (rest.any oddFn = false ∧ run J okAll (.loop L38_1) T H' = some (.exit 0, T', H''))) := by
  intro rest
  induction rest with
  | nil =>
    intro i T H' hr hi hf hK tv tl ti
    have : i = l.length := by have := congrArg List.length hr; simp at this; omega
    subst this
    have tl := (hK 11 (by omega)).trans tl
    obtain ⟨T', key⟩ : ∃ T', run J okAll (.loop L38_1) T H' = some (.exit 0, T', H') := by
      rw [r_loop]
      simp [L38_1, tl, ti]
    exact ⟨T', H', hf, .inr ⟨rfl, key⟩⟩
  | cons x rest ih =>
    intro i T H' hr hi hf hK tv tl ti
    have hlt : i < l.length := by have := congrArg List.length hr; simp at this; omega
    have hj : l[i]? = some x := by have := congrArg (fun u => u[0]?) hr; simpa using this
    have hr2 : l.drop (i + 1) = rest := by rw [← List.tail_drop, hr]; rfl
    have tv' := (hK 10 (by omega)).trans tv
    have tl' := (hK 11 (by omega)).trans tl
    obtain ⟨b, o, c, rfl, hb, _, hcell⟩ := hv.get hj
    have hsb : SameB lo H H' := fun z hz => hf.2 z (Nat.lt_of_lt_of_le hz hlo)
    have hw1 : IntKind.i64.wrap ((i : Int) + 1) = ((i + 1 : Nat) : Int) := by rw [wrap64 _ (by omega) (by omega)]; simp
    have hn := hf.1
    have hlx := hlim x (List.mem_of_getElem? hj)
    obtain ⟨cs, pr, vp, vb, g0, g1, g2, g3, g4, g5, g6⟩ := hcell.ex
    replace g0 := (hsb b hb).trans g0
    obtain ⟨pa, pc, rfl, _⟩ := id g5
    obtain ⟨ba, bc, rfl, _⟩ := id g6
    have hco : cellsOf (some (.cells cs 59 pr)) (o + i * 4) 4 = some [.slice pa x.params.length pc, .int .i64 x.result, .int .i64 x.slots, .slice ba x.blocks.length bc] := cellsOf_of rfl (by omega) fun j hj => by
      match j, hj with
      | 0, _ => simpa using g1
      | 1, _ => simpa using g2
      | 2, _ => simpa using g3
      | 3, _ => simpa using g4
    obtain ⟨T2, G, eq, hF, f2, f12, f17, f18, f19⟩ : ∃ T2 G, run J okAll (.loop L38_1) T H' = rseq J okAll (.loop L38_1) (rseq J okAll (.region 12 #[Idl.o 27 (.binOp .add 3 (.tmp 12) (xi 1) 3) 3, Idl.o 12 (.move (.tmp 27)) 3] false) (blockOut 1 (blockOut 2 (run J okAll (.loop L38_0) T2 G)))) ∧ Fr H.next H G ∧
        (∀ t, t < 12 ∧ t ≠ 4 ∧ t ≠ 6 → T2.at t = K t) ∧ T2.at 12 = .int .i64 (i : Int) ∧ T2.at 17 = .slice ba x.blocks.length bc ∧ T2.at 18 = .int .i64 (x.blocks.length : Int) ∧ T2.at 19 = .int .i64 ((0 : Nat) : Int) := by
      rw [r_loop]
      simp [L38_1, tv', tl', ti, hlt, iindexAddr, g0, hco, loadT_agg, inew, istore, Value.cells, plain1, overlay, IH.get_push, IH.get_set]
      refine ⟨_, _, rfl, ?_, fun t h1 h2 h3 => by simp (disch := omega) only [at_set_om]; exact hK t ⟨h1, h2, h3⟩, by simp [ti], by simp, by simp, by simp⟩
      repeat' first | exact hf | apply Fr.push | apply Fr.set
      all_goals first | omega | (simp <;> omega)
    obtain ⟨T3, H3, f3, d⟩ := loop38b g6 hlo (by have := hlx.blocks; omega) (fun y hy => by have := (hlx.code y hy).1; omega) (fun t => T2.at t) x.blocks 0 T2 G rfl (by omega) hF (fun t ht => rfl) f17 f18 f19
    simp only [List.any_cons]
    have hof : oddFn x = x.blocks.any oddCode := rfl
    rcases d with ⟨d1, d2, d3⟩ | ⟨d1, d2, d3⟩
    · refine ⟨T3, H3, f3, .inl ⟨by rw [hof, d1, Bool.true_or], ?_, d3⟩⟩
      rw [eq, d2]
      simp
    · rw [d2] at eq
      have k12 := (d3 12 (by omega)).trans f12
      obtain ⟨T4, e4, q1, q3⟩ : ∃ T4, rseq J okAll (.loop L38_1) (rseq J okAll (.region 12 #[Idl.o 27 (.binOp .add 3 (.tmp 12) (xi 1) 3) 3, Idl.o 12 (.move (.tmp 27)) 3] false) (blockOut 1 (blockOut 2 (some (.exit 2, T3, H3))))) = run J okAll (.loop L38_1) T4 H3 ∧
          (∀ t, t < 12 ∧ t ≠ 4 ∧ t ≠ 6 → T4.at t = K t) ∧ T4.at 12 = .int .i64 ((i + 1 : Nat) : Int) := by
        simp [k12, hw1]
        exact ⟨_, rfl, fun t h1 h2 h3 => by simp (disch := omega) only [at_set_om]; exact (d3 t (by omega)).trans (f2 t ⟨h1, h2, h3⟩), by simp⟩
      obtain ⟨T', H'', f, d⟩ := ih (i + 1) T4 H3 hr2 (by omega) f3 q1 tv tl q3
      rw [eq.trans e4, hof, d1, Bool.false_or]
      exact ⟨T', H'', f, d⟩
theorem c_Check {u : ImV} {im : Img} (hv : ImvAt H lo u im) (hlo : lo ≤ H.next) (hsm : ImSm im) : ∃ H', Fr H.next H H' ∧ cal J okAll 38 #[u.val im] H = some (.ret (.int .i64 (checkF im)), H') := by
  rw [cal38 _ _ (by simp)]
  obtain ⟨B0, hB0⟩ : ∃ B0, B0 = H.push (.cells (ImV.cells u im) 27 false) := ⟨_, rfl⟩
  have nB0 : B0.next = H.next + 1 := by rw [hB0]; simp
  have gB0 : B0.get H.next = some (.cells (ImV.cells u im) 27 false) := by rw [hB0, IH.get_push_same]
  have sB0 : SameB lo H B0 := fun z hz => by rw [hB0, IH.get_push_other _ _ _ (by omega)]
  have fB0 : Fr H.next H B0 := by rw [hB0]; exact (Fr.refl _ _).push (Nat.le_refl _) _
  have hv0 := hv.same sB0
  obtain ⟨H1, f1, c1⟩ := c_big hv0 (by omega) hsm
  obtain ⟨fa, fc, ef, _⟩ := id hv.funcs
  have g1 : H1.get H.next = _ := (f1.2 H.next (by omega)).trans gB0
  have ff1 := fB0.trans (f1.of_le (lo := H.next) (by omega))
  unfold checkF
  simp only [ImV.val, ImV.cells] at c1 g1 gB0 hB0 ⊢
  obtain ⟨ta, tc, et, _⟩ := id hv.types
  obtain ⟨sa, sc, es, _⟩ := id hv.shapes
  obtain ⟨ga, gc, eg, _⟩ := id hv.strings
  obtain ⟨na, nc, en, _⟩ := id hv.names
  rw [et, es, eg, en, ef] at c1 g1 gB0 hB0 ⊢
  cases hb : bigF im with
  | true =>
    rw [hb] at c1
    simp only [if_true]
    simp [C38, regsOf, fin, iresult1, inew, Value.cells, ← hB0, gB0, loadT_agg, c1]
    exact ff1
  | false =>
    rw [hb] at c1
    have hok := bigF_ok hb hsm
    simp only [Bool.false_eq_true, if_false]
    obtain ⟨od, hod⟩ : ∃ od, od = im.funcs.any oddFn := ⟨_, rfl⟩
    rw [← hod]
    simp [C38, regsOf, fin, iresult1, inew, Value.cells, ← hB0, gB0, loadT_agg, c1, g1]
    generalize hX : run J okAll (.loop L38_1) _ _ = X
    obtain ⟨T1, hT, a10, a11, a12⟩ : ∃ T1, run J okAll (.loop L38_1) T1 H1 = X ∧ T1.at 10 = u.funcs ∧ T1.at 11 = .int .i64 (im.funcs.length : Int) ∧ T1.at 12 = .int .i64 ((0 : Nat) : Int) := ⟨_, hX, by simp [ef], by simp, by simp⟩
    obtain ⟨T2, H2, f2, e⟩ := loop38f hv0.funcs (by omega) (by have := hok.fnum; omega) hok.funcs (fun t => T1.at t) im.funcs 0 T1 H1 rfl (by omega) f1 (fun t ht => rfl) a10 a11 a12
    have ff2 := fB0.trans (f2.of_le (lo := H.next) (by omega))
    rcases e with ⟨e1, e2, e3⟩ | ⟨e1, e2⟩
    · have e2 := hT.symm.trans e2
      subst e2
      rw [← hod] at e1
      subst e1
      simp [regsOf, fin, iresult1, e3]
      exact ff2
    · have e2 := hT.symm.trans e2
      subst e2
      rw [← hod] at e1
      subst e1
      simp [regsOf, fin, iresult1]
      exact ff2
end
end Go.Proofs.YtchlbfmjnhgpgaaGreat.Idl
namespace Go.Proofs.YtchlbfmjnhgpgaaGreat.Idl
open Go
set_option maxHeartbeats 8000000
set_option maxRecDepth 100000
set_option linter.unusedSimpArgs false
def Shp.ly (s : Shp) : Int × Int := (s.kind, if s.kind = 1 then (s.fields.length : Int) else 0)
theorem bs_ly (H : IH) (x y : Int) : ibuildSlice J 125 1 [(0, .agg #[.int .i64 x, .int .i64 y])] H = some (.slice (some ⟨H.next, 0, none⟩) 1 1, H.push (.cells [.int .i64 x, .int .i64 y] 127 false)) := by kernel_rfl
theorem bl_ly (x : Int) : ibuild J 127 [(0, .int .i64 x)] = some (.agg #[.int .i64 x, .int .i64 0]) := by kernel_rfl
def LySAt (H : IH) (lo : Nat) (v : Value) (l : List (Int × Int)) : Prop := (v = .slice none 0 0 ∧ l = []) ∨ ∃ b, lo ≤ b ∧ b < H.next ∧ v = .slice (some ⟨b, 0, none⟩) l.length capU ∧ H.get b = some (.cells (lyc l) 127 false)
theorem LySAt.at {H : IH} {lo : Nat} {v : Value} {l : List (Int × Int)} (h : LySAt H lo v l) : LyAt H v l := by
  rcases h with ⟨rfl, rfl⟩ | ⟨b, h1, h2, rfl, h4⟩
  · exact ⟨none, 0, rfl, fun h => by simp at h⟩
  · exact ⟨_, _, rfl, fun _ => ⟨b, rfl, h2, h4⟩⟩
theorem LySAt.fr {H H' : IH} {lo : Nat} {v : Value} {l : List (Int × Int)} (h : LySAt H lo v l) (f : Fr H.next H H') : LySAt H' lo v l := by
  rcases h with h | ⟨b, h1, h2, h3, h4⟩
  · exact .inl h
  · exact .inr ⟨b, h1, Nat.lt_of_lt_of_le h2 f.1, h3, (f.2 b h2).trans h4⟩
theorem app_ly {H : IH} {lo : Nat} {u : Value} {l : List (Int × Int)} (h : LySAt H lo u l) (hlo : lo ≤ H.next) (hl : l.length ≤ 1000000) (x y : Int) :
    ∃ u' H', iappend J #[125, 125] u (.slice (some ⟨H.next, 0, none⟩) 1 1) (H.push (.cells [.int .i64 x, .int .i64 y] 127 false)) = some (u', H') ∧ LySAt H' lo u' (l ++ [(x, y)]) ∧ Fr lo H H' := by
  have h1 : icells (H.push (.cells [.int .i64 x, .int .i64 y] 127 false)) ⟨H.next, 0, none⟩ (1 * 2) = some [.int .i64 x, .int .i64 y] := by simp [IH.get_push]
  have hn : (H.push (.cells [.int .i64 x, .int .i64 y] 127 false)).next = H.next + 1 := by simp
  rcases h with ⟨rfl, rfl⟩ | ⟨b, b1, b2, rfl, b4⟩
  · have := app_nil st_ly (c := 1) h1 (by simp) (by omega) (by omega)
    rw [hn] at this
    refine ⟨_, _, this, .inr ⟨H.next + 1, by omega, by simp, by simp, ?_⟩, ((Fr.refl _ _).push hlo _).push (by simp; omega) _⟩
    rw [show H.next + 1 = (H.push (.cells [.int .i64 x, .int .i64 y] 127 false)).next by simp, IH.get_push_same]; rfl
  · have hg : (H.push (.cells [.int .i64 x, .int .i64 y] 127 false)).get b = some (.cells (lyc l) 127 false) := by rw [IH.get_push_other _ _ _ b2]; exact b4
    have := app_some st_ly (c := 1) (len := l.length) h1 (by simp) (by omega) (by omega) hg (by rw [lyc_len]; omega) (by simp [plain1])
    rw [hn] at this
    refine ⟨_, _, this, .inr ⟨H.next + 1, by omega, by simp, by simp, ?_⟩, (((Fr.refl _ _).push hlo _).set b1 _).push (by simp; omega) _⟩
    rw [show H.next + 1 = ((H.push (.cells [.int .i64 x, .int .i64 y] 127 false)).set b .dead).next by simp, IH.get_push_same]
    rw [List.take_of_length_le (by rw [lyc_len]; omega)]; simp [lyc]
section
variable {H : IH} {lo : Nat}
theorem loop36 {v : Value} {l : List Shp} (hv : LAt lo 3 (ShpAt H lo) v l) (hlo : lo ≤ H.next) (hl : l.length ≤ 100000) (K : Nat → Value) : ∀ (rest : List Shp) (i : Nat) (T : Regs) (H' : IH), l.drop i = rest → i ≤ l.length → Fr H.next H H' →
    (∀ t, t < 2 → T.at t = K t) → LySAt H' H.next (T.at 2) ((l.take i).map Shp.ly) → T.at 24 = v → T.at 25 = .int .i64 (l.length : Int) → T.at 26 = .int .i64 (i : Int) →
    ∃ T' H'', Fr H.next H H'' ∧ run J okAll (.loop L36_0) T H' = some (.exit 0, T', H'') ∧ (∀ t, t < 2 → T'.at t = K t) ∧ LySAt H'' H.next (T'.at 2) (l.map Shp.ly) := by
  intro rest
  induction rest with
  | nil =>
    intro i T H' hr hi hf hK hly tv tl ti
    have : i = l.length := by have := congrArg List.length hr; simp at this; omega
    subst this
    rw [List.take_length] at hly
    obtain ⟨T', key⟩ : ∃ T', run J okAll (.loop L36_0) T H' = some (.exit 0, T', H') ∧ (∀ t, t < 2 → T'.at t = K t) ∧ T'.at 2 = T.at 2 := by
      rw [r_loop]
      simp [L36_0, tv, tl, ti]
      exact fun t ht => by simp (disch := omega) only [at_set_om]; exact hK t ht
    exact ⟨T', H', hf, key.1, key.2.1, by rw [key.2.2]; exact hly⟩
  | cons x rest ih =>
    intro i T H' hr hi hf hK hly tv tl ti
    have hlt : i < l.length := by have := congrArg List.length hr; simp at this; omega
    have hj : l[i]? = some x := by have := congrArg (fun u => u[0]?) hr; simpa using this
    have hr2 : l.drop (i + 1) = rest := by rw [← List.tail_drop, hr]; rfl
    have htk : (l.take (i + 1)).map Shp.ly = (l.take i).map Shp.ly ++ [x.ly] := by rw [List.take_add_one, hj]; simp
    obtain ⟨b, o, c, rfl, hb, _, hcell⟩ := hv.get hj
    have hsb : SameB lo H H' := fun z hz => hf.2 z (Nat.lt_of_lt_of_le hz hlo)
    have hw1 : IntKind.i64.wrap ((i : Int) + 1) = ((i + 1 : Nat) : Int) := by rw [wrap64 _ (by omega) (by omega)]; simp
    have hn := hf.1
    obtain ⟨cs, pr, vf, g0, g1, g2, g3, g4⟩ := hcell.ex
    replace g0 := (hsb b hb).trans g0
    obtain ⟨sa, sc, rfl, _⟩ := id g4
    have hco : cellsOf (some (.cells cs 90 pr)) (o + i * 3) 3 = some [.int .i64 x.kind, .slice sa x.fields.length sc, .string x.name] := cellsOf_of rfl (by omega) fun j hj => by
      match j, hj with
      | 0, _ => simpa using g1
      | 1, _ => simpa using g2
      | 2, _ => simpa using g3
    have nx2 : ¬ H'.next = H'.next + 1 + 1 := by omega
    obtain ⟨G, hG⟩ : ∃ G, G = ((((H'.push (.cells [.int .i64 0, .slice none 0 0, .string ⟨#[]⟩] 90 false)).set H'.next (.cells [.int .i64 x.kind, .slice sa x.fields.length sc, .string x.name] 90 false)).push (.cells [.int .i64 0, .int .i64 0] 127 false)).set (H'.next + 1) (.cells [.int .i64 x.ly.1, .int .i64 x.ly.2] 127 false)) := ⟨_, rfl⟩
    have fG : Fr H'.next H' G := by
      rw [hG]
      repeat' first | exact Fr.refl _ _ | apply Fr.push | apply Fr.set
      all_goals first | omega | (simp <;> omega)
    have nG : G.next = H'.next + 2 := by rw [hG]; simp
    have gG : G.get (H'.next + 1) = some (.cells [.int .i64 x.ly.1, .int .i64 x.ly.2] 127 false) := by rw [hG, IH.get_set, if_pos rfl]
    obtain ⟨u', H2, a1, a2, a3⟩ := app_ly (hly.fr fG) (by omega) (by simp; omega) x.ly.1 x.ly.2
    rw [nG] at a1
    have gG0 : G.get H'.next = some (.cells [.int .i64 x.kind, .slice sa x.fields.length sc, .string x.name] 90 false) := by
      rw [hG, IH.get_set, if_neg (by omega), IH.get_push_other _ _ _ (by simp), IH.get_set, if_pos rfl]
    have ff : Fr H.next H H2 := (hf.trans (fG.of_le hn)).trans a3
    have hgo : ∃ T1, run J okAll (.loop L36_0) T H' = run J okAll (.loop L36_0) T1 H2 ∧ (∀ t, t < 2 → T1.at t = K t) ∧ T1.at 2 = u' ∧ T1.at 24 = .slice (some ⟨b, o, none⟩) l.length c ∧ T1.at 25 = .int .i64 (l.length : Int) ∧ T1.at 26 = .int .i64 ((i + 1 : Nat) : Int) := by
      by_cases hk : x.kind = 1
      · have hkd : decide (x.kind = 1) = true := decide_eq_true hk
        have hly2 : x.ly = (x.kind, (x.fields.length : Int)) := by unfold Shp.ly; rw [if_pos hk]
        rw [hly2] at hG gG a1
        dsimp only at hG gG a1
        rw [r_loop]
        simp [L36_0, tv, tl, ti, hlt, iindexAddr, g0, hco, loadT_agg, inew, istore, Value.cells, plain1, overlay, IH.get_push, IH.get_set, iparts, bl_ly, bs_ly, nx2, hkd, ← hG, gG, gG0, nG, a1, hw1]
        exact ⟨_, rfl, fun t ht => by simp (disch := omega) only [at_set_om]; exact hK t ht, by simp, by simp [tv], by simp [tl], by simp⟩
      · have hkd : decide (x.kind = 1) = false := decide_eq_false hk
        have hly2 : x.ly = (x.kind, 0) := by unfold Shp.ly; rw [if_neg hk]
        rw [hly2] at hG gG a1
        dsimp only at hG gG a1
        rw [r_loop]
        simp [L36_0, tv, tl, ti, hlt, iindexAddr, g0, hco, loadT_agg, inew, istore, Value.cells, plain1, overlay, IH.get_push, IH.get_set, iparts, bl_ly, bs_ly, nx2, hkd, ← hG, gG, gG0, nG, a1, hw1]
        exact ⟨_, rfl, fun t ht => by simp (disch := omega) only [at_set_om]; exact hK t ht, by simp, by simp [tv], by simp [tl], by simp⟩
    obtain ⟨T1, s1, s2, s3, s4, s5, s6⟩ := hgo
    rw [s1]
    exact ih (i + 1) T1 H2 hr2 (by omega) ff s2 (by rw [s3, htk]; exact a2) s4 s5 s6
end
end Go.Proofs.YtchlbfmjnhgpgaaGreat.Idl
namespace Go.Proofs.YtchlbfmjnhgpgaaGreat.Idl
open Go
set_option maxHeartbeats 8000000
set_option maxRecDepth 100000
set_option linter.unusedSimpArgs false
structure Scr where
  input : List Nat
  fuel : Nat
  heap : Nat
  stack : Nat
  collect : List Bool
def Img.start (im : Img) (s : Scr) : Mst := ⟨s.fuel, s.heap, s.stack, s.input, s.collect, .new s.heap (im.shapes.map Shp.ly), [], 0, 0, 0, [], ⟨#[]⟩, 0, 0⟩
def cells0 (mp : Nat) (iv cv : Value) (s : Scr) : List Value := [ptrV mp, iv, .int .i64 (s.fuel : Int), .int .i64 (s.heap : Int), .int .i64 (s.stack : Int), cv, .pointer none, .slice none 0 0, .int .i64 0, .int .i64 0, .int .i64 0, .int .i64 0, .slice none 0 0, .string ⟨#[]⟩, .int .i64 0, .int .i64 0]
def mainOk (im : Img) : Bool := decide (0 ≤ im.main) && decide (im.main < im.funcs.length) && ((im.funcs[im.main.toNat]?).map fun f => f.params.isEmpty).getD false
def beginOk (im : Img) : Bool := decide (checkF im = 0) && (im.shapes.map Shp.ly).all lyOk && mainOk im
structure ScrOk (s : Scr) : Prop where
  fuel : s.fuel ≤ 16777216
  heap : s.heap ≤ 65536
  stack : s.stack ≤ 65536
  input : s.input.length ≤ 4611686018427387904 ∧ ∀ c ∈ s.input, c < 256
section
variable {H : IH} {lo : Nat} {im : Img} {s : Scr}
theorem checkF_ok (h : checkF im = 0) (hs : ImSm im) : ImOk im := by
  unfold checkF at h
  cases hb : bigF im with
  | true => rw [hb] at h; simp at h
  | false => exact bigF_ok hb hs
theorem start_at {mp p : Nat} {a : HpA} {iv cv : Value} (hi : ImgAt H lo mp im) (hin : LAt lo 1 (CellAt H 5 byteV) iv s.input) (hcl : LAt lo 1 (CellAt H 4 Value.bool) cv s.collect) (hs : ScrOk s) (hok : ImOk im) (hlo : lo ≤ H.next)
    (hp : HpAt H a (.new s.heap (im.shapes.map Shp.ly))) {n0 : Nat} (h1 : n0 ≤ a.p) (h2 : n0 ≤ a.wb) (h3 : n0 ≤ a.hb) (h4 : ∀ lb l c, a.lv = .slice (some ⟨lb, 0, none⟩) l c → n0 ≤ lb) (hpl : lo ≤ p ∧ p < n0) (hpn : p < H.next)
    (ho : H.get p = some (.cells (({ p := p, mp := mp, hp := a, iv := iv, cv := cv, fv := .slice none 0 0, ov := .slice none 0 0, fr := [] } : VA).cells (im.start s)) 84 false)) :
    VmAt H lo im { p := p, mp := mp, hp := a, iv := iv, cv := cv, fv := .slice none 0 0, ov := .slice none 0 0, fr := [] } (im.start s) := by
  have hb : ∀ x ∈ bOf a.lv, ∃ l c, a.lv = .slice (some ⟨x, 0, none⟩) l c ∧ n0 ≤ x ∧ x < H.next := by
    intro x hx
    rcases hp.ly with ⟨e, _⟩ | ⟨lb, e, e2⟩
    · rw [e] at hx; simp [bOf] at hx
    · rw [e] at hx
      simp only [bOf_some, List.mem_singleton] at hx
      subst hx
      exact ⟨_, _, e, h4 _ _ _ e, hp.lt.2.2.2 _ _ _ e⟩
  have hown : ({ p := p, mp := mp, hp := a, iv := iv, cv := cv, fv := .slice none 0 0, ov := .slice none 0 0, fr := [] } : VA).own = p :: a.p :: a.wb :: a.hb :: bOf a.lv := by simp [VA.own, bOf, frOwn]
  refine ⟨ho, hi, hp, hin, hcl, .nil, .inl ⟨rfl, rfl⟩, .inl ⟨rfl, rfl⟩, ?_, ?_, hlo, ⟨rfl, ⟨?_, ?_⟩, ?_, ⟨?_, ?_⟩, ?_, Nat.le_refl _, Nat.le_refl _, Nat.le_refl _, Nat.zero_le _, hs.input.1, hs.input.2⟩, hok⟩
  · rw [hown]
    have hne := hp.ne1
    have hne2 := hp.ne2
    have hsep := hp.sep
    have hlb : ∀ x ∈ bOf a.lv, x ≠ a.wb ∧ x ≠ a.hb ∧ x ≠ a.p := fun x hx => by
      obtain ⟨l, c, e, _⟩ := hb x hx
      exact hp.ne3 e
    have hnd : (bOf a.lv).Nodup := by
      unfold bOf
      split <;> simp
    simp only [List.nodup_cons, List.mem_cons, not_or]
    refine ⟨⟨by omega, by omega, by omega, fun hx => ?_⟩, ⟨hne, hne2, fun hx => (hlb _ hx).2.2 rfl⟩, ⟨hsep, fun hx => (hlb _ hx).1 rfl⟩, fun hx => (hlb _ hx).2.1 rfl, hnd⟩
    obtain ⟨l, c, e, e2, _⟩ := hb _ hx
    omega
  · rw [hown]
    intro x hx
    have hlt := hp.lt
    simp only [List.mem_cons] at hx
    rcases hx with rfl | rfl | rfl | rfl | hx
    · omega
    · have := hlt.1; omega
    · have := hlt.2.1; omega
    · have := hlt.2.2.1; omega
    · obtain ⟨l, c, e, e2, e3⟩ := hb _ hx; omega
  · simp only [Img.start]; have := hs.stack; omega
  · simp only [Img.start]; omega
  · simp only [Img.start]; omega
  · simp only [Img.start]; omega
  · simp only [Img.start]; have := hs.fuel; omega
  · simp only [Img.start]; omega
end
end Go.Proofs.YtchlbfmjnhgpgaaGreat.Idl
namespace Go.Proofs.YtchlbfmjnhgpgaaGreat.Idl
open Go
set_option maxHeartbeats 8000000
set_option maxRecDepth 100000
set_option linter.unusedSimpArgs false
section
variable {H : IH} {lo : Nat} {im : Img} {s : Scr}
theorem m_begin {p mp : Nat} {iv cv : Value} (hi : ImgAt H lo mp im) (hin : LAt lo 1 (CellAt H 5 byteV) iv s.input) (hcl : LAt lo 1 (CellAt H 4 Value.bool) cv s.collect) (hs : ScrOk s) (hsm : ImSm im) (hlo : lo ≤ H.next) (hp : lo ≤ p ∧ p < H.next)
    (ho : H.get p = some (.cells (cells0 mp iv cv s) 84 false)) :
    (beginOk im = false → ∃ H', cal J okAll 36 #[ptrV p] H = some (.pan (overV 6), H') ∧ Fr H.next H H') ∧
    (beginOk im = true → ∀ r σ', vCall im im.main [] (im.start s) = some (r, σ') → ∃ H' A' e, cal J okAll 36 #[ptrV p] H = some (e, H') ∧ A'.p = p ∧ VmAt H' lo im A' σ' ∧ H.next ≤ H'.next ∧ (∀ x, x < H.next → x ≠ p → H'.get x = H.get x) ∧ RV UnitV H' A' r e ∧ (∀ x ∈ A'.own, x = p ∨ H.next ≤ x)) := by
  rw [cal36 _ _ (by simp)]
  obtain ⟨hmp, u, pr, hg, hv⟩ := hi
  have hmpn : mp < H.next := by omega
  obtain ⟨ta, tc, et, _⟩ := id hv.types
  obtain ⟨sa, sc, es, _⟩ := id hv.shapes
  obtain ⟨ga, gc, eg, _⟩ := id hv.strings
  obtain ⟨na, nc, en, _⟩ := id hv.names
  obtain ⟨fa, fc, ef, _⟩ := id hv.funcs
  obtain ⟨H1, f1, c1⟩ := c_Check hv hlo hsm
  have hm1 := fun G => c_must (H := G) (ptrV p) true
  have hm2 := fun G => c_must (H := G) (ptrV p) false
  simp only [ptrV] at hm1 hm2
  simp only [cells0, ptrV] at ho
  simp only [ImV.val, ImV.cells, et, es, eg, en, ef] at c1 hg
  have ho1 := (f1.2 p hp.2).trans ho
  have hg1 := (f1.2 mp hmpn).trans hg
  by_cases hc : checkF im = 0
  · rw [hc] at c1
    have hok := checkF_ok hc hsm
    have hsl := hok.shapes
    simp [C36, regsOf, ptrV, ho, hg, loadT_agg, c1, hm1, ho1, hg1]
    generalize hX : run J okAll (.loop L36_0) _ _ = X
    obtain ⟨T1, hT, a0, a2, a24, a25, a26⟩ : ∃ T1, run J okAll (.loop L36_0) T1 H1 = X ∧ T1.at 0 = ptrV p ∧ T1.at 2 = .slice none 0 0 ∧ T1.at 24 = u.shapes ∧ T1.at 25 = .int .i64 (im.shapes.length : Int) ∧ T1.at 26 = .int .i64 ((0 : Nat) : Int) := ⟨_, hX, by simp [ptrV], by simp, by simp [es], by simp, by simp⟩
    obtain ⟨T2, H2, f2, e2, k2, ly2⟩ := loop36 hv.shapes hlo (by omega) (fun t => T1.at t) im.shapes 0 T1 H1 rfl (by omega) f1 (fun t ht => rfl) (.inl ⟨a2, rfl⟩) a24 a25 a26
    have e2 := hT.symm.trans e2
    subst e2
    have b0 := (k2 0 (by omega)).trans a0
    have ho2 := (f2.2 p hp.2).trans ho
    have hg2 := (f2.2 mp hmpn).trans hg
    simp only [ptrV] at b0
    by_cases hly : (im.shapes.map Shp.ly).all lyOk = true
    · obtain ⟨H3, a, c3, f3, hp3, q1, q2, q3, q4⟩ := c_New s.heap hs.heap (T2.at 2) (im.shapes.map Shp.ly) ly2.at (by simp; omega) hly
      have ho3 := (f3.2 p (by have := f2.1; omega)).trans ho2
      have hg3 := (f3.2 mp (by have := f2.1; omega)).trans hg2
      have ff3 : Fr H.next H H3 := f2.trans (f3.of_le f2.1)
      simp only [HpA.ptr] at c3
      by_cases hmo : mainOk im = true
      · refine ⟨fun hb => by simp [beginOk, hc, hly, hmo] at hb, fun _ r σ' hx => ?_⟩
        have hmo2 := hmo
        simp only [mainOk, Bool.and_eq_true, decide_eq_true_eq] at hmo2
        obtain ⟨⟨m1, m2⟩, m3⟩ := hmo2
        have m1d : decide (0 ≤ im.main) = true := decide_eq_true m1
        have m2d : decide (im.main < im.funcs.length) = true := decide_eq_true m2
        have hlt : im.main.toNat < im.funcs.length := by omega
        rw [List.getElem?_eq_getElem hlt] at m3
        simp only [Option.map_some, Option.getD_some, List.isEmpty_iff] at m3
        obtain ⟨b, o, c, eq, hb, _, hfn⟩ := hv.funcs.get (List.getElem?_eq_getElem hlt)
        rw [ef] at eq
        simp only [Value.slice.injEq] at eq
        obtain ⟨rfl, _, rfl⟩ := eq
        obtain ⟨cs, pr2, vp, vb, g0, g1, g2, g3, g4, g5, g6⟩ := hfn.ex
        have g0' := (ff3.2 b (by omega)).trans g0
        obtain ⟨pa, pc, rfl, _⟩ := id g5
        rw [m3] at g1
        obtain ⟨H4, hH4⟩ : ∃ H4, H4 = H3.set p (.cells (({ p := p, mp := mp, hp := a, iv := iv, cv := cv, fv := .slice none 0 0, ov := .slice none 0 0, fr := [] } : VA).cells (im.start s)) 84 false) := ⟨_, rfl⟩
        have hs4 : ∀ x, x ≠ p → H4.get x = H3.get x := fun x hx => by rw [hH4, IH.get_set, if_neg hx]
        have n4 : H4.next = H3.next := by rw [hH4]; rfl
        have sb4 : SameB lo H H4 := fun x hx => by rw [hs4 x (by omega)]; exact ff3.2 x (by omega)
        have hf2n := f2.1
        have hf3n := f3.1
        have hap : ∀ x, H2.next ≤ x → x ≠ p := fun x hx e => by omega
        have hp4 : HpAt H4 a (.new s.heap (im.shapes.map Shp.ly)) := hp3.mono (by omega) (hs4 _ (hap _ q1)) (hs4 _ (hap _ q2)) (hs4 _ (hap _ q3)) fun lb l c e => hs4 _ (hap _ (q4 _ _ _ e))
        have hvm : VmAt H4 lo im { p := p, mp := mp, hp := a, iv := iv, cv := cv, fv := .slice none 0 0, ov := .slice none 0 0, fr := [] } (im.start s) :=
          start_at (ImgAt.same ⟨hmp, u, pr, by simpa [ImV.cells, et, es, eg, en, ef] using hg, hv⟩ sb4) (hin.mono fun _ _ _ hb hx => CellAt.same hx sb4 hb) (hcl.mono fun _ _ _ hb hx => CellAt.same hx sb4 hb) hs hok (by omega) hp4 q1 q2 q3 q4 (by omega) (by omega) (by rw [hH4, IH.get_set, if_pos rfl])
        obtain ⟨H5, A5, e5, c5, h5, n5, rv5⟩ := m_call hvm im.main (u := .slice none 0 0) (args := []) (.inl ⟨rfl, rfl⟩) (by simp) r σ' hx
        have hmpp : mp ≠ p := by omega
        have hg4 := (hs4 mp hmpp).trans hg3
        have hown0 : ∀ x ∈ ({ p := p, mp := mp, hp := a, iv := iv, cv := cv, fv := .slice none 0 0, ov := .slice none 0 0, fr := [] } : VA).own, x = p ∨ H.next ≤ x := by
          intro x hm
          simp only [VA.own, bOf, frOwn, List.append_nil, List.mem_cons] at hm
          rcases hm with hm | hm | hm | hm | hm
          · exact .inl hm
          · exact .inr (by omega)
          · exact .inr (by omega)
          · exact .inr (by omega)
          · rcases hp4.ly with ⟨e, _⟩ | ⟨lb, e, _⟩
            · rw [e] at hm; simp [bOf] at hm
            · rw [e] at hm
              simp only [bOf_some, List.mem_singleton] at hm
              have := q4 _ _ _ e
              exact .inr (by omega)
        refine ⟨H5, A5, e5, ?_, n5.p, h5, by have := n5.fx.1; omega, fun x hx hne => ?_, rv5, fun x hm => (n5.own x hm).elim (hown0 x) (fun h1 => .inr (by omega))⟩
        · simp only [VA.cells, Img.start, ptrV, Int.natCast_zero, Int.cast_ofNat_Int] at hH4 c5
          have hg4p := congrArg (fun z => z.get p) hH4
          simp only [IH.get_set, if_true] at hg4p
          cases r with
          | ok z =>
            obtain ⟨u5, rfl, rfl⟩ := rv5
            simp [b0, ho2, c3, ho3, hg3, m1, m1d, m2, m2d, iindexAddr, g0', g1, hm1, istore, Value.cells, plain1, overlay, ← hH4, hg4p, hg4, c5, fin, iresult1]
          | error k =>
            have rv5 : e5 = .pan (overV k) := rv5
            subst rv5
            simp [b0, ho2, c3, ho3, hg3, m1, m1d, m2, m2d, iindexAddr, g0', g1, hm1, istore, Value.cells, plain1, overlay, ← hH4, hg4p, hg4, c5, fin, iresult1]
        · rw [n5.fx.2 x (by omega) (fun hm => ?_), hs4 x hne]; exact ff3.2 x hx
          simp only [VA.own, bOf, frOwn, List.append_nil, List.mem_cons] at hm
          rcases hm with hm | hm | hm | hm | hm
          · exact hne hm
          · omega
          · omega
          · omega
          · rcases hp4.ly with ⟨e, _⟩ | ⟨lb, e, _⟩
            · rw [e] at hm; simp [bOf] at hm
            · rw [e] at hm
              simp only [bOf_some, List.mem_singleton] at hm
              have := q4 _ _ _ e
              omega
      · refine ⟨fun _ => ?_, fun hb => by simp [beginOk, hmo] at hb⟩
        simp only [mainOk] at hmo
        cases m1d : decide (0 ≤ im.main) with
        | false =>
          simp [b0, ho2, c3, ho3, hg3, m1d, hm2, fin, iresult1]
          exact ff3
        | true =>
          have m1 : 0 ≤ im.main := by simpa using m1d
          cases m2d : decide (im.main < im.funcs.length) with
          | false =>
            simp [b0, ho2, c3, ho3, hg3, m1, m1d, m2d, hm2, fin, iresult1]
            exact ff3
          | true =>
            have m2 : im.main < im.funcs.length := by simpa using m2d
            have hlt : im.main.toNat < im.funcs.length := by omega
            rw [m1d, m2d, List.getElem?_eq_getElem hlt] at hmo
            simp only [Option.map_some, Option.getD_some, Bool.true_and, Bool.not_eq_true] at hmo
            obtain ⟨b, o, c, eq, hb, _, hfn⟩ := hv.funcs.get (List.getElem?_eq_getElem hlt)
            rw [ef] at eq
            simp only [Value.slice.injEq] at eq
            obtain ⟨rfl, _, rfl⟩ := eq
            obtain ⟨cs, pr2, vp, vb, g0, g1, g2, g3, g4, g5, g6⟩ := hfn.ex
            have g0' := (ff3.2 b (by omega)).trans g0
            obtain ⟨pa, pc, rfl, _⟩ := id g5
            have hnz : decide (im.funcs[im.main.toNat].params.length = 0) = false := by
              rw [decide_eq_false_iff_not]
              intro e
              rw [List.eq_nil_of_length_eq_zero e] at hmo
              simp at hmo
            obtain ⟨pl, hpl⟩ : ∃ pl, pl = im.funcs[im.main.toNat].params.length := ⟨_, rfl⟩
            rw [← hpl] at g1 hnz
            have hnz2 : ¬ pl = 0 := by simpa using hnz
            simp [b0, ho2, c3, ho3, hg3, m1, m1d, m2, m2d, iindexAddr, g0', g1, hm2, hnz, hnz2, fin, iresult1]
            exact ff3
    · obtain ⟨H3, c3, f3⟩ := c_New_bad s.heap hs.heap (T2.at 2) (im.shapes.map Shp.ly) ly2.at (by simp; omega) hly
      have ff3 : Fr H.next H H3 := f2.trans (f3.of_le f2.1)
      have ho3 := (f3.2 p (by have := f2.1; omega)).trans ho2
      refine ⟨fun _ => ?_, fun hb => by simp [beginOk, hly] at hb⟩
      simp [b0, ho2, c3, ho3, hm2, fin, iresult1]
      exact ff3
  · refine ⟨fun _ => ?_, fun hb => by simp [beginOk, hc] at hb⟩
    have hcd : decide (checkF im = 0) = false := decide_eq_false hc
    simp [C36, regsOf, ptrV, ho, hg, loadT_agg, c1, hm2, hcd, fin, iresult1]
    exact f1
end
end Go.Proofs.YtchlbfmjnhgpgaaGreat.Idl
namespace Go.Proofs.YtchlbfmjnhgpgaaGreat.Idl
open Go Go.RowKit
set_option maxRecDepth 100000
set_option linter.unusedSimpArgs false
section
variable {J : Env}
theorem iopsD_er (call : CallR) (ops : Array Oper) : ∀ (l : List Oper) (T : Regs) (H : IH) (D : Defs), iopsD J call (ops.map erO) (l.map erO) T H D = iopsD J call ops l T H D := by
  intro l
  induction l with
  | nil => intro T H D; rfl
  | cons o r ih =>
    intro T H D
    have h1 : isDefer (erO o) = isDefer o := rfl
    have h2 : deferR T (erO o) = deferR T o := rfl
    have h3 : (erO o).dst = o.dst := rfl
    simp only [List.map_cons, iopsD, wanted_er, h1, h2, h3, iexec_er, ih]
theorem iopsS_er (call : CallR) (ops : Array Oper) : ∀ (l : List Oper) (T : Regs) (H : IH) (u : RS), iopsS J call (ops.map erO) (l.map erO) T H u = iopsS J call ops l T H u := by
  intro l
  induction l with
  | nil => intro T H u; rfl
  | cons o r ih =>
    intro T H u
    have h1 : isRecover (erO o) = isRecover o := rfl
    have h3 : (erO o).dst = o.dst := rfl
    simp only [List.map_cons, iopsS, wanted_er, h1, h3, iexec_er, ih]
def strD : Code → Bool
  | .seq a b => strD a && strD b
  | .region _ _ d => !d
  | .ret => true
  | _ => false
def strS : Code → Bool
  | .seq a b => strS a && strS b
  | .region _ _ d => !d
  | _ => true
theorem icodeD_er (call : CallR) (k : Nat) (Ks : List Tmp) : ∀ (c : Code), strD c = true → ∀ (T : Regs) (H : IH) (D : Defs), icodeD J call k Ks (erC J c) T H D = icodeD J call k Ks c T H D
  | .seq a b, h, T, H, D => by
    simp only [strD, Bool.and_eq_true] at h
    simp only [erC, icodeD, icodeD_er call k Ks a h.1]
    split
    · exact icodeD_er call k Ks b h.2 _ _ _
    · rfl
  | .region i ops d, h, T, H, D => by
    simp only [strD, Bool.not_eq_true'] at h
    subst h
    simp only [erC, Bool.false_eq_true, if_false, icodeD, Array.toList_map, iopsD_er]
  | .ret, _, _, _, _ => rfl
theorem icodeS_er (call : CallR) (k : Nat) : ∀ (c : Code), strS c = true → ∀ (T : Regs) (H : IH) (u : RS), icodeS J call k (erC J c) T H u = icodeS J call k c T H u
  | .seq a b, h, T, H, u => by
    simp only [strS, Bool.and_eq_true] at h
    simp only [erC, icodeS, icodeS_er call k a h.1]
    split
    · exact icodeS_er call k b h.2 _ _ _
    · rfl
  | .region i ops d, h, T, H, u => by
    simp only [strS, Bool.not_eq_true'] at h
    subst h
    simp only [erC, Bool.false_eq_true, if_false, icodeS, Array.toList_map, iopsS_er]
  | .cond c x y, _, T, H, u => by
    have := icode_er (J := J) call k (.cond c x y) T H
    simp only [erC] at this ⊢
    simp only [icodeS, this]
  | .block i c, _, T, H, u => by
    have := icode_er (J := J) call k (.block i c) T H
    simp only [erC] at this ⊢
    simp only [icodeS, this]
  | .loop c, _, T, H, u => by
    have := icode_er (J := J) call k (.loop c) T H
    simp only [erC] at this ⊢
    simp only [icodeS, this]
  | .scope c, _, T, H, u => by
    have := icode_er (J := J) call k (.scope c) T H
    simp only [erC] at this ⊢
    simp only [icodeS, this]
  | .skip, _, _, _, _ => rfl
  | .ret, _, _, _, _ => rfl
  | .exit _, _, _, _, _ => rfl
  | .label _, _, _, _, _ => rfl
  | .rangeFunc _ _ _ _, _, _, _, _ => rfl
  | .goto _, _, _, _, _ => rfl
  | .refuse _, _, _, _, _ => rfl
end
end Go.Proofs.YtchlbfmjnhgpgaaGreat.Idl
namespace Go.Proofs.YtchlbfmjnhgpgaaGreat.Idl
open Go
set_option maxHeartbeats 8000000
set_option maxRecDepth 100000
set_option linter.unusedSimpArgs false
theorem body19 : ∃ c, (Tryz.f19).body = some c ∧ strD c = true ∧ erC J c = C19 := ⟨_, rfl, by kernel_rfl, by kernel_rfl⟩
theorem body35 : ∃ c, (Tryz.f35).body = some c ∧ strS c = true ∧ erC J c = C35 := ⟨_, rfl, by kernel_rfl, by kernel_rfl⟩
def minV : Value → Value → Option Value
  | .int k x, .int _ y => some (.int k (if y < x then y else x))
  | _, _ => none
def maxV : Value → Value → Option Value
  | .int k x, .int _ y => some (.int k (if x < y then y else x))
  | _, _ => none
theorem minV_int (k k' : IntKind) (x y : Int) : minV (.int k x) (.int k' y) = some (.int k (if y < x then y else x)) := id rfl
theorem maxV_int (k k' : IntKind) (x y : Int) : maxV (.int k x) (.int k' y) = some (.int k (if x < y then y else x)) := id rfl
theorem iop_min0 (T : Regs) (H : IH) (dst : Option Tmp) (type : TypeId) (pos : String) (after : Array Edge) (guard : Option (Nat × Bool)) (x y : Operand) (at_ : Array TypeId) (k k' : IntKind) (a b : Int) (hx : iev T x = .int k a) (hy : iev T y = .int k' b) :
    iop J ⟨dst, .call ⟨.builtin .min, #[x, y], at_⟩, type, pos, after, guard⟩ T H = some (.val (.int k (if b < a then b else a)) H) := by
  show ipure J _ T H = _
  have e1 : execOp (iev T) ⟨dst, .call ⟨.builtin .min, #[x, y], at_⟩, type, pos, after, guard⟩ = (do pure (.value (← Builtin.min_ at_ type #[.int k a, .int k' b])) : Sem Next) := by
    simp only [execOp, resolve]
    simp [hx, hy]
    rfl
  have e2 : pureRun J.P (execOp (iev T) ⟨dst, .call ⟨.builtin .min, #[x, y], at_⟩, type, pos, after, guard⟩) = some (.value (.int k (if b < a then b else a))) := by
    rw [e1]
    rfl
  refine ipure_of (J := J) (T := T) (H := H) ?_ e2 rfl
  simp [Op.operands, Call.operands, hx, hy, flat, flatN]
@[simp] theorem iop_min (T : Regs) (H : IH) (dst : Option Tmp) (type : TypeId) (pos : String) (after : Array Edge) (guard : Option (Nat × Bool)) (x y : Operand) (at_ : Array TypeId) :
    iop J ⟨dst, .call ⟨.builtin .min, #[x, y], at_⟩, type, pos, after, guard⟩ T H = lenQ (minV (iev T x) (iev T y)) H (iopP J ⟨dst, .call ⟨.builtin .min, #[x, y], at_⟩, type, pos, after, guard⟩ T H) := by
  cases hx : iev T x with
  | int k a =>
    cases hy : iev T y with
    | int k' b => exact iop_min0 T H dst type pos after guard x y at_ k k' a b hx hy
    | _ => rfl
  | _ => rfl
theorem iop_max0 (T : Regs) (H : IH) (dst : Option Tmp) (type : TypeId) (pos : String) (after : Array Edge) (guard : Option (Nat × Bool)) (x y : Operand) (at_ : Array TypeId) (k k' : IntKind) (a b : Int) (hx : iev T x = .int k a) (hy : iev T y = .int k' b) :
    iop J ⟨dst, .call ⟨.builtin .max, #[x, y], at_⟩, type, pos, after, guard⟩ T H = some (.val (.int k (if a < b then b else a)) H) := by
  show ipure J _ T H = _
  have e1 : execOp (iev T) ⟨dst, .call ⟨.builtin .max, #[x, y], at_⟩, type, pos, after, guard⟩ = (do pure (.value (← Builtin.max_ at_ type #[.int k a, .int k' b])) : Sem Next) := by
    simp only [execOp, resolve]
    simp [hx, hy]
    rfl
  have e2 : pureRun J.P (execOp (iev T) ⟨dst, .call ⟨.builtin .max, #[x, y], at_⟩, type, pos, after, guard⟩) = some (.value (.int k (if a < b then b else a))) := by
    rw [e1]
    rfl
  refine ipure_of (J := J) (T := T) (H := H) ?_ e2 rfl
  simp [Op.operands, Call.operands, hx, hy, flat, flatN]
@[simp] theorem iop_max (T : Regs) (H : IH) (dst : Option Tmp) (type : TypeId) (pos : String) (after : Array Edge) (guard : Option (Nat × Bool)) (x y : Operand) (at_ : Array TypeId) :
    iop J ⟨dst, .call ⟨.builtin .max, #[x, y], at_⟩, type, pos, after, guard⟩ T H = lenQ (maxV (iev T x) (iev T y)) H (iopP J ⟨dst, .call ⟨.builtin .max, #[x, y], at_⟩, type, pos, after, guard⟩ T H) := by
  cases hx : iev T x with
  | int k a =>
    cases hy : iev T y with
    | int k' b => exact iop_max0 T H dst type pos after guard x y at_ k k' a b hx hy
    | _ => rfl
  | _ => rfl
/-- What is in memory below a bound is so below a greater one. -/
theorem LAt.up {α : Type} {lo lo' k : Nat} {P P' : Nat → Nat → α → Prop} {v : Value} {l : List α} (h : LAt lo k P v l) (hl : lo ≤ lo') (hp : ∀ b o x, b < lo → P b o x → P' b o x) : LAt lo' k P' v l := by
  obtain ⟨a, c, h1, h2⟩ := h
  refine ⟨a, c, h1, fun hl' => ?_⟩
  obtain ⟨b, o, h3, h4, h5⟩ := h2 hl'
  exact ⟨b, o, h3, by omega, fun i hi => hp _ _ _ h4 (h5 i hi)⟩
section
variable {H : IH} {lo lo' : Nat}
theorem IntsAt.up {v : Value} {l : List Int} (h : IntsAt H lo v l) (hl : lo ≤ lo') : IntsAt H lo' v l := LAt.up h hl fun _ _ _ _ hx => hx
theorem InsAt.up {b o : Nat} {x : Ins} (h : InsAt H lo b o x) (hl : lo ≤ lo') : InsAt H lo' b o x := by
  obtain ⟨cs, pr, vl, vm, vv, h1, h2, h3, h4, h5, h6, h7, h8, h9, h10, h11, h12, h13⟩ := h.ex
  exact ⟨cs, pr, vl, vm, vv, h1, h2, h3, h4, h5, h6, h7, h8, h9, h10, IntsAt.up h11 hl, IntsAt.up h12 hl, IntsAt.up h13 hl⟩
theorem BlAt.up {b o : Nat} {x : Bl} (h : BlAt H lo b o x) (hl : lo ≤ lo') : BlAt H lo' b o x := by
  obtain ⟨cs, pr, vi, vc, h1, h2, h3, h4, h5⟩ := h.ex
  exact ⟨cs, pr, vi, vc, h1, h2, h3, IntsAt.up h4 hl, h5.up hl fun _ _ _ _ hx => InsAt.up hx hl⟩
theorem FnAt.up {b o : Nat} {x : Fn} (h : FnAt H lo b o x) (hl : lo ≤ lo') : FnAt H lo' b o x := by
  obtain ⟨cs, pr, vp, vb, h1, h2, h3, h4, h5, h6, h7⟩ := h.ex
  exact ⟨cs, pr, vp, vb, h1, h2, h3, h4, h5, IntsAt.up h6 hl, h7.up hl fun _ _ _ _ hx => BlAt.up hx hl⟩
theorem ImvAt.up {u : ImV} {im : Img} (h : ImvAt H lo u im) (hl : lo ≤ lo') : ImvAt H lo' u im := by
  refine ⟨h.types.up hl fun _ _ _ _ hx => ?_, h.shapes.up hl fun _ _ _ _ hx => ?_, h.strings.up hl fun _ _ _ _ hx => hx, h.names.up hl fun _ _ _ _ hx => hx, h.funcs.up hl fun _ _ _ _ hx => FnAt.up hx hl⟩
  · obtain ⟨cs, pr, vf, h1, h2, h3, h4⟩ := hx.ex
    exact ⟨cs, pr, vf, h1, h2, h3, IntsAt.up h4 hl⟩
  · obtain ⟨cs, pr, vf, h1, h2, h3, h4, h5⟩ := hx.ex
    exact ⟨cs, pr, vf, h1, h2, h3, h4, IntsAt.up h5 hl⟩
end
theorem bl_machine (a b c : Option Addr) (n n' m m' : Nat) (f h s : Int) : ibuild J 84 [(0, .pointer a), (1, .agg #[.slice b n n', .int .i64 f, .int .i64 h, .int .i64 s, .slice c m m'])] = some (.agg #[.pointer a, .slice b n n', .int .i64 f, .int .i64 h, .int .i64 s, .slice c m m', .pointer none, .slice none 0 0, .int .i64 0, .int .i64 0, .int .i64 0, .int .i64 0, .slice none 0 0, .string ⟨#[]⟩, .int .i64 0, .int .i64 0]) := by kernel_rfl
def clampN (n : Int) (most : Nat) : Nat := (if (0 : Int) < (if (most : Int) < n then (most : Int) else n) then (if (most : Int) < n then (most : Int) else n) else 0).toNat
theorem clamp_min (n : Int) (most : Nat) : minV (.int .i64 n) (.int .i64 (most : Int)) = some (.int .i64 (if (most : Int) < n then (most : Int) else n)) := rfl
theorem clamp_max (n : Int) (most : Nat) : maxV (.int .i64 0) (.int .i64 (if (most : Int) < n then (most : Int) else n)) = some (.int .i64 (clampN n most : Int)) := by
  unfold clampN
  simp only [maxV]
  congr 2
  split <;> omega
theorem clampN_le (n : Int) (most : Nat) : clampN n most ≤ most := by
  unfold clampN
  by_cases h : (most : Int) < n
  · simp only [if_pos h]; split <;> omega
  · simp only [if_neg h]; split <;> omega
theorem iexec_os (call : CallR) (o : Oper) (T : Regs) (H : IH) : iexec J call o T H = orStep call (iop J o T H) := rfl
end Go.Proofs.YtchlbfmjnhgpgaaGreat.Idl
namespace Go.Proofs.YtchlbfmjnhgpgaaGreat.Idl
open Go
set_option maxHeartbeats 8000000
set_option maxRecDepth 100000
set_option linter.unusedSimpArgs false
@[simp] theorem iop_typeAssert (J : Env) (T : Regs) (H : IH) (dst : Option Tmp) (type : TypeId) (pos : String) (after : Array Edge) (guard : Option (Nat × Bool)) (x : Operand) (xt t : TypeId) (ok : Bool) : iop J ⟨dst, .typeAssert x xt t ok, type, pos, after, guard⟩ T H = OR.ofVal H (itypeAssert J (iev T x) t ok) := rfl
theorem ta_over (k : Int) : itypeAssert J (.iface 86 (.agg #[.int .i64 k])) 86 true = some (.tuple #[.agg #[.int .i64 k], .bool true]) := by
  obtain ⟨fs, h⟩ := und_over
  simp only [itypeAssert, h, if_true]
/-- How a run ends: its kind, and the machine then. -/
def runOut (R : Rest) (im : Img) (s : Scr) : Option (Int × Mst) :=
  if beginOk im = false then some (6, im.start s) else
  match vCall im im.main [] (im.start s) with
  | some (.error k, σ) => some (k, σ)
  | some (.ok _, σ) => match vRunN R im (s.fuel + 1) σ with
    | some (.error k, σ') => some (k, σ')
    | _ => none
  | none => none
def outV (k : Int) (ov : Value) (σ : Mst) : Value := .agg #[.int .i64 k, ov, .string σ.exn, .int .i64 (σ.steps : Int), .int .i64 (σ.swept : Int)]
section
variable {H : IH} {lo : Nat} {im : Img}
/-- What the deferred function does: the outcome's cell gets what the machine has, and how it ended. -/
theorem d35 (vc oc mb : Nat) (kd : Int) (c0 : List Value) (oa : Option Addr) (on oc' : Nat) (ex : ByteArray) (st sw : Int) (h1 : H.get vc = some (.cells [.pointer (some ⟨mb, 0, none⟩)] 79 false)) (hc0 : c0.length = 11)
    (h2 : H.get mb = some (.cells (c0 ++ [.int .i64 0, .slice oa on oc', .string ex, .int .i64 st, .int .i64 sw]) 84 false)) {x0 x1 x2 x3 x4 : Value} (h3 : H.get oc = some (.cells [x0, x1, x2, x3, x4] 44 false)) (hlt : vc < H.next ∧ oc < H.next ∧ mb < H.next) (_hmo : mb ≠ oc) (_hvo : vc ≠ oc) :
    ∃ k0, ∀ k, k0 ≤ k → ∃ H', icallD J okAll (icall J okAll k) k 35 [.pointer (some ⟨vc, 0, none⟩), .pointer (some ⟨oc, 0, none⟩)] (.pan (overV kd)) H = some (H', .reco (overV kd)) ∧ Fr H.next (H.set oc (.cells [.int .i64 kd, .slice oa on oc', .string ex, .int .i64 st, .int .i64 sw] 44 false)) H' := by
  obtain ⟨c, hb, hs, he⟩ := body35
  obtain ⟨B, hB⟩ : ∃ B, C35 = .seq (.region 0 #[o 4 (.call ⟨.builtin .recover, #[], #[]⟩) 20] false) B := ⟨_, rfl⟩
  obtain ⟨T', H', hr, hF⟩ : ∃ T' H', run J okAll B ((regsOf [.pointer (some ⟨vc, 0, none⟩), .pointer (some ⟨oc, 0, none⟩)] 0 .leaf).set 4 (overV kd)) H = some (.normal, T', H') ∧ Fr H.next (H.set oc (.cells [.int .i64 kd, .slice oa on oc', .string ex, .int .i64 st, .int .i64 sw] 44 false)) H' := by
    simp only [C35, Code.seq.injEq, true_and] at hB
    subst hB
    have hco : cellsOf (some (.cells (c0 ++ [.int .i64 0, .slice oa on oc', .string ex, .int .i64 st, .int .i64 sw]) 84 false)) 11 5 = some [.int .i64 0, .slice oa on oc', .string ex, .int .i64 st, .int .i64 sw] := by
      rw [cellsOf_cells, if_pos (by simp [hc0])]
      rw [List.drop_append_of_le_length (by omega), List.drop_of_length_le (by omega)]
      rfl
    have n1 : oc ≠ H.next := by omega
    have n2 : mb ≠ H.next := by omega
    have n3 : vc ≠ H.next := by omega
    simp [regsOf, overV, ta_over, inew, Value.cells, istore, plain1, overlay, IH.get_push, IH.get_set, n1, n2, n3, h1, h2, h3, hco, loadT_agg, _hmo, _hvo, Ne.symm n1]
    refine ⟨_, _, ⟨rfl, rfl⟩, by simp, fun z hz => ?_⟩
    have nz : z ≠ H.next := by omega
    by_cases hzo : z = oc
    · rw [hzo, IH.get_set, if_pos rfl, IH.get_set, if_pos rfl]
    · rw [IH.get_set, if_neg hzo, IH.get_set, if_neg nz, IH.get_push_other _ _ _ hz, IH.get_set, if_neg hzo]
  obtain ⟨k0, hk⟩ := of_run hr
  refine ⟨k0, fun k hk0 => ⟨H', ?_, hF⟩⟩
  have hrun := hk k k hk0 hk0
  have hcode : icodeS J (icall J okAll k) k c (regsOf [.pointer (some ⟨vc, 0, none⟩), .pointer (some ⟨oc, 0, none⟩)] 0 .leaf) H (.pan (overV kd)) = some (.normal, T', H', .reco (overV kd)) := by
    rw [← icodeS_er _ _ c hs, he, hB]
    have e1 : wantedR #[o 4 (.call ⟨.builtin .recover, #[], #[]⟩) 20] (regsOf [.pointer (some ⟨vc, 0, none⟩), .pointer (some ⟨oc, 0, none⟩)] 0 .leaf) (o 4 (.call ⟨.builtin .recover, #[], #[]⟩) 20) = true := rfl
    have e2 : isRecover (o 4 (.call ⟨.builtin .recover, #[], #[]⟩) 20) = true := rfl
    have hB2 := hB
    simp only [C35, Code.seq.injEq, true_and] at hB2
    subst hB2
    simp only [icodeS, iopsS, List.toList_toArray]
    rw [if_pos e1, if_pos e2]
    simp only [put_some, hrun]
  have hfn : J.fn 35 = some Tryz.f35 := id rfl
  have hlen : [Value.pointer (some ⟨vc, 0, none⟩), Value.pointer (some ⟨oc, 0, none⟩)].length ≤ (Tryz.f35).ntmps := show 2 ≤ (Tryz.f35).ntmps from by decide
  have hres : iresults J Tryz.f35 T' H' = some (.tuple #[]) := rfl
  unfold icallD
  have hok : okAll 35 = true := rfl
  rw [if_pos hok, hfn]
  simp only [hb]
  rw [if_pos hlen, hcode]
  simp only [hres, Option.map_some]
end
end Go.Proofs.YtchlbfmjnhgpgaaGreat.Idl
namespace Go.Proofs.YtchlbfmjnhgpgaaGreat.Idl
open Go
set_option maxHeartbeats 8000000
set_option maxRecDepth 100000
set_option linter.unusedSimpArgs false
def scrV (iv : Option Addr × Nat × Nat) (f h s : Int) (cv : Option Addr × Nat × Nat) : Value := .agg #[slV iv, .int .i64 f, .int .i64 h, .int .i64 s, slV cv]
section
variable {H : IH} {lo : Nat} {im : Img}
theorem d19 {u : ImV} {iv cv : Option Addr × Nat × Nat} {f h st : Int} {s : Scr} {ta sa ga na fa : Option Addr} {tn sn gn nn fn tc sc gc nc fc : Nat} (hu : u = ⟨.slice ta tn tc, .slice sa sn sc, .slice ga gn gc, .slice na nn nc, .slice fa fn fc⟩) (h1 : s.fuel = clampN f 16777216) (h2 : s.heap = clampN h 65536) (h3 : s.stack = clampN st 65536) :
    ∃ M, Fr H.next H M ∧ M.next = H.next + 5 ∧ M.get H.next = some (.cells (ImV.cells u im) 27 false) ∧ M.get (H.next + 1 + 1) = some (.cells [.int .i64 0, .slice none 0 0, .string ⟨#[]⟩, .int .i64 0, .int .i64 0] 44 false) ∧ M.get (H.next + 1 + 1 + 1) = some (.cells (cells0 H.next (slV iv) (slV cv) s) 84 false) ∧ M.get (H.next + 1 + 1 + 1 + 1) = some (.cells [ptrV (H.next + 1 + 1 + 1)] 79 false) ∧
      (∀ (call : CallR) (k : Nat) (v : Value) (H1 : IH), call 36 #[ptrV (H.next + 1 + 1 + 1)] M = some (.pan v, H1) → ∃ T', icodeD J call k [4] C19 (regsOf [u.val im, scrV iv f h st cv] 0 .leaf) H [] = some (.pan v, T', H1, [(35, [ptrV (H.next + 1 + 1 + 1 + 1), ptrV (H.next + 1 + 1)])]) ∧ T'.at 4 = ptrV (H.next + 1 + 1)) ∧
      (∀ (call : CallR) (k : Nat) (v : Value) (M1 H1 : IH) (w : Value), call 36 #[ptrV (H.next + 1 + 1 + 1)] M = some (.ret w, M1) → M1.get (H.next + 1 + 1 + 1 + 1) = some (.cells [ptrV (H.next + 1 + 1 + 1)] 79 false) → call 37 #[ptrV (H.next + 1 + 1 + 1)] M1 = some (.pan v, H1) → ∃ T', icodeD J call k [4] C19 (regsOf [u.val im, scrV iv f h st cv] 0 .leaf) H [] = some (.pan v, T', H1, [(35, [ptrV (H.next + 1 + 1 + 1 + 1), ptrV (H.next + 1 + 1)])]) ∧ T'.at 4 = ptrV (H.next + 1 + 1)) := by
  subst hu
  obtain ⟨ia, inn, ic⟩ := iv
  obtain ⟨ca, cn, cc⟩ := cv
  have e1 := clamp_min f 16777216
  have e1' := clamp_max f 16777216
  have e2 := clamp_min h 65536
  have e2' := clamp_max h 65536
  have e3 := clamp_min st 65536
  have e3' := clamp_max st 65536
  rw [← h1] at e1'
  rw [← h2] at e2'
  rw [← h3] at e3'
  simp only [Int.cast_ofNat_Int] at e1 e1' e2 e2' e3 e3'
  generalize (if (16777216 : Int) < f then (16777216 : Int) else f) = f0 at *
  generalize (if (65536 : Int) < h then (65536 : Int) else h) = h0 at *
  generalize (if (65536 : Int) < st then (65536 : Int) else st) = st0 at *
  obtain ⟨M, hM⟩ : ∃ M, M = (((((((H.push (.cells [.slice ta tn tc, .slice sa sn sc, .slice ga gn gc, .slice na nn nc, .slice fa fn fc, .int .i64 im.main, .int .i64 im.exn] 27 false)).push (.cells [.slice ia inn ic, .int .i64 f, .int .i64 h, .int .i64 st, .slice ca cn cc] 37 false)).push (.cells [.int .i64 0, .slice none 0 0, .string ⟨#[]⟩, .int .i64 0, .int .i64 0] 44 false)).set (H.next + 1) (.cells [.slice ia inn ic, .int .i64 (s.fuel : Int), .int .i64 (s.heap : Int), .int .i64 (s.stack : Int), .slice ca cn cc] 37 false)).push (.cells (cells0 H.next (.slice ia inn ic) (.slice ca cn cc) s) 84 false)).push (.cells [.pointer none] 79 false)).set (H.next + 1 + 1 + 1 + 1) (.cells [ptrV (H.next + 1 + 1 + 1)] 79 false)) := ⟨_, rfl⟩
  have q1 : ¬ H.next = H.next + 1 + 1 := by omega
  have q2 : ¬ H.next = H.next + 1 + 1 + 1 := by omega
  have q3 : ¬ H.next = H.next + 1 + 1 + 1 + 1 := by omega
  have q4 : ¬ H.next + 1 = H.next + 1 + 1 + 1 := by omega
  have q5 : ¬ H.next + 1 = H.next + 1 + 1 + 1 + 1 := by omega
  have q6 : ¬ H.next + 1 + 1 = H.next + 1 + 1 + 1 + 1 := by omega
  refine ⟨M, ?_, ?_, ?_, ?_, ?_, ?_, ?_, ?_⟩
  · rw [hM]
    repeat' first | exact Fr.refl _ _ | apply Fr.push | apply Fr.set
    all_goals first | omega | (simp <;> omega)
  · rw [hM]; simp
  · rw [hM]; simp [IH.get_push, IH.get_set, ImV.cells, q1, q2, q3]
  · rw [hM]; simp [IH.get_push, IH.get_set, q4, q5, q6]
  · rw [hM]; simp [IH.get_push, IH.get_set, slV]
  · rw [hM]; simp [IH.get_push, IH.get_set]
  · intro call k v H1 hc
    have gv : M.get (H.next + 1 + 1 + 1 + 1) = some (.cells [.pointer (some ⟨H.next + 1 + 1 + 1, 0, none⟩)] 79 false) := by rw [hM]; simp [IH.get_push, IH.get_set, ptrV]
    simp only [ptrV, cells0] at hc hM
    simp [C19, regsOf, ImV.val, ImV.cells, scrV, slV, icodeD, iopsD, iexec_os, isDefer, deferR, o, oz, inew, Value.cells, IH.get_push, IH.get_set, istore, plain1, overlay, e1, e1', e2, e2', e3, e3', loadT_agg, iparts, bl_machine, q1, q2, q3, q4, q5, q6, ← hM, gv, hc]
    exact ⟨_, ⟨rfl, rfl, rfl⟩, by simp [ptrV]⟩
  · intro call k v M1 H1 w hc gw hc2
    have gv : M.get (H.next + 1 + 1 + 1 + 1) = some (.cells [.pointer (some ⟨H.next + 1 + 1 + 1, 0, none⟩)] 79 false) := by rw [hM]; simp [IH.get_push, IH.get_set, ptrV]
    simp only [ptrV, cells0] at hc hM gw hc2
    simp [C19, regsOf, ImV.val, ImV.cells, scrV, slV, icodeD, iopsD, iexec_os, isDefer, deferR, o, oz, inew, Value.cells, IH.get_push, IH.get_set, istore, plain1, overlay, e1, e1', e2, e2', e3, e3', loadT_agg, iparts, bl_machine, q1, q2, q3, q4, q5, q6, ← hM, gv, hc, gw, hc2]
    exact ⟨_, ⟨rfl, rfl, rfl⟩, by simp [ptrV]⟩
end
end Go.Proofs.YtchlbfmjnhgpgaaGreat.Idl
namespace Go.Proofs.YtchlbfmjnhgpgaaGreat.Idl
open Go
set_option maxHeartbeats 8000000
set_option maxRecDepth 100000
set_option linter.unusedSimpArgs false
section
variable {H : IH} {lo : Nat} {im : Img}
theorem fin19 {args : Array Value} (hsz : args.size = 2) {H5 : IH} {vc oc mb : Nat} {kd : Int} {c0 : List Value} {oa : Option Addr} {on oc' : Nat} {ex : ByteArray} {st sw : Int} {k1 : Nat}
    (hk : ∀ k, k1 ≤ k → ∃ T', icodeD J (icall J okAll k) k [4] C19 (regsOf args.toList 0 .leaf) H [] = some (.pan (overV kd), T', H5, [(35, [ptrV vc, ptrV oc])]) ∧ T'.at 4 = ptrV oc)
    (h1 : H5.get vc = some (.cells [ptrV mb] 79 false)) (hc0 : c0.length = 11)
    (h2 : H5.get mb = some (.cells (c0 ++ [.int .i64 0, .slice oa on oc', .string ex, .int .i64 st, .int .i64 sw]) 84 false)) {x0 x1 x2 x3 x4 : Value} (h3 : H5.get oc = some (.cells [x0, x1, x2, x3, x4] 44 false)) (hlt : vc < H5.next ∧ oc < H5.next ∧ mb < H5.next) (hmo : mb ≠ oc) (hvo : vc ≠ oc) :
    ∃ H', cal J okAll 19 args H = some (.ret (.agg #[.int .i64 kd, .slice oa on oc', .string ex, .int .i64 st, .int .i64 sw]), H') ∧ Fr H5.next (H5.set oc (.cells [.int .i64 kd, .slice oa on oc', .string ex, .int .i64 st, .int .i64 sw] 44 false)) H' := by
  obtain ⟨k0, hd⟩ := d35 vc oc mb kd c0 oa on oc' ex st sw h1 hc0 h2 h3 hlt hmo hvo
  obtain ⟨c, hb, hs, he⟩ := body19
  have hfn : J.fn 19 = some Tryz.f19 := id rfl
  obtain ⟨H', e1, f1⟩ := hd (max k0 k1) (Nat.le_max_left _ _)
  obtain ⟨T', e2, e3⟩ := hk (max k0 k1) (Nat.le_max_right _ _)
  refine ⟨H', ?_, f1⟩
  apply cal_of (k := max k0 k1 + 1)
  rw [icall_dfr J (max k0 k1) H okAll 19 args Tryz.f19 c rfl hfn hb (by rw [hsz]; decide) rfl rfl]
  unfold icallF
  have hcr : cellRegs (Tryz.f19).results.toList = [4] := rfl
  rw [hcr, ← icodeD_er _ _ _ c hs, he, e2]
  simp only [idefers, ptrV] at e1 ⊢
  rw [e1]
  simp only [RS.settle, iend]
  have hall : allCells (Tryz.f19).results.toList = true := rfl
  rw [hall]
  have hg := f1.2 oc hlt.2.1
  rw [IH.get_set, if_pos rfl] at hg
  have hir : iresults J Tryz.f19 T' H' = fin J [.cell 4 44] T' H' := rfl
  simp only [if_true, hir]
  simp only [ptrV] at e3
  simp [fin, iresult1, e3, hg, loadT_agg]
end
end Go.Proofs.YtchlbfmjnhgpgaaGreat.Idl
namespace Go.Proofs.YtchlbfmjnhgpgaaGreat.Idl
open Go
set_option maxHeartbeats 8000000
set_option maxRecDepth 100000
set_option linter.unusedSimpArgs false
section
variable {H : IH} {lo : Nat} {im : Img}
theorem c_Run {R : Rest} (hR : ∀ lo, RestOk lo im R) {u : ImV} (hv : ImvAt H lo u im) (hlo : lo ≤ H.next) (hsm : ImSm im) {iv cv : Option Addr × Nat × Nat} {f h st : Int} {s : Scr} (hin : LAt lo 1 (CellAt H 5 byteV) (slV iv) s.input) (hcl : LAt lo 1 (CellAt H 4 Value.bool) (slV cv) s.collect)
    (hib : s.input.length ≤ 4611686018427387904 ∧ ∀ c ∈ s.input, c < 256) (s1 : s.fuel = clampN f 16777216) (s2 : s.heap = clampN h 65536) (s3 : s.stack = clampN st 65536) {k : Int} {σ : Mst} (hr : runOut R im s = some (k, σ)) :
    ∃ H' ov, cal J okAll 19 #[u.val im, scrV iv f h st cv] H = some (.ret (outV k ov σ), H') ∧ Fr H.next H H' ∧ OvAt H' ov σ.out ∧ (∀ x ∈ bOf ov, H.next ≤ x ∧ x < H'.next) := by
  have hs : ScrOk s := ⟨by rw [s1]; exact clampN_le _ _, by rw [s2]; exact clampN_le _ _, by rw [s3]; exact clampN_le _ _, hib⟩
  obtain ⟨vt, vs, vst, vn, vf⟩ := id u
  obtain ⟨ta, tc, et, _⟩ := id hv.types
  obtain ⟨sa, sc, es, _⟩ := id hv.shapes
  obtain ⟨ga, gc, eg, _⟩ := id hv.strings
  obtain ⟨na, nc, en, _⟩ := id hv.names
  obtain ⟨fa, fc, ef, _⟩ := id hv.funcs
  have hu : u = ⟨.slice ta im.types.length tc, .slice sa im.shapes.length sc, .slice ga im.strings.length gc, .slice na im.names.length nc, .slice fa im.funcs.length fc⟩ := by
    cases u
    simp only at et es eg en ef
    simp only [et, es, eg, en, ef]
  obtain ⟨M, fM, nM, gi, go, gm, gv, d1, d2⟩ := d19 (H := H) (im := im) (iv := iv) (cv := cv) (f := f) (h := h) (st := st) (s := s) hu s1 s2 s3
  have sM : SameB lo H M := fun z hz => fM.2 z (by omega)
  have hvM := (hv.same sM).up (lo' := H.next + 1 + 1 + 1) (by omega)
  have hiM : ImgAt M (H.next + 1 + 1 + 1) H.next im := ⟨by omega, u, false, gi, hvM⟩
  have hinM : LAt (H.next + 1 + 1 + 1) 1 (CellAt M 5 byteV) (slV iv) s.input := hin.up (by omega) fun _ _ _ hb hx => CellAt.same hx sM hb
  have hclM : LAt (H.next + 1 + 1 + 1) 1 (CellAt M 4 Value.bool) (slV cv) s.collect := hcl.up (by omega) fun _ _ _ hb hx => CellAt.same hx sM hb
  obtain ⟨b1, b2⟩ := m_begin hiM hinM hclM hs hsm (by omega) (p := H.next + 1 + 1 + 1) (by omega) gm
  -- how the end is reached
  have done : ∀ (H5 : IH) (A5 : VA) (σ5 : Mst) (kd : Int) (k1 : Nat), A5.p = H.next + 1 + 1 + 1 → VmAt H5 (H.next + 1 + 1 + 1) im A5 σ5 → M.next ≤ H5.next → (∀ x, x < M.next → x ≠ H.next + 1 + 1 + 1 → H5.get x = M.get x) → (∀ x ∈ A5.own, x = H.next + 1 + 1 + 1 ∨ M.next ≤ x) →
      (∀ k, k1 ≤ k → ∃ T', icodeD J (icall J okAll k) k [4] C19 (regsOf [u.val im, scrV iv f h st cv] 0 .leaf) H [] = some (.pan (overV kd), T', H5, [(35, [ptrV (H.next + 1 + 1 + 1 + 1), ptrV (H.next + 1 + 1)])]) ∧ T'.at 4 = ptrV (H.next + 1 + 1)) →
      ∃ H' ov, cal J okAll 19 #[u.val im, scrV iv f h st cv] H = some (.ret (outV kd ov σ5), H') ∧ Fr H.next H H' ∧ OvAt H' ov σ5.out ∧ (∀ x ∈ bOf ov, H.next ≤ x ∧ x < H'.next) := by
    intro H5 A5 σ5 kd k1 hp h5 hn hx hown hk
    have ho := h5.obj
    rw [hp] at ho
    obtain ⟨oa, on, oc, hov⟩ : ∃ oa on oc, A5.ov = .slice oa on oc := by
      rcases h5.ov with ⟨e, _⟩ | ⟨b, e, _⟩
      · exact ⟨_, _, _, e⟩
      · exact ⟨_, _, _, e⟩
    have ho2 : H5.get (H.next + 1 + 1 + 1) = some (.cells ([ptrV A5.mp, A5.iv, .int .i64 σ5.fuel, .int .i64 σ5.heap, .int .i64 σ5.stack, A5.cv, ptrV A5.hp.p, A5.fv, .int .i64 σ5.words, .int .i64 (σ5.inn : Int), .int .i64 (σ5.made : Int)] ++ [.int .i64 0, .slice oa on oc, .string σ5.exn, .int .i64 (σ5.steps : Int), .int .i64 (σ5.swept : Int)]) 84 false) := by
      rw [ho]; simp [VA.cells, hov]
    obtain ⟨H', c1, f1⟩ := fin19 (args := #[u.val im, scrV iv f h st cv]) rfl hk ((hx _ (by omega) (by omega)).trans gv) rfl ho2 ((hx _ (by omega) (by omega)).trans go) (by omega) (by omega) (by omega)
    have hbo : ∀ x ∈ bOf A5.ov, M.next ≤ x ∧ x < H5.next := by
      intro x hm
      have h1 := h5.own x (by simp [VA.own, hm])
      rcases hown x (by simp [VA.own, hm]) with e | e
      · exfalso
        have h2 := h5.nd
        rw [VA.own, List.nodup_cons] at h2
        exact h2.1 (by rw [hp, ← e]; simp [hm])
      · exact ⟨e, h1.2⟩
    have hn' : H5.next ≤ H'.next := by have := f1.1; simpa using this
    refine ⟨H', A5.ov, by rw [c1, hov]; rfl, ⟨by omega, fun x hx' => ?_⟩, h5.ov.same fun x hm => ?_, fun x hm => ?_⟩
    · rw [f1.2 x (by omega), IH.get_set, if_neg (by omega), hx x (by omega) (by omega)]; exact fM.2 x hx'
    · have := hbo x hm
      rw [f1.2 x (by omega), IH.get_set, if_neg (by omega)]
    · have := hbo x hm; omega
  unfold runOut at hr
  cases hb : beginOk im with
  | false =>
    rw [if_pos hb] at hr
    simp only [Option.some.injEq, Prod.mk.injEq] at hr
    obtain ⟨rfl, rfl⟩ := hr
    obtain ⟨H1, c1, f1⟩ := b1 hb
    obtain ⟨k1, hk1⟩ := of_cal c1
    have hgm := (f1.2 (H.next + 1 + 1 + 1) (by omega)).trans gm
    obtain ⟨H', c2, f2⟩ := fin19 (args := #[u.val im, scrV iv f h st cv]) (k1 := k1) rfl (fun k hk => d1 (icall J okAll k) k _ H1 (hk1 k hk)) ((f1.2 _ (by omega)).trans gv) (c0 := [ptrV H.next, slV iv, .int .i64 (s.fuel : Int), .int .i64 (s.heap : Int), .int .i64 (s.stack : Int), slV cv, .pointer none, .slice none 0 0, .int .i64 0, .int .i64 0, .int .i64 0]) rfl (by rw [hgm]; rfl) ((f1.2 _ (by omega)).trans go) (by have := f1.1; omega) (by omega) (by omega)
    have hn1 := f1.1
    have hn' : H1.next ≤ H'.next := by have := f2.1; simpa using this
    refine ⟨H', .slice none 0 0, c2, ⟨by omega, fun x hx' => ?_⟩, .inl ⟨rfl, rfl⟩, fun x hm => by simp [bOf] at hm⟩
    rw [f2.2 x (by omega), IH.get_set, if_neg (by omega), f1.2 x (by omega)]; exact fM.2 x hx'
  | true =>
    rw [if_neg (by simp [hb])] at hr
    cases hc : vCall im im.main [] (im.start s) with
    | none => rw [hc] at hr; simp at hr
    | some rc =>
      obtain ⟨r1, σ1⟩ := rc
      rw [hc] at hr
      obtain ⟨H1, A1, e1, c1, p1, v1, n1, x1, rv1, o1⟩ := b2 hb r1 σ1 hc
      obtain ⟨k1, hk1⟩ := of_cal c1
      cases r1 with
      | error kd =>
        simp only [Option.some.injEq, Prod.mk.injEq] at hr
        obtain ⟨rfl, rfl⟩ := hr
        have rv1 : e1 = .pan (overV kd) := rv1
        subst rv1
        exact done H1 A1 σ1 kd k1 p1 v1 n1 x1 o1 fun k hk => d1 (icall J okAll k) k _ H1 (hk1 k hk)
      | ok a =>
        obtain ⟨w, rfl, rfl⟩ := rv1
        simp only at hr
        cases hq : vRunN R im (s.fuel + 1) σ1 with
        | none => rw [hq] at hr; simp at hr
        | some rq =>
          obtain ⟨r2, σ2⟩ := rq
          rw [hq] at hr
          obtain ⟨H2, A2, kd, e2, c2, v2, n2⟩ := m_run (hR _) v1 hq
          subst e2
          simp only [Option.some.injEq, Prod.mk.injEq] at hr
          obtain ⟨rfl, rfl⟩ := hr
          rw [p1] at c2
          obtain ⟨k2, hk2⟩ := of_cal c2
          have hx2 : ∀ x, x < M.next → x ≠ H.next + 1 + 1 + 1 → H2.get x = H1.get x := fun x hx hne => n2.fx.2 x (by omega) fun hm => by
            rcases o1 x hm with e | e
            · exact hne e
            · omega
          refine done H2 A2 σ2 kd (max k1 k2) (n2.p.trans p1) v2 (by have := n2.fx.1; omega) (fun x hx hne => (hx2 x hx hne).trans (x1 x hx hne)) (fun x hm => (n2.own x hm).elim (o1 x) fun h1 => .inr (by omega)) fun k hk => ?_
          exact d2 (icall J okAll k) k _ H1 H2 _ (hk1 k (by omega)) ((x1 _ (by omega) (by omega)).trans gv) (hk2 k (by omega))
end
end Go.Proofs.YtchlbfmjnhgpgaaGreat.Idl
namespace Go.Proofs.YtchlbfmjnhgpgaaGreat.Idl
open Go
set_option maxHeartbeats 8000000
set_option maxRecDepth 100000
set_option linter.unusedSimpArgs false
def ins (op d a b c n : Int) : Ins := ⟨op, d, a, b, c, n, [], [], []⟩
def insC (x : Ins) : List Value := [.int .i64 x.op, .int .i64 x.d, .int .i64 x.a, .int .i64 x.b, .int .i64 x.c, .int .i64 x.n, .slice none 0 0, .slice none 0 0, .slice none 0 0]
def leastIm (code : List Ins) : Img := ⟨[⟨true, []⟩, ⟨false, [0]⟩], [⟨3, [], ⟨#[]⟩⟩], [], [], [⟨[], 0, 1, [⟨[-1], code⟩]⟩], 0, 0⟩
theorem nn2 (a : Nat) : (a = a + 1 + 1) = False := by simp only [eq_iff_iff, iff_false]; omega
theorem nn3 (a : Nat) : (a = a + 1 + 1 + 1) = False := by simp only [eq_iff_iff, iff_false]; omega
theorem nn4 (a : Nat) : (a = a + 1 + 1 + 1 + 1) = False := by simp only [eq_iff_iff, iff_false]; omega
theorem nn5 (a : Nat) : (a = a + 1 + 1 + 1 + 1 + 1) = False := by simp only [eq_iff_iff, iff_false]; omega
theorem nn6 (a : Nat) : (a = a + 1 + 1 + 1 + 1 + 1 + 1) = False := by simp only [eq_iff_iff, iff_false]; omega
theorem nn7 (a : Nat) : (a = a + 1 + 1 + 1 + 1 + 1 + 1 + 1) = False := by simp only [eq_iff_iff, iff_false]; omega
theorem nn8 (a : Nat) : (a = a + 1 + 1 + 1 + 1 + 1 + 1 + 1 + 1) = False := by simp only [eq_iff_iff, iff_false]; omega
theorem nn9 (a : Nat) : (a = a + 1 + 1 + 1 + 1 + 1 + 1 + 1 + 1 + 1) = False := by simp only [eq_iff_iff, iff_false]; omega
theorem nn10 (a : Nat) : (a = a + 1 + 1 + 1 + 1 + 1 + 1 + 1 + 1 + 1 + 1) = False := by simp only [eq_iff_iff, iff_false]; omega
theorem nn11 (a : Nat) : (a = a + 1 + 1 + 1 + 1 + 1 + 1 + 1 + 1 + 1 + 1 + 1) = False := by simp only [eq_iff_iff, iff_false]; omega
section
variable {H : IH} {lo : Nat}
theorem LAt.mk {α : Type} {k : Nat} {P : Nat → Nat → α → Prop} {l : List α} {b o c n : Nat} (hn : l.length = n) (hb : b < lo) (h : ∀ i (h : i < l.length), P b (o + i * k) l[i]) : LAt lo k P (.slice (some ⟨b, o, none⟩) n c) l :=
  ⟨_, c, by rw [hn], fun _ => ⟨b, o, rfl, hb, h⟩⟩
theorem LAt.nil {α : Type} {k : Nat} {P : Nat → Nat → α → Prop} {a : Option Addr} {c : Nat} : LAt lo k P (.slice a 0 c) [] := ⟨a, c, rfl, fun h => by simp at h⟩
theorem CellAt.one {α : Type} {e : TypeId} {V : α → Value} {b o : Nat} {x : α} {cs : List Value} {pr : Bool} (hg : H.get b = some (.cells cs e pr)) (hc : cs[o]? = some (V x)) : CellAt H e V b o x := ⟨cs, pr, hg, hc⟩
theorem InsAt.plain {b o : Nat} {x : Ins} {cs : List Value} {pr : Bool} (hg : H.get b = some (.cells cs 30 pr)) (h : ∀ j, j < 9 → cs[o + j]? = (insC x)[j]?) (h1 : x.l = []) (h2 : x.m = []) (h3 : x.live = []) : InsAt H lo b o x :=
  ⟨cs, pr, _, _, _, hg, by simpa [insC] using h 0 (by omega), by simpa [insC] using h 1 (by omega), by simpa [insC] using h 2 (by omega), by simpa [insC] using h 3 (by omega), by simpa [insC] using h 4 (by omega), by simpa [insC] using h 5 (by omega),
    by simpa [insC] using h 6 (by omega), by simpa [insC] using h 7 (by omega), by simpa [insC] using h 8 (by omega), by rw [h1]; exact LAt.nil, by rw [h2]; exact LAt.nil, by rw [h3]; exact LAt.nil⟩
/-- A row of plain instructions. -/
theorem code_at {b c n : Nat} {l : List Ins} {pr : Bool} (hn : l.length = n) (hb : b < lo) (hg : H.get b = some (.cells (l.flatMap insC) 30 pr)) (hp : ∀ x ∈ l, x.l = [] ∧ x.m = [] ∧ x.live = []) : LAt lo 9 (InsAt H lo) (.slice (some ⟨b, 0, none⟩) n c) l := by
  refine LAt.mk hn hb fun i hi => ?_
  have hx := hp _ (List.getElem_mem hi)
  refine InsAt.plain hg (fun j hj => ?_) hx.1 hx.2.1 hx.2.2
  have key : ∀ (l : List Ins) (i : Nat) (hi : i < l.length), (l.flatMap insC)[i * 9 + j]? = (insC l[i])[j]? := by
    intro l
    induction l with
    | nil => intro i hi; simp at hi
    | cons y l ih =>
      intro i hi
      rw [List.flatMap_cons]
      cases i with
      | zero =>
        rw [List.getElem?_append_left (by simp [insC]; omega)]; simp
      | succ i =>
        rw [List.getElem?_append_right (by simp [insC]; omega)]
        have := ih i (by simpa using hi)
        simp only [List.getElem_cons_succ]
        rw [← this]
        congr 1
        simp [insC]; omega
  rw [Nat.zero_add]
  exact key l i hi
theorem bt1 (b : Bool) : ibuild J 88 [(0, .bool b)] = some (.agg #[.bool b, .slice none 0 0]) := by kernel_rfl
theorem bt2 (a : Option Addr) (n c : Nat) : ibuild J 88 [(1, .slice a n c)] = some (.agg #[.bool false, .slice a n c]) := by kernel_rfl
theorem bsi1 (H : IH) (x : Int) : ibuildSlice J 28 1 [(0, .int .i64 x)] H = some (.slice (some ⟨H.next, 0, none⟩) 1 1, H.push (.cells [.int .i64 x] 3 false)) := by kernel_rfl
theorem bst2 (H : IH) (a b : Bool) (x y : Option Addr) (n c m d : Nat) : ibuildSlice J 22 2 [(0, .agg #[.bool a, .slice x n c]), (1, .agg #[.bool b, .slice y m d])] H = some (.slice (some ⟨H.next, 0, none⟩) 2 2, H.push (.cells [.bool a, .slice x n c, .bool b, .slice y m d] 88 false)) := by kernel_rfl
theorem bsh (k : Int) : ibuild J 90 [(0, .int .i64 k)] = some (.agg #[.int .i64 k, .slice none 0 0, .string ⟨#[]⟩]) := by kernel_rfl
theorem bss1 (H : IH) (k : Int) (x : Option Addr) (n c : Nat) (s : ByteArray) : ibuildSlice J 23 1 [(0, .agg #[.int .i64 k, .slice x n c, .string s])] H = some (.slice (some ⟨H.next, 0, none⟩) 1 1, H.push (.cells [.int .i64 k, .slice x n c, .string s] 90 false)) := by kernel_rfl
theorem bi0 (op : Int) : ibuild J 30 [(0, .int .i64 op)] = some (.agg (insC (ins op 0 0 0 0 0)).toArray) := by kernel_rfl
theorem bi05 (op n : Int) : ibuild J 30 [(0, .int .i64 op), (5, .int .i64 n)] = some (.agg (insC (ins op 0 0 0 0 n)).toArray) := by kernel_rfl
theorem bsc2 (H : IH) (x y : Ins) : ibuildSlice J 54 2 [(0, .agg (insC x).toArray), (1, .agg (insC y).toArray)] H = some (.slice (some ⟨H.next, 0, none⟩) 2 2, H.push (.cells (insC x ++ insC y) 30 false)) := by kernel_rfl
theorem bbl (a b : Option Addr) (n c m d : Nat) : ibuild J 56 [(0, .slice a n c), (1, .slice b m d)] = some (.agg #[.slice a n c, .slice b m d]) := by kernel_rfl
theorem bsb1 (H : IH) (a b : Option Addr) (n c m d : Nat) : ibuildSlice J 57 1 [(0, .agg #[.slice a n c, .slice b m d])] H = some (.slice (some ⟨H.next, 0, none⟩) 1 1, H.push (.cells [.slice a n c, .slice b m d] 56 false)) := by kernel_rfl
theorem bfn (s : Int) (b : Option Addr) (m d : Nat) : ibuild J 59 [(2, .int .i64 s), (3, .slice b m d)] = some (.agg #[.slice none 0 0, .int .i64 0, .int .i64 s, .slice b m d]) := by kernel_rfl
theorem bsf1 (H : IH) (r s : Int) (a b : Option Addr) (n c m d : Nat) : ibuildSlice J 25 1 [(0, .agg #[.slice a n c, .int .i64 r, .int .i64 s, .slice b m d])] H = some (.slice (some ⟨H.next, 0, none⟩) 1 1, H.push (.cells [.slice a n c, .int .i64 r, .int .i64 s, .slice b m d] 59 false)) := by kernel_rfl
theorem bim (a b e : Option Addr) (n c m d f g : Nat) : ibuild J 27 [(0, .slice a n c), (1, .slice b m d), (4, .slice e f g)] = some (.agg #[.slice a n c, .slice b m d, .slice none 0 0, .slice none 0 0, .slice e f g, .int .i64 0, .int .i64 0]) := by kernel_rfl
/-- The least image in memory, from its block n on; its code is another one's. -/
structure LeastAt (H : IH) (n : Nat) (ca : Option Addr) (cn cc : Nat) : Prop where
  g1 : H.get (n + 1) = some (.cells [.int .i64 0] 3 false)
  g2 : H.get (n + 2) = some (.cells [.bool true, .slice none 0 0, .bool false, .slice (some ⟨n + 1, 0, none⟩) 1 1] 88 false)
  g3 : H.get (n + 3) = some (.cells [.int .i64 3, .slice none 0 0, .string ⟨#[]⟩] 90 false)
  g4 : H.get (n + 4) = some (.cells [.int .i64 (-1)] 3 false)
  g6 : H.get (n + 6) = some (.cells [.slice (some ⟨n + 4, 0, none⟩) 1 1, .slice ca cn cc] 56 false)
  g7 : H.get (n + 7) = some (.cells [.slice none 0 0, .int .i64 0, .int .i64 1, .slice (some ⟨n + 6, 0, none⟩) 1 1] 59 false)
def leastU (n : Nat) : ImV := ⟨.slice (some ⟨n + 2, 0, none⟩) 2 2, .slice (some ⟨n + 3, 0, none⟩) 1 1, .slice none 0 0, .slice none 0 0, .slice (some ⟨n + 7, 0, none⟩) 1 1⟩
theorem c_Least : ∃ H', cal J okAll 22 #[] H = some (.ret ((leastU H.next).val (leastIm [])), H') ∧ Fr H.next H H' ∧ H'.next = H.next + 8 ∧ LeastAt H' H.next (some ⟨H.next + 5, 0, none⟩) 2 2 := by
  rw [cal22 _ _ (by simp)]
  simp [C22, regsOf, fin, iresult1, inew, Value.cells, IH.get_push, IH.get_set, istore, plain1, overlay, iparts, bt1, bt2, bsi1, bst2, bsh, bss1, bi0, bi05, bsc2, bbl, bsb1, bfn, bsf1, bim, loadT_agg, nn2, nn3, nn4, nn5, nn6, nn7, nn8, nn9, nn10, nn11]
  refine ⟨_, ⟨rfl, rfl⟩, ?_, by simp, ⟨?_, ?_, ?_, ?_, ?_, ?_⟩⟩
  · repeat' first | exact Fr.refl _ _ | apply Fr.push | apply Fr.set
    all_goals first | omega | (simp <;> omega)
  all_goals simp [IH.get_push, IH.get_set]
end
end Go.Proofs.YtchlbfmjnhgpgaaGreat.Idl
namespace Go.Proofs.YtchlbfmjnhgpgaaGreat.Idl
open Go
set_option maxHeartbeats 8000000
set_option maxRecDepth 100000
set_option linter.unusedSimpArgs false
def outB (l : List Nat) : ByteArray := strOf (l.map fun (n : Nat) => (n : Int))
def scr0 (f st : Nat) : Scr := ⟨[], f, 0, st, []⟩
def livesIm : Img := leastIm [ins 1 0 0 0 0 72, ins 16 0 0 0 0 0, ins 22 0 0 0 0 0]
def endIs (o : Option (Int × Mst)) (p : Int → Mst → Bool) : Bool := match o with
  | some (k, σ) => p k σ
  | none => false
theorem endIs_ok {o : Option (Int × Mst)} {p : Int → Mst → Bool} (h : endIs o p = true) : ∃ k σ, o = some (k, σ) ∧ p k σ = true := by
  unfold endIs at h
  split at h
  · exact ⟨_, _, rfl, h⟩
  · simp at h
theorem lives1 : endIs (runOut .none livesIm (scr0 9 9)) (fun k σ => decide (k = 1) && decide (σ.out = [72]) && decide (σ.steps = 3)) = true := by kernel_rfl
theorem lives2 : endIs (runOut .none livesIm (scr0 2 9)) (fun k σ => decide (k = 3) && decide (σ.out = [72])) = true := by kernel_rfl
theorem lives3 : endIs (runOut .none livesIm (scr0 9 2)) (fun k σ => decide (k = 5) && decide (σ.steps = 0)) = true := by kernel_rfl
section
variable {H : IH} {lo : Nat}
theorem bt_out : BT J 34 5 := ⟨by simp, by simp, by simp, by simp, by simp⟩
theorem conv_out {ov : Value} {l : List Nat} (h : OvAt H ov l) (hb : ∀ x ∈ bOf ov, x < H.next) : iconvert J 34 9 ov H = some (.string (outB l), H) := by
  refine conv_bytes (lo := 0) bt_out ?_ (by simp)
  rcases h with ⟨rfl, rfl⟩ | ⟨b, rfl, h2⟩
  · exact .inl ⟨rfl, rfl⟩
  · refine .inr ⟨b, Nat.zero_le _, hb b (by simp [bOf]), by simp, ?_⟩
    rw [h2, List.map_map]; rfl
theorem least_imv {n : Nat} {ca : Option Addr} {cn cc : Nat} {code : List Ins} (h : LeastAt H n ca cn cc) (hc : LAt lo 9 (InsAt H lo) (.slice ca cn cc) code) (hlo : n + 8 ≤ lo) : ImvAt H lo (leastU n) (leastIm code) := by
  refine ⟨LAt.mk rfl (by omega) fun i hi => ?_, LAt.mk rfl (by omega) fun i hi => ?_, LAt.nil, LAt.nil, LAt.mk rfl (by omega) fun i hi => ?_⟩
  · match i, hi with
    | 0, _ => exact ⟨_, _, _, h.g2, rfl, rfl, LAt.nil⟩
    | 1, _ => exact ⟨_, _, _, h.g2, rfl, rfl, LAt.mk rfl (by omega) fun i hi => by
        match i, hi with
        | 0, _ => exact CellAt.one h.g1 rfl⟩
  · match i, hi with
    | 0, _ => exact ⟨_, _, _, h.g3, rfl, rfl, rfl, LAt.nil⟩
  · match i, hi with
    | 0, _ => exact ⟨_, _, _, _, h.g7, rfl, rfl, rfl, rfl, LAt.nil, LAt.mk rfl (by omega) fun i hi => by
        match i, hi with
        | 0, _ => exact ⟨_, _, _, _, h.g6, rfl, rfl, LAt.mk rfl (by omega) fun i hi => by
            match i, hi with
            | 0, _ => exact CellAt.one h.g4 rfl, hc⟩⟩
end
end Go.Proofs.YtchlbfmjnhgpgaaGreat.Idl
namespace Go.Proofs.YtchlbfmjnhgpgaaGreat.Idl
open Go
set_option maxHeartbeats 8000000
set_option maxRecDepth 100000
set_option linter.unusedSimpArgs false
theorem bsc3 (H : IH) (x y z : Ins) : ibuildSlice J 54 3 [(0, .agg (insC x).toArray), (1, .agg (insC y).toArray), (2, .agg (insC z).toArray)] H = some (.slice (some ⟨H.next, 0, none⟩) 3 3, H.push (.cells (insC x ++ insC y ++ insC z) 30 false)) := by kernel_rfl
theorem bscr (f s : Int) : ibuild J 37 [(1, .int .i64 f), (3, .int .i64 s)] = some (.agg #[.slice none 0 0, .int .i64 f, .int .i64 0, .int .i64 s, .slice none 0 0]) := by kernel_rfl
theorem least_sm (code : List Ins) (h : ∀ x ∈ code, -9223372036854775808 ≤ x.n ∧ x.n ≤ 9223372036854775807) (hl : code.length ≤ 1000) : ImSm (leastIm code) := by
  refine ⟨fun x hx y hy => ?_, fun x hx y hy z hz => ?_⟩
  · simp only [leastIm, List.mem_singleton] at hx
    subst hx
    simp only [List.mem_singleton] at hy
    subst hy
    simp only; omega
  · simp only [leastIm, List.mem_singleton] at hx
    subst hx
    simp only [List.mem_singleton] at hy
    subst hy
    exact h z hz
section
variable {H : IH} {lo : Nat}
/-- A run of the least image with other code. -/
theorem run_least {n : Nat} {ca : Option Addr} {cn cc : Nat} {code : List Ins} (h : LeastAt H n ca cn cc) (hc : LAt H.next 9 (InsAt H H.next) (.slice ca cn cc) code) (hlo : n + 8 ≤ H.next) (hs : ImSm (leastIm code)) {f st : Nat} (hf : f ≤ 1000000) (hst : st ≤ 60000) {p : Int → Mst → Bool} (hp : endIs (runOut .none (leastIm code) (scr0 f st)) p = true) :
    ∃ k σ H' oa on oc, p k σ = true ∧ cal J okAll 19 #[(leastU n).val (leastIm code), .agg #[.slice none 0 0, .int .i64 f, .int .i64 0, .int .i64 st, .slice none 0 0]] H = some (.ret (.agg #[.int .i64 k, .slice oa on oc, .string σ.exn, .int .i64 (σ.steps : Int), .int .i64 (σ.swept : Int)]), H') ∧ Fr H.next H H' ∧ OvAt H' (.slice oa on oc) σ.out ∧ (∀ x ∈ bOf (.slice oa on oc), H.next ≤ x ∧ x < H'.next) := by
  obtain ⟨k, σ, hr, hk⟩ := endIs_ok hp
  have e1 : (scr0 f st).fuel = clampN f 16777216 := by simp [scr0, clampN]; omega
  have e2 : (scr0 f st).heap = clampN 0 65536 := by simp [scr0, clampN]
  have e3 : (scr0 f st).stack = clampN st 65536 := by simp [scr0, clampN]; omega
  obtain ⟨H', ov, c1, f1, o1, b1⟩ := c_Run (R := .none) (fun lo => Rest.none_ok lo _) (least_imv h hc hlo) (Nat.le_refl _) hs (iv := (none, 0, 0)) (cv := (none, 0, 0)) (f := f) (h := 0) (st := st) (s := scr0 f st) LAt.nil LAt.nil ⟨by simp [scr0], by simp [scr0]⟩ e1 e2 e3 hr
  obtain ⟨oa, on, oc, rfl⟩ : ∃ oa on oc, ov = .slice oa on oc := by
    rcases o1 with ⟨e, _⟩ | ⟨b, e, _⟩
    · exact ⟨_, _, _, e⟩
    · exact ⟨_, _, _, e⟩
  exact ⟨k, σ, H', oa, on, oc, hk, c1, f1, o1, b1⟩
theorem LeastAt.fr {n : Nat} {ca : Option Addr} {cn cc : Nat} (h : LeastAt H n ca cn cc) {H' : IH} {m : Nat} (f : Fr m H H') (hn : n + 8 ≤ m) : LeastAt H' n ca cn cc :=
  ⟨(f.2 _ (by omega)).trans h.g1, (f.2 _ (by omega)).trans h.g2, (f.2 _ (by omega)).trans h.g3, (f.2 _ (by omega)).trans h.g4, (f.2 _ (by omega)).trans h.g6, (f.2 _ (by omega)).trans h.g7⟩
theorem c_lives : ∃ H', cal J okAll 18 #[] H = some (.ret (.bool true), H') ∧ Fr H.next H H' := by
  rw [cal18 _ _ (by simp)]
  obtain ⟨H1, c1, f1, n1, l1⟩ := c_Least (H := H)
  obtain ⟨n, hn⟩ : ∃ n, n = H.next := ⟨_, rfl⟩
  rw [← hn] at c1 n1 l1
  obtain ⟨G1, hG1⟩ : ∃ G1, G1 = ((((H1.push (.cells [.slice none 0 0, .slice none 0 0, .slice none 0 0, .slice none 0 0, .slice none 0 0, .int .i64 0, .int .i64 0] 27 false)).set (n + 8) (.cells ((leastU n).cells (leastIm [])) 27 false)).push (.cells (insC (ins 1 0 0 0 0 72) ++ (insC (ins 16 0 0 0 0 0) ++ insC (ins 22 0 0 0 0 0))) 30 false)).set (n + 6) (.cells [.slice (some ⟨n + 4, 0, none⟩) 1 1, .slice (some ⟨n + 8 + 1, 0, none⟩) 3 3] 56 false)) := ⟨_, rfl⟩
  have nG1 : G1.next = n + 10 := by rw [hG1]; simp [n1]
  have gm : G1.get (n + 8) = some (.cells ((leastU n).cells (leastIm [])) 27 false) := by rw [hG1]; simp [IH.get_push, IH.get_set, n1]
  have gc : G1.get (n + 9) = some (.cells ([ins 1 0 0 0 0 72, ins 16 0 0 0 0 0, ins 22 0 0 0 0 0].flatMap insC) 30 false) := by rw [hG1]; simp [IH.get_push, IH.get_set, n1]
  have lG1 : LeastAt G1 n (some ⟨n + 9, 0, none⟩) 3 3 := by
    have o : ∀ x, x < n + 8 → x ≠ n + 6 → G1.get x = H1.get x := fun x hx hne => by
      rw [hG1, IH.get_set, if_neg hne, IH.get_push_other _ _ _ (by simp [n1]; omega), IH.get_set, if_neg (by omega), IH.get_push_other _ _ _ (by omega)]
    exact ⟨(o _ (by omega) (by omega)).trans l1.g1, (o _ (by omega) (by omega)).trans l1.g2, (o _ (by omega) (by omega)).trans l1.g3, (o _ (by omega) (by omega)).trans l1.g4, by rw [hG1, IH.get_set, if_pos rfl], (o _ (by omega) (by omega)).trans l1.g7⟩
  have fG1 : Fr n H G1 := ⟨by omega, fun x hx => by
    rw [hG1, IH.get_set, if_neg (by omega), IH.get_push_other _ _ _ (by simp [n1]; omega), IH.get_set, if_neg (by omega), IH.get_push_other _ _ _ (by omega)]
    exact f1.2 x (by omega)⟩
  have hsm : ImSm livesIm := least_sm _ (by simp [ins]) (by simp)
  have hcode : ∀ (G : IH), G.get (n + 9) = some (.cells ([ins 1 0 0 0 0 72, ins 16 0 0 0 0 0, ins 22 0 0 0 0 0].flatMap insC) 30 false) → n + 10 ≤ G.next → LAt G.next 9 (InsAt G G.next) (.slice (some ⟨n + 9, 0, none⟩) 3 3) [ins 1 0 0 0 0 72, ins 16 0 0 0 0 0, ins 22 0 0 0 0 0] := fun G hg hn => code_at rfl (by omega) hg (by simp [ins])
  obtain ⟨k1, σ1, R1, oa, on, oc, p1, r1, fr1, ov1, b1⟩ := run_least lG1 (hcode G1 gc (by omega)) (by omega) hsm (by omega) (by omega) lives1
  obtain ⟨G2, hG2⟩ : ∃ G2, G2 = (R1.push (.cells [.int .i64 0, .slice none 0 0, .string ⟨#[]⟩, .int .i64 0, .int .i64 0] 44 false)).set R1.next (.cells [.int .i64 k1, .slice oa on oc, .string σ1.exn, .int .i64 (σ1.steps : Int), .int .i64 (σ1.swept : Int)] 44 false) := ⟨_, rfl⟩
  have fr1n := fr1.1
  have nG2 : G2.next = R1.next + 1 := by rw [hG2]; simp
  have fG2 : Fr R1.next R1 G2 := by rw [hG2]; exact ((Fr.refl _ _).push (Nat.le_refl _) _).set (Nat.le_refl _) _
  have f12 : Fr (n + 10) G1 G2 := (fr1.of_le (by omega)).trans (fG2.of_le (by omega))
  have lG2 := lG1.fr f12 (by omega)
  obtain ⟨k2, σ2, R2, oa2, on2, oc2, p2, r2, fr2, ov2, b2⟩ := run_least lG2 (hcode G2 ((f12.2 _ (by omega)).trans gc) (by omega)) (by omega) hsm (by omega) (by omega) lives2
  have fr2n := fr2.1
  obtain ⟨G3, hG3⟩ : ∃ G3, G3 = (R2.push (.cells [.int .i64 0, .slice none 0 0, .string ⟨#[]⟩, .int .i64 0, .int .i64 0] 44 false)).set R2.next (.cells [.int .i64 k2, .slice oa2 on2 oc2, .string σ2.exn, .int .i64 (σ2.steps : Int), .int .i64 (σ2.swept : Int)] 44 false) := ⟨_, rfl⟩
  have nG3 : G3.next = R2.next + 1 := by rw [hG3]; simp
  have fG3 : Fr R2.next R2 G3 := by rw [hG3]; exact ((Fr.refl _ _).push (Nat.le_refl _) _).set (Nat.le_refl _) _
  have f23 : Fr G2.next G2 G3 := fr2.trans (fG3.of_le fr2n)
  have lG3 := lG2.fr f23 (by omega)
  have f13 : Fr (n + 10) G1 G3 := f12.trans (f23.of_le (by omega))
  obtain ⟨k3, σ3, R3, oa3, on3, oc3, p3, r3, fr3, ov3, b3⟩ := run_least lG3 (hcode G3 ((f13.2 _ (by omega)).trans gc) (by omega)) (by omega) hsm (by omega) (by omega) lives3
  have fr3n := fr3.1
  obtain ⟨G4, hG4⟩ : ∃ G4, G4 = (R3.push (.cells [.int .i64 0, .slice none 0 0, .string ⟨#[]⟩, .int .i64 0, .int .i64 0] 44 false)).set R3.next (.cells [.int .i64 k3, .slice oa3 on3 oc3, .string σ3.exn, .int .i64 (σ3.steps : Int), .int .i64 (σ3.swept : Int)] 44 false) := ⟨_, rfl⟩
  have nG4 : G4.next = R3.next + 1 := by rw [hG4]; simp
  have fG4 : Fr R3.next R3 G4 := by rw [hG4]; exact ((Fr.refl _ _).push (Nat.le_refl _) _).set (Nat.le_refl _) _
  have f34 : Fr G3.next G3 G4 := fr3.trans (fG4.of_le fr3n)
  have f24 : Fr G2.next G2 G4 := f23.trans (f34.of_le (by omega))
  have t2 : G4.get R1.next = some (.cells [.int .i64 k1, .slice oa on oc, .string σ1.exn, .int .i64 (σ1.steps : Int), .int .i64 (σ1.swept : Int)] 44 false) := by
    rw [f24.2 _ (by omega), hG2, IH.get_set, if_pos rfl]
  have t3 : G4.get R2.next = some (.cells [.int .i64 k2, .slice oa2 on2 oc2, .string σ2.exn, .int .i64 (σ2.steps : Int), .int .i64 (σ2.swept : Int)] 44 false) := by
    rw [f34.2 _ (by omega), hG3, IH.get_set, if_pos rfl]
  have t4 : G4.get R3.next = some (.cells [.int .i64 k3, .slice oa3 on3 oc3, .string σ3.exn, .int .i64 (σ3.steps : Int), .int .i64 (σ3.swept : Int)] 44 false) := by
    rw [hG4, IH.get_set, if_pos rfl]
  have o1 : OvAt G4 (.slice oa on oc) σ1.out := ov1.same fun x hm => by
    have := (b1 x hm).2
    rw [f24.2 x (by omega), fG2.2 x (by omega)]
  have o2 : OvAt G4 (.slice oa2 on2 oc2) σ2.out := ov2.same fun x hm => by
    have := (b2 x hm).2
    rw [f34.2 x (by omega), fG3.2 x (by omega)]
  have v1 := conv_out o1 fun x hm => by have := (b1 x hm).2; omega
  have v2 := conv_out o2 fun x hm => by have := (b2 x hm).2; omega
  simp only [Bool.and_eq_true, decide_eq_true_eq] at p1 p2 p3
  obtain ⟨⟨rfl, p12⟩, p13⟩ := p1
  obtain ⟨rfl, p22⟩ := p2
  obtain ⟨rfl, p32⟩ := p3
  rw [p12] at v1
  rw [p22] at v2
  rw [p13] at t2
  rw [p32] at t4
  have hH : outB [72] = ⟨#[72]⟩ := rfl
  rw [hH] at v1 v2
  have hfin : Fr H.next H G4 := by
    rw [← hn]
    exact (fG1.trans (f12.of_le (by omega))).trans (f24.of_le (by omega))
  have gm2 := (f12.2 (n + 8) (by omega)).trans gm
  have gm3 := (f13.2 (n + 8) (by omega)).trans gm
  simp only [ImV.val, ImV.cells, leastU, leastIm, Int.cast_ofNat_Int] at c1 gm gm2 gm3 hG1 r1 r2 r3
  refine ⟨G4, ?_, hfin⟩
  simp [C18, regsOf, fin, iresult1, c1, inew, n1, Value.cells, IH.get_push, IH.get_set, istore, plain1, overlay, iparts, bi0, bi05, bsc3, bscr, loadT_agg, iindexAddr, l1.g7, l1.g6, ← hG1, gm, gm2, gm3, r1, r2, r3, ← hG2, ← hG3, ← hG4, t2, t3, t4, v1, v2]
end
end Go.Proofs.YtchlbfmjnhgpgaaGreat.Idl
namespace Go.Proofs.YtchlbfmjnhgpgaaGreat.Idl
open Go
set_option maxHeartbeats 8000000
set_option maxRecDepth 100000
set_option linter.unusedSimpArgs false
theorem st_int : ST 28 3 1 8 := ⟨by simp, by simp, by simp, ⟨_, by simp; rfl, by simp [Value.cells]⟩, by decide, by decide⟩
theorem st_shape : ST 23 90 3 48 := ⟨by simp, by simp, by simp, ⟨_, by simp; rfl, by simp [Value.cells]⟩, by decide, by decide⟩
theorem st_instr : ST 54 30 9 120 := ⟨by simp, by simp, by simp, ⟨_, by simp; rfl, by simp [Value.cells]⟩, by decide, by decide⟩
/-- Append to a row that is full: another block. -/
theorem app_full {H : IH} {st e : TypeId} {k by_ : Nat} (hT : ST st e k by_) {xb o m c b len cap : Nat} {new cs : List Value} {pr : Bool} (h1 : icells H ⟨xb, o, none⟩ (m * k) = some new) (h2 : new.length = m * k) (hm : 0 < m) (hb : len + m ≤ 20000000)
    (hg : H.get b = some (.cells cs e pr)) (hl : len * k ≤ cs.length) (hp : new.all plain1 = true) (hc : cap < capU) (hf : cap < len + m) :
    iappend J #[st, st] (.slice (some ⟨b, 0, none⟩) len cap) (.slice (some ⟨xb, o, none⟩) m c) H = some (.slice (some ⟨H.next, 0, none⟩) (len + m) capU, H.push (.cells (cs.take (len * k) ++ new) e false)) := by
  obtain ⟨z, hz, hzk⟩ := hT.zero
  have e1 : (len + m) * (3 * by_) ≤ 2 ^ 47 := by
    have : (len + m) * (3 * by_) ≤ 20000000 * 3000 := Nat.mul_le_mul hb (by have := hT.big; omega)
    omega
  have e2 : by_ ≤ 2 ^ 30 := by have := hT.big; omega
  have e3 : m ≠ 0 := by omega
  have e5 : cap ≠ capU := by omega
  have e6 : ¬ len + m ≤ cap := by omega
  simp only [iappend, List.getElem?_toArray, List.getElem?_cons_zero, List.getElem?_cons_succ, hT.und, hT.size, hT.bytes, hz, ilenOf, ifirst, e3, if_false, e1, hT.pos, e2, hzk, true_and, and_self, if_true, h1, h2, hg, hp, Nat.zero_add, hl, List.drop_zero, e5, e6]
def intsC (l : List Int) : List Value := l.map intV
def WiAt (H : IH) (lo : Nat) (u : Value) (ws : List Int) : Prop :=
  (u = .slice none 0 0 ∧ ws = []) ∨ ∃ b, lo ≤ b ∧ b < H.next ∧ u = .slice (some ⟨b, 0, none⟩) ws.length capU ∧ H.get b = some (.cells (intsC ws) 3 false)
theorem app_int {H : IH} {lo : Nat} {u : Value} {ws : List Int} (h : WiAt H lo u ws) (hlo : lo ≤ H.next) (hl : ws.length ≤ 1000000) (w : Int) :
    ∃ u' H', iappend J #[28, 28] u (.slice (some ⟨H.next, 0, none⟩) 1 1) (H.push (.cells [.int .i64 w] 3 false)) = some (u', H') ∧ WiAt H' lo u' (ws ++ [w]) ∧ Fr lo H H' := by
  have h1 : icells (H.push (.cells [.int .i64 w] 3 false)) ⟨H.next, 0, none⟩ (1 * 1) = some [.int .i64 w] := by simp [IH.get_push]
  have hn : (H.push (.cells [.int .i64 w] 3 false)).next = H.next + 1 := by simp
  rcases h with ⟨rfl, rfl⟩ | ⟨b, b1, b2, rfl, b4⟩
  · have := app_nil st_int (c := 1) h1 (by simp) (by omega) (by omega)
    rw [hn] at this
    refine ⟨_, _, this, .inr ⟨H.next + 1, by omega, by simp, by simp, ?_⟩, ((Fr.refl _ _).push hlo _).push (by simp; omega) _⟩
    rw [show H.next + 1 = (H.push (.cells [.int .i64 w] 3 false)).next by simp, IH.get_push_same]; rfl
  · have hg : (H.push (.cells [.int .i64 w] 3 false)).get b = some (.cells (intsC ws) 3 false) := by rw [IH.get_push_other _ _ _ b2]; exact b4
    have hwl : (intsC ws).length = ws.length := by simp [intsC]
    have := app_some st_int (c := 1) (len := ws.length) h1 (by simp) (by omega) (by omega) hg (by rw [hwl]; omega) (by simp [plain1])
    rw [hn] at this
    refine ⟨_, _, this, .inr ⟨H.next + 1, by omega, by simp, by simp, ?_⟩, (((Fr.refl _ _).push hlo _).set b1 _).push (by simp; omega) _⟩
    rw [show H.next + 1 = ((H.push (.cells [.int .i64 w] 3 false)).set b .dead).next by simp, IH.get_push_same]
    rw [List.take_of_length_le (by rw [hwl]; omega)]; simp [intsC, intV]
theorem WiAt.mono {H H' : IH} {lo : Nat} {u : Value} {ws : List Int} (h : WiAt H lo u ws) (hn : H.next ≤ H'.next) (hx : ∀ x ∈ bOf u, H'.get x = H.get x) : WiAt H' lo u ws := by
  rcases h with h | ⟨b, b1, b2, b3, b4⟩
  · exact .inl h
  · exact .inr ⟨b, b1, by omega, b3, (hx b (by simp [b3, bOf])).trans b4⟩
theorem WiAt.ints {H : IH} {lo lo' : Nat} {u : Value} {ws : List Int} (h : WiAt H lo u ws) (hl : H.next ≤ lo') : IntsAt H lo' u ws := by
  rcases h with ⟨rfl, rfl⟩ | ⟨b, b1, b2, rfl, b4⟩
  · exact LAt.nil
  · exact LAt.mk rfl (by omega) fun i hi => CellAt.one b4 (by simp [intsC, hi])
section
variable {H : IH}
/-- The types that slots have ahead of the block: none. -/
theorem loop29 (bb n : Nat) (vc : Value) (hn : n ≤ 1000) (hbb : bb < H.next) (K : Nat → Value) (hvc : ∃ a m c, vc = .slice a m c) : ∀ (d i : Nat) (T : Regs) (H' : IH) (vi : Value), i + d = n → H.next ≤ H'.next → (∀ x, x < H.next → x ≠ bb → H'.get x = H.get x) → H'.get bb = some (.cells [vi, vc] 56 false) → WiAt H' H.next vi (List.replicate i (-1)) →
    (∀ t, t < 28 → T.at t = K t) → K 8 = ptrV bb → K 27 = .int .i64 (n : Int) → T.at 28 = .int .i64 (i : Int) →
    ∃ T' H'' vi', run J okAll (.loop L29_0) T H' = some (.exit 0, T', H'') ∧ H.next ≤ H''.next ∧ (∀ x, x < H.next → x ≠ bb → H''.get x = H.get x) ∧ H''.get bb = some (.cells [vi', vc] 56 false) ∧ WiAt H'' H.next vi' (List.replicate n (-1)) ∧ (∀ t, t < 28 → T'.at t = K t) := by
  intro d
  induction d with
  | zero =>
    intro i T H' vi hd hnx hx hg hw hK k8 k27 t28
    have : i = n := by omega
    subst this
    have t27 := (hK 27 (by omega)).trans k27
    obtain ⟨T', key⟩ : ∃ T', run J okAll (.loop L29_0) T H' = some (.exit 0, T', H') ∧ (∀ t, t < 28 → T'.at t = K t) := by
      rw [r_loop]
      simp [L29_0, t27, t28]
      exact fun t ht => by simp (disch := omega) only [at_set_om]; exact hK t ht
    exact ⟨T', H', vi, key.1, hnx, hx, hg, hw, key.2⟩
  | succ d ih =>
    intro i T H' vi hd hnx hx hg hw hK k8 k27 t28
    have hlt : i < n := by omega
    have t27 := (hK 27 (by omega)).trans k27
    have t8 := (hK 8 (by omega)).trans k8
    have hw1 : IntKind.i64.wrap ((i : Int) + 1) = ((i + 1 : Nat) : Int) := by rw [wrap64 _ (by omega) (by omega)]; simp
    obtain ⟨u', H2, a1, a2, a3⟩ := app_int hw hnx (by simp; omega) (-1)
    have hg2 := (a3.2 bb hbb).trans hg
    obtain ⟨ca, cm, cc, rfl⟩ := hvc
    obtain ⟨ua, um, uc, hu'⟩ : ∃ a m c, u' = .slice a m c := by
      rcases a2 with ⟨e, _⟩ | ⟨b, _, _, e, _⟩
      · exact ⟨_, _, _, e⟩
      · exact ⟨_, _, _, e⟩
    obtain ⟨T1, s1, s2, s3⟩ : ∃ T1, run J okAll (.loop L29_0) T H' = run J okAll (.loop L29_0) T1 (H2.set bb (.cells [u', .slice ca cm cc] 56 false)) ∧ (∀ t, t < 28 → T1.at t = K t) ∧ T1.at 28 = .int .i64 ((i + 1 : Nat) : Int) := by
      subst hu'
      simp only [ptrV] at t8
      rw [r_loop]
      simp [L29_0, t8, t27, t28, hlt, hg, iparts, bsi1, a1, hg2, istore, Value.cells, plain1, overlay, hw1]
      exact ⟨_, rfl, fun t ht => by simp (disch := omega) only [at_set_om]; exact hK t ht, by simp⟩
    rw [s1]
    have hnb : ∀ x ∈ bOf u', x ≠ bb := fun x hm => by
      rcases a2 with ⟨e, _⟩ | ⟨b, e1, _, e, _⟩
      · rw [e] at hm; simp [bOf] at hm
      · rw [e] at hm; simp [bOf] at hm; omega
    refine ih (i + 1) T1 _ u' (by omega) (by have := a3.1; simp; omega) (fun x hx1 hx2 => by rw [IH.get_set, if_neg hx2, a3.2 x hx1]; exact hx x hx1 hx2) (by rw [IH.get_set, if_pos rfl]) ?_ s2 k8 k27 s3
    rw [List.replicate_succ']
    exact a2.mono (by simp) fun x hm => by rw [IH.get_set, if_neg (hnb x hm)]
end
end Go.Proofs.YtchlbfmjnhgpgaaGreat.Idl
namespace Go.Proofs.YtchlbfmjnhgpgaaGreat.Idl
open Go
set_option maxHeartbeats 8000000
set_option maxRecDepth 100000
set_option linter.unusedSimpArgs false
def nMatch : ByteArray := ⟨#[77, 97, 116, 99, 104]⟩
def nDiv : ByteArray := ⟨#[68, 105, 118]⟩
def nSub : ByteArray := ⟨#[83, 117, 98, 115, 99, 114, 105, 112, 116]⟩
def nSize : ByteArray := ⟨#[83, 105, 122, 101]⟩
def mainIm (slots : Nat) (texts : List ByteArray) (code : List Ins) : Img :=
  ⟨[⟨true, []⟩, ⟨false, [0]⟩], [⟨3, [], ⟨#[]⟩⟩, ⟨2, [0], ⟨#[]⟩⟩], texts, [nMatch, nDiv, nSub, nSize], [⟨[], 0, slots, [⟨List.replicate slots (-1), code ++ [ins 1 0 0 0 0 0, ins 22 0 0 0 0 0]⟩]⟩], 0, 0⟩
theorem bsh2 (k : Int) (a : Option Addr) (n c : Nat) : ibuild J 90 [(0, .int .i64 k), (1, .slice a n c)] = some (.agg #[.int .i64 k, .slice a n c, .string ⟨#[]⟩]) := by kernel_rfl
theorem bnames (H : IH) : ibuildSlice J 24 4 [(0, .string ⟨#[77, 97, 116, 99, 104]⟩), (1, .string ⟨#[68, 105, 118]⟩), (2, .string ⟨#[83, 117, 98, 115, 99, 114, 105, 112, 116]⟩), (3, .string ⟨#[83, 105, 122, 101]⟩)] H = some (.slice (some ⟨H.next, 0, none⟩) 4 4, H.push (.cells [.string nMatch, .string nDiv, .string nSub, .string nSize] 9 false)) := by kernel_rfl
theorem bbl1 (b : Option Addr) (m d : Nat) : ibuild J 56 [(1, .slice b m d)] = some (.agg #[.slice none 0 0, .slice b m d]) := by kernel_rfl
section
variable {H : IH}
theorem code2_at {code : List Ins} {cs : List Value} {b lo lo' : Nat} {pr : Bool} (_hcl : code.length ≤ 1000) (hfl : cs.length = code.length * 9) (hg : H.get b = some (.cells (cs ++ (insC (ins 1 0 0 0 0 0) ++ insC (ins 22 0 0 0 0 0))) 30 pr))
    (h : ∀ i (h : i < code.length), InsAt H lo b (i * 9) code[i]) (hl : lo ≤ lo') (hb : b < lo') : LAt lo' 9 (InsAt H lo') (.slice (some ⟨b, 0, none⟩) (code.length + 2) capU) (code ++ [ins 1 0 0 0 0 0, ins 22 0 0 0 0 0]) := by
  refine LAt.mk (by simp) hb fun i hi => ?_
  rw [Nat.zero_add]
  by_cases h1 : i < code.length
  · rw [List.getElem_append_left h1]; exact (h i h1).up hl
  · rw [List.getElem_append_right (by omega)]
    simp only [List.length_append, List.length_cons, List.length_nil] at hi
    have h2 : i = code.length ∨ i = code.length + 1 := by omega
    have q : ∀ j, (cs ++ (insC (ins 1 0 0 0 0 0) ++ insC (ins 22 0 0 0 0 0)))[code.length * 9 + j]? = (insC (ins 1 0 0 0 0 0) ++ insC (ins 22 0 0 0 0 0))[j]? := fun j => by
      rw [List.getElem?_append_right (by omega)]; congr 1; omega
    rcases h2 with rfl | rfl
    · simp only [Nat.sub_self, List.getElem_cons_zero]
      refine InsAt.plain hg (fun j hj => ?_) rfl rfl rfl
      rw [q, List.getElem?_append_left (by simpa [insC] using hj)]
    · simp only [Nat.add_sub_cancel_left, List.getElem_cons_succ, List.getElem_cons_zero]
      refine InsAt.plain hg (fun j hj => ?_) rfl rfl rfl
      rw [show (code.length + 1) * 9 + j = code.length * 9 + (9 + j) by omega, q, List.getElem?_append_right (by simp [insC])]
      congr 1
      simp [insC]
theorem flat_len (code : List Ins) : (code.flatMap insC).length = code.length * 9 := by
  rw [List.length_flatMap]
  have : (code.map fun x => (insC x).length) = List.replicate code.length 9 := by
    rw [List.eq_replicate_iff]
    simp [insC]
  rw [this]; simp
theorem flat_get (rest : List Value) : ∀ (l : List Ins) (i : Nat) (hi : i < l.length) (j : Nat), j < 9 → (l.flatMap insC ++ rest)[i * 9 + j]? = (insC l[i])[j]?
  | y :: l, 0, _, j, hj => by
    rw [List.flatMap_cons, List.append_assoc, Nat.zero_mul, Nat.zero_add, List.getElem?_append_left (by simpa [insC] using hj)]; rfl
  | y :: l, i + 1, hi, j, hj => by
    have := flat_get rest l i (by simpa using hi) j hj
    rw [List.flatMap_cons, List.append_assoc, show (i + 1) * 9 + j = (insC y).length + (i * 9 + j) by simp [insC]; omega, List.getElem?_append_right (by omega), Nat.add_sub_cancel_left, this]
    rfl
theorem c_main1g {slots : Nat} {texts : List ByteArray} {code : List Ins} {cs : List Value} {ta : Option Addr} {tc cb cc : Nat} (hsl : slots ≤ 200) (ht : LAt H.next 1 (CellAt H 9 Value.string) (.slice ta texts.length tc) texts)
    (hcb : cb < H.next) (hcode : H.get cb = some (.cells cs 30 false)) (hfl : cs.length = code.length * 9) (hins : ∀ (F : IH) (b : Nat) (cs' : List Value), SameB H.next H F → F.get b = some (.cells (cs ++ cs') 30 false) → ∀ i (h : i < code.length), InsAt F H.next b (i * 9) code[i]) (hcl : code.length ≤ 1000) (hcc : cc = code.length) :
    ∃ H' u, cal J okAll 29 #[.int .i64 slots, .slice ta texts.length tc, .slice (some ⟨cb, 0, none⟩) code.length cc] H = some (.ret (ImV.val u (mainIm slots texts code)), H') ∧ Fr H.next H H' ∧ ImvAt H' H'.next u (mainIm slots texts code) := by
  rw [cal29 _ _ (by simp)]
  obtain ⟨n, hn⟩ : ∃ n, n = H.next := ⟨_, rfl⟩
  -- the result's cell, the least image
  obtain ⟨B0, hB0⟩ : ∃ B0, B0 = H.push (.cells [.slice none 0 0, .slice none 0 0, .slice none 0 0, .slice none 0 0, .slice none 0 0, .int .i64 0, .int .i64 0] 27 false) := ⟨_, rfl⟩
  have nB0 : B0.next = n + 1 := by rw [hB0]; simp [hn]
  obtain ⟨H1, c1, f1, n1, l1⟩ := c_Least (H := B0)
  rw [nB0] at c1 f1 l1 n1
  have fB0 : Fr n H B0 := by rw [hB0, hn]; exact (Fr.refl _ _).push (Nat.le_refl _) _
  -- the shapes
  obtain ⟨G1, hG1⟩ : ∃ G1, G1 = ((((H1.push (.cells [.slice none 0 0, .slice none 0 0, .slice none 0 0, .slice none 0 0, .slice none 0 0, .int .i64 0, .int .i64 0] 27 false)).set (n + 1 + 8) (.cells ((leastU (n + 1)).cells (leastIm [])) 27 false)).push (.cells [.int .i64 0] 3 false)).push (.cells [.int .i64 2, .slice (some ⟨n + 1 + 8 + 1, 0, none⟩) 1 1, .string ⟨#[]⟩] 90 false)) := ⟨_, rfl⟩
  have nG1 : G1.next = n + 12 := by rw [hG1]; simp [n1]
  have oG1 : ∀ x, x < n + 1 + 8 → G1.get x = H1.get x := fun x hx => by
    rw [hG1, IH.get_push_other _ _ _ (by simp [n1]; omega), IH.get_push_other _ _ _ (by simp [n1]; omega), IH.get_set, if_neg (by omega), IH.get_push_other _ _ _ (by omega)]
  have gsh : G1.get (n + 1 + 8 + 1 + 1) = some (.cells [.int .i64 2, .slice (some ⟨n + 1 + 8 + 1, 0, none⟩) 1 1, .string ⟨#[]⟩] 90 false) := by rw [hG1]; simp [IH.get_push, n1]
  have ash := app_full st_shape (H := G1) (xb := n + 1 + 8 + 1 + 1) (o := 0) (m := 1) (c := 1) (b := n + 1 + 3) (len := 1) (cap := 1) (new := [.int .i64 2, .slice (some ⟨n + 1 + 8 + 1, 0, none⟩) 1 1, .string ⟨#[]⟩]) (by simp [gsh]) (by simp) (by omega) (by omega) ((oG1 _ (by omega)).trans l1.g3) (by simp) (by simp [plain1]) (by decide) (by omega)
  rw [nG1] at ash
  -- texts, names
  obtain ⟨G2, hG2⟩ : ∃ G2, G2 = ((((G1.push (.cells [.int .i64 3, .slice none 0 0, .string ⟨#[]⟩, .int .i64 2, .slice (some ⟨n + 1 + 8 + 1, 0, none⟩) 1 1, .string ⟨#[]⟩] 90 false)).set (n + 1 + 8) (.cells [.slice (some ⟨n + 1 + 2, 0, none⟩) 2 2, .slice (some ⟨n + 12, 0, none⟩) 2 capU, .slice ta texts.length tc, .slice none 0 0, .slice (some ⟨n + 1 + 7, 0, none⟩) 1 1, .int .i64 0, .int .i64 0] 27 false)).push (.cells [.string nMatch, .string nDiv, .string nSub, .string nSize] 9 false)).set (n + 1 + 8) (.cells [.slice (some ⟨n + 1 + 2, 0, none⟩) 2 2, .slice (some ⟨n + 12, 0, none⟩) 2 capU, .slice ta texts.length tc, .slice (some ⟨n + 12 + 1, 0, none⟩) 4 4, .slice (some ⟨n + 1 + 7, 0, none⟩) 1 1, .int .i64 0, .int .i64 0] 27 false)) := ⟨_, rfl⟩
  have nG2 : G2.next = n + 14 := by rw [hG2]; simp [nG1]
  have oG2 : ∀ x, x < n + 12 → x ≠ n + 1 + 8 → G2.get x = G1.get x := fun x hx hne => by
    rw [hG2, IH.get_set, if_neg hne, IH.get_push_other _ _ _ (by simp [nG1]; omega), IH.get_set, if_neg hne, IH.get_push_other _ _ _ (by omega)]
  -- the code
  obtain ⟨G3, hG3⟩ : ∃ G3, G3 = G2.push (.cells (insC (ins 1 0 0 0 0 0) ++ insC (ins 22 0 0 0 0 0)) 30 false) := ⟨_, rfl⟩
  have nG3 : G3.next = n + 15 := by rw [hG3]; simp [nG2]
  have oG3 : ∀ x, x < n + 14 → G3.get x = G2.get x := fun x hx => by rw [hG3, IH.get_push_other _ _ _ (by omega)]
  have hcb3 : G3.get cb = some (.cells cs 30 false) := by
    rw [oG3 _ (by omega), oG2 _ (by omega) (by omega), oG1 _ (by omega), f1.2 _ (by omega), fB0.2 _ (by omega)]; exact hcode
  have g14 : G3.get (n + 14) = some (.cells (insC (ins 1 0 0 0 0 0) ++ insC (ins 22 0 0 0 0 0)) 30 false) := by rw [hG3, ← nG2, IH.get_push_same]
  have acd := app_full st_instr (H := G3) (xb := n + 14) (o := 0) (m := 2) (c := 2) (b := cb) (len := code.length) (cap := cc) (new := insC (ins 1 0 0 0 0 0) ++ insC (ins 22 0 0 0 0 0)) (by simp [g14, insC]) (by simp [insC]) (by omega) (by omega) hcb3 (by omega) (by simp [insC, plain1, ins]) (by rw [hcc]; exact Nat.lt_of_le_of_lt hcl (by decide)) (by omega)
  rw [nG3, List.take_of_length_le (by omega)] at acd
  obtain ⟨G4, hG4⟩ : ∃ G4, G4 = ((G3.push (.cells (cs ++ (insC (ins 1 0 0 0 0 0) ++ insC (ins 22 0 0 0 0 0))) 30 false)).push (.cells [.slice none 0 0, .slice none 0 0] 56 false)).set (n + 15 + 1) (.cells [.slice none 0 0, .slice (some ⟨n + 15, 0, none⟩) (code.length + 2) capU] 56 false) := ⟨_, rfl⟩
  have nG4 : G4.next = n + 17 := by rw [hG4]; simp [nG3]
  have gi1 : G1.get (n + 1 + 8) = some (.cells ((leastU (n + 1)).cells (leastIm [])) 27 false) := by
    rw [hG1, IH.get_push_other _ _ _ (by simp [n1]), IH.get_push_other _ _ _ (by simp [n1]), IH.get_set, if_pos rfl]
  simp only [ImV.val, ImV.cells, leastU, leastIm] at c1 hG1 gi1
  simp [C29, regsOf, inew, Value.cells, ← hB0, c1, n1, ← hn, IH.get_push, IH.get_set, istore, plain1, overlay, iparts, bsi1, bsh2, bss1, loadT_agg, ← hG1, gi1, ash, nG1, bnames, ← hG2, bi0, bsc2, nG2, ← hG3, acd, bbl1, nG3, ← hG4]
  generalize hX : run J okAll (.loop L29_0) _ _ = X
  obtain ⟨T1, hT, a6, a7, a8, a0, a27, a28⟩ : ∃ T1, run J okAll (.loop L29_0) T1 G4 = X ∧ T1.at 6 = ptrV n ∧ T1.at 7 = ptrV (n + 1 + 8) ∧ T1.at 8 = ptrV (n + 15 + 1) ∧ T1.at 0 = .int .i64 (slots : Int) ∧ T1.at 27 = .int .i64 (slots : Int) ∧ T1.at 28 = .int .i64 ((0 : Nat) : Int) := ⟨_, hX, by simp [ptrV], by simp [ptrV], by simp [ptrV], by simp, by simp, by simp⟩
  have oG4 : ∀ x, x < n + 15 → G4.get x = G3.get x := fun x hx => by
    rw [hG4, IH.get_set, if_neg (by omega), IH.get_push_other _ _ _ (by simp [nG3]; omega), IH.get_push_other _ _ _ (by omega)]
  have gbl : G4.get (n + 15 + 1) = some (.cells [.slice none 0 0, .slice (some ⟨n + 15, 0, none⟩) (code.length + 2) capU] 56 false) := by rw [hG4, IH.get_set, if_pos rfl]
  obtain ⟨T2, H5, vi, e1, e2, e3, e4, e5, e6⟩ := loop29 (H := G4) (n + 15 + 1) slots _ (by omega) (by omega) (fun t => T1.at t) ⟨_, _, _, rfl⟩ slots 0 T1 G4 (.slice none 0 0) (by omega) (Nat.le_refl _) (fun _ _ _ => rfl) gbl (.inl ⟨rfl, rfl⟩) (fun t ht => rfl) a8 a27 a28
  have e1 := hT.symm.trans e1
  subst e1
  have b0 := (e6 0 (by omega)).trans a0
  have b6 := (e6 6 (by omega)).trans a6
  have b7 := (e6 7 (by omega)).trans a7
  have b8 := (e6 8 (by omega)).trans a8
  have o5 : ∀ x, x < n + 15 → H5.get x = G3.get x := fun x hx => by rw [e3 x (by omega) (by omega)]; exact oG4 x hx
  have gim : H5.get (n + 1 + 8) = some (.cells [.slice (some ⟨n + 1 + 2, 0, none⟩) 2 2, .slice (some ⟨n + 12, 0, none⟩) 2 capU, .slice ta texts.length tc, .slice (some ⟨n + 12 + 1, 0, none⟩) 4 4, .slice (some ⟨n + 1 + 7, 0, none⟩) 1 1, .int .i64 0, .int .i64 0] 27 false) := by
    rw [o5 _ (by omega), oG3 _ (by omega), hG2, IH.get_set, if_pos rfl]
  have gl : ∀ x, x < n + 9 → H5.get x = H1.get x := fun x hx => by
    rw [o5 _ (by omega), oG3 _ (by omega), oG2 _ (by omega) (by omega)]; exact oG1 x hx
  have gfn : H5.get (n + 1 + 7) = _ := (gl _ (by omega)).trans l1.g7
  have gn : H5.get n = some (.cells [.slice none 0 0, .slice none 0 0, .slice none 0 0, .slice none 0 0, .slice none 0 0, .int .i64 0, .int .i64 0] 27 false) := by
    rw [gl _ (by omega), f1.2 _ (by omega), hB0, hn, IH.get_push_same]
  have n5 : n + 17 ≤ H5.next := by omega
  obtain ⟨via, vin, vic, rfl⟩ : ∃ a m c, vi = .slice a m c := by
    rcases e5 with ⟨e, _⟩ | ⟨b, _, _, e, _⟩
    · exact ⟨_, _, _, e⟩
    · exact ⟨_, _, _, e⟩
  simp only [ptrV] at b6 b7 b8
  obtain ⟨F, hF⟩ : ∃ F, F = ((H5.push (.cells [.slice via vin vic, .slice (some ⟨n + 15, 0, none⟩) (code.length + 2) capU] 56 false)).set (n + 1 + 7) (.cells [.slice none 0 0, .int .i64 0, .int .i64 (slots : Int), .slice (some ⟨H5.next, 0, none⟩) 1 1] 59 false)).set n (.cells [.slice (some ⟨n + 1 + 2, 0, none⟩) 2 2, .slice (some ⟨n + 12, 0, none⟩) 2 capU, .slice ta texts.length tc, .slice (some ⟨n + 12 + 1, 0, none⟩) 4 4, .slice (some ⟨n + 1 + 7, 0, none⟩) 1 1, .int .i64 0, .int .i64 0] 27 false) := ⟨_, rfl⟩
  have nF : F.next = H5.next + 1 := by rw [hF]; simp
  have oF : ∀ x, x < H5.next → x ≠ n → x ≠ n + 1 + 7 → F.get x = H5.get x := fun x hx h1 h2 => by
    rw [hF, IH.get_set, if_neg h1, IH.get_set, if_neg h2, IH.get_push_other _ _ _ hx]
  have gF : F.get n = some (.cells [.slice (some ⟨n + 1 + 2, 0, none⟩) 2 2, .slice (some ⟨n + 12, 0, none⟩) 2 capU, .slice ta texts.length tc, .slice (some ⟨n + 12 + 1, 0, none⟩) 4 4, .slice (some ⟨n + 1 + 7, 0, none⟩) 1 1, .int .i64 0, .int .i64 0] 27 false) := by rw [hF, IH.get_set, if_pos rfl]
  have gF7 : F.get (n + 1 + 7) = some (.cells [.slice none 0 0, .int .i64 0, .int .i64 (slots : Int), .slice (some ⟨H5.next, 0, none⟩) 1 1] 59 false) := by rw [hF, IH.get_set, if_neg (by omega), IH.get_set, if_pos rfl]
  have gFb : F.get H5.next = some (.cells [.slice via vin vic, .slice (some ⟨n + 15, 0, none⟩) (code.length + 2) capU] 56 false) := by rw [hF, IH.get_set, if_neg (by omega), IH.get_set, if_neg (by omega), IH.get_push_same]
  have m1 : ¬ n + 1 + 8 = H5.next := by omega
  have m2 : ¬ n + 1 + 7 = H5.next := by omega
  have m3 : ¬ n = H5.next := by omega
  have m4 : ¬ n = n + 1 + 7 := by omega
  refine ⟨F, ⟨.slice (some ⟨n + 1 + 2, 0, none⟩) 2 2, .slice (some ⟨n + 12, 0, none⟩) 2 capU, .slice ta texts.length tc, .slice (some ⟨n + 12 + 1, 0, none⟩) 4 4, .slice (some ⟨n + 1 + 7, 0, none⟩) 1 1⟩, ?_, ⟨by omega, fun x hx => ?_⟩, ?_⟩
  · simp only [ImV.val, ImV.cells, mainIm]
    simp [b0, b6, b7, b8, gim, gfn, gn, e4, loadT_agg, iparts, bsb1, bfn, iindexAddr, istore, Value.cells, plain1, overlay, IH.get_push, IH.get_set, m1, m2, m3, m4, ← hF, gF, fin, iresult1]
  · rw [oF x (by omega) (by omega) (by omega), gl x (by omega), f1.2 x (by omega), fB0.2 x hx]
  · have q : ∀ x, x < n + 9 → x ≠ n → x ≠ n + 1 + 7 → F.get x = H1.get x := fun x hx h1 h2 => (oF x (by omega) h1 h2).trans (gl x hx)
    have q2 : ∀ x, x < n + 15 → x ≠ n → x ≠ n + 1 + 7 → F.get x = G3.get x := fun x hx h1 h2 => (oF x (by omega) h1 h2).trans (o5 x hx)
    have s1 : F.get (n + 12) = some (.cells [.int .i64 3, .slice none 0 0, .string ⟨#[]⟩, .int .i64 2, .slice (some ⟨n + 1 + 8 + 1, 0, none⟩) 1 1, .string ⟨#[]⟩] 90 false) := by
      rw [q2 _ (by omega) (by omega) (by omega), oG3 _ (by omega), hG2, IH.get_set, if_neg (by omega), IH.get_push_other _ _ _ (by simp [nG1]), IH.get_set, if_neg (by omega), ← nG1, IH.get_push_same]
    have s2 : F.get (n + 1 + 8 + 1) = some (.cells [.int .i64 0] 3 false) := by
      rw [q2 _ (by omega) (by omega) (by omega), oG3 _ (by omega), oG2 _ (by omega) (by omega), hG1, IH.get_push_other _ _ _ (by simp [n1])]
      rw [show n + 1 + 8 + 1 = ((H1.push (.cells [.slice none 0 0, .slice none 0 0, .slice none 0 0, .slice none 0 0, .slice none 0 0, .int .i64 0, .int .i64 0] 27 false)).set (n + 1 + 8) (.cells [.slice (some ⟨n + 1 + 2, 0, none⟩) 2 2, .slice (some ⟨n + 1 + 3, 0, none⟩) 1 1, .slice none 0 0, .slice none 0 0, .slice (some ⟨n + 1 + 7, 0, none⟩) 1 1, .int .i64 0, .int .i64 0] 27 false)).next by simp [n1], IH.get_push_same]
    have s3 : F.get (n + 12 + 1) = some (.cells [.string nMatch, .string nDiv, .string nSub, .string nSize] 9 false) := by
      rw [q2 _ (by omega) (by omega) (by omega), oG3 _ (by omega), hG2, IH.get_set, if_neg (by omega)]
      rw [show n + 12 + 1 = ((G1.push (.cells [.int .i64 3, .slice none 0 0, .string ⟨#[]⟩, .int .i64 2, .slice (some ⟨n + 1 + 8 + 1, 0, none⟩) 1 1, .string ⟨#[]⟩] 90 false)).set (n + 1 + 8) (.cells [.slice (some ⟨n + 1 + 2, 0, none⟩) 2 2, .slice (some ⟨n + 12, 0, none⟩) 2 capU, .slice ta texts.length tc, .slice none 0 0, .slice (some ⟨n + 1 + 7, 0, none⟩) 1 1, .int .i64 0, .int .i64 0] 27 false)).next by simp [nG1], IH.get_push_same]
    have s4 : F.get (n + 15) = some (.cells (cs ++ (insC (ins 1 0 0 0 0 0) ++ insC (ins 22 0 0 0 0 0))) 30 false) := by
      rw [oF _ (by omega) (by omega) (by omega), e3 _ (by omega) (by omega), hG4, IH.get_set, if_neg (by omega), IH.get_push_other _ _ _ (show n + 15 < G3.next + 1 by omega), ← nG3, IH.get_push_same]
    have hle : ∀ x, x < H.next → F.get x = H.get x := fun x hx => by
      rw [oF x (by omega) (by omega) (by omega), gl x (by omega), f1.2 x (by omega), fB0.2 x (by omega)]
    refine ⟨LAt.mk rfl (by omega) fun i hi => ?_, LAt.mk rfl (by omega) fun i hi => ?_, ht.up (by omega) fun b o x hb hx => CellAt.same (lo := H.next) hx hle hb, LAt.mk rfl (by omega) fun i hi => ?_, LAt.mk rfl (by omega) fun i hi => ?_⟩
    · match i, hi with
      | 0, _ => exact ⟨_, _, _, (q _ (by omega) (by omega) (by omega)).trans l1.g2, rfl, rfl, LAt.nil⟩
      | 1, _ => exact ⟨_, _, _, (q _ (by omega) (by omega) (by omega)).trans l1.g2, rfl, rfl, LAt.mk rfl (by omega) fun i hi => by
          match i, hi with
          | 0, _ => exact CellAt.one ((q _ (by omega) (by omega) (by omega)).trans l1.g1) rfl⟩
    · match i, hi with
      | 0, _ => exact ⟨_, _, _, s1, rfl, rfl, rfl, LAt.nil⟩
      | 1, _ => exact ⟨_, _, _, s1, rfl, rfl, rfl, LAt.mk rfl (by omega) fun i hi => by
          match i, hi with
          | 0, _ => exact CellAt.one s2 rfl⟩
    · match i, hi with
      | 0, _ => exact CellAt.one s3 rfl
      | 1, _ => exact CellAt.one s3 rfl
      | 2, _ => exact CellAt.one s3 rfl
      | 3, _ => exact CellAt.one s3 rfl
    · match i, hi with
      | 0, _ => exact ⟨_, _, _, _, gF7, rfl, rfl, rfl, rfl, LAt.nil, LAt.mk rfl (by omega) fun i hi => by
          match i, hi with
          | 0, _ => exact ⟨_, _, _, _, gFb, rfl, rfl, (e5.mono (by omega) fun x hm => by
              have hx : G4.next ≤ x ∧ x < H5.next := by
                rcases e5 with ⟨e, _⟩ | ⟨b, b1, b2, e, _⟩
                · rw [e] at hm; simp [bOf] at hm
                · rw [e] at hm; simp [bOf] at hm; omega
              exact oF x hx.2 (by omega) (by omega)).ints (Nat.le_refl _), code2_at hcl hfl s4 (hins F (n + 15) _ (fun x hx => hle x hx) s4) (by omega) (by omega)⟩⟩
theorem c_main1 {slots : Nat} {texts : List ByteArray} {code : List Ins} {ta : Option Addr} {tc cb cc : Nat} (hsl : slots ≤ 200) (ht : LAt H.next 1 (CellAt H 9 Value.string) (.slice ta texts.length tc) texts)
    (hcb : cb < H.next) (hcode : H.get cb = some (.cells (code.flatMap insC) 30 false)) (hcp : ∀ x ∈ code, x.l = [] ∧ x.m = [] ∧ x.live = []) (hcl : code.length ≤ 1000) (hcc : cc = code.length) :
    ∃ H' u, cal J okAll 29 #[.int .i64 slots, .slice ta texts.length tc, .slice (some ⟨cb, 0, none⟩) code.length cc] H = some (.ret (ImV.val u (mainIm slots texts code)), H') ∧ Fr H.next H H' ∧ ImvAt H' H'.next u (mainIm slots texts code) :=
  c_main1g hsl ht hcb hcode (flat_len _) (fun _ _ cs' _ hg i hi => InsAt.plain hg (fun j hj => flat_get cs' code i hi j hj) (hcp _ (List.getElem_mem hi)).1 (hcp _ (List.getElem_mem hi)).2.1 (hcp _ (List.getElem_mem hi)).2.2) hcl hcc
end
end Go.Proofs.YtchlbfmjnhgpgaaGreat.Idl
namespace Go.Proofs.YtchlbfmjnhgpgaaGreat.Idl
open Go
set_option maxHeartbeats 8000000
set_option maxRecDepth 100000
set_option linter.unusedSimpArgs false
def reckCode (a b k want : Int) : List Ins := [ins 1 0 0 0 0 a, ins 1 1 0 0 0 b, ins 4 2 0 1 0 k, ins 1 3 0 0 0 want, ins 4 3 2 3 0 8, ins 16 0 3 0 0 0]
theorem reck_begin (a b k want : Int) : beginOk (mainIm 4 [] (reckCode a b k want)) = true := by kernel_rfl
theorem wIsImm_imm (n : Int) : wIsImm (wImm n) = true := by unfold wIsImm wImm; rw [decide_eq_true_eq]; omega
theorem wInt_imm (n : Int) (h : -4611686018427387904 ≤ n ∧ n ≤ 4611686018427387903) : wInt (wImm n) = n := by unfold wInt wImm; split <;> omega
theorem vbind {α β : Type} (x : VM α) (f : α → VM β) (σ : Mst) : (x >>= f) σ = VM.bind x f σ := rfl
theorem reck_ok (a b k want : Int) (ha : -4611686018427387904 ≤ a ∧ a ≤ 4611686018427387903) (hb : -4611686018427387904 ≤ b ∧ b ≤ 4611686018427387903) (hw : -4611686018427387904 ≤ want ∧ want ≤ 4611686018427387903) (hp : primF k a b = some (want, true)) :
    endIs (runOut .none (mainIm 4 [] (reckCode a b k want)) (scr0 100 20)) (fun e σ => decide (e = 1) && decide (σ.out = [1])) = true := by
  have i1 := wInt_imm a ha
  have i2 := wInt_imm b hb
  have i3 := wInt_imm want hw
  have hp2 : primF 8 want want = some (1, true) := by simp [primF]
  have hp0 : wInt (wImm 1) = 1 := rfl
  have ho : wInt (wImm 0) = 0 := rfl
  unfold runOut
  rw [reck_begin]
  simp [mainIm, reckCode, ins, vCall, vbind, VM.bind, vMust, VM.ret, VM.of, VM.get, VM.upd, Img.start, scr0, Fn.frame, vRunN, vStep, vTop, Frm.code, vInstr, vSetInt, vSet, vSlot, vPrim, vNumber, vGet, vLast, vPop, vEnd, wIsImm_imm, i1, i2, i3, hp, hp2, hp0, ho, endIs]
theorem reck_bad (a b k want : Int) (ha : -4611686018427387904 ≤ a ∧ a ≤ 4611686018427387903) (hb : -4611686018427387904 ≤ b ∧ b ≤ 4611686018427387903) {w : Int} (hp : primF k a b = some (w, false)) :
    endIs (runOut .none (mainIm 4 [] (reckCode a b k want)) (scr0 100 20)) (fun e σ => decide (e = 2) && decide (σ.exn = nDiv) && decide (σ.out = []) && decide (σ.steps = 3)) = true := by
  have i1 := wInt_imm a ha
  have i2 := wInt_imm b hb
  have hp0 : wInt (wImm 1) = 1 := rfl
  unfold runOut
  rw [reck_begin]
  simp [mainIm, reckCode, ins, vCall, vbind, VM.bind, vMust, VM.ret, VM.of, VM.get, VM.upd, Img.start, scr0, Fn.frame, vRunN, vStep, vTop, Frm.code, vInstr, vSetInt, vSet, vSlot, vPrim, vNumber, vGet, vLast, vPop, vEnd, wIsImm_imm, i1, i2, hp, hp0, endIs, vThrow, vThrowN, nameF]
end Go.Proofs.YtchlbfmjnhgpgaaGreat.Idl
namespace Go.Proofs.YtchlbfmjnhgpgaaGreat.Idl
open Go
set_option maxHeartbeats 8000000
set_option maxRecDepth 100000
set_option linter.unusedSimpArgs false
def callI : Ins := ⟨17, 0, 1, -1, 0, 0, [0], [], []⟩
def deepInn (s : Nat) : List Int := 0 :: List.replicate (s + 1) (-1)
def fnD (s : Nat) : Fn := ⟨[0], 0, (s : Int) + 2, [⟨deepInn s, [ins 19 0 0 1 2 0]⟩, ⟨deepInn s, [ins 1 1 0 0 0 1, ins 4 0 0 1 0 2, callI, ins 22 0 0 0 0 0]⟩, ⟨deepInn s, [ins 22 0 0 0 0 0]⟩]⟩
def fnM (d : Int) : Fn := ⟨[], 0, 1, [⟨[-1], [ins 1 0 0 0 0 d, callI, ins 1 0 0 0 0 2, callI, ins 16 0 0 0 0 0, ins 22 0 0 0 0 0]⟩]⟩
def deepIm (d : Int) (s : Nat) : Img := ⟨[⟨true, []⟩, ⟨false, [0]⟩], [⟨3, [], ⟨#[]⟩⟩], [], [], [fnM d, fnD s], 0, 0⟩
theorem deep_begin (d : Int) (s : Nat) (hs : s ≤ 18) : beginOk (deepIm d s) = true := by
  have : ∀ x ∈ List.range 19, beginOk (deepIm d x) = true := List.all_eq_true.1 (by kernel_rfl)
  exact this s (by simp; omega)
section
variable {d : Int} {s : Nat} {hp : Hp} {st w : Int} {out : List Nat} {n : Nat} {gs : List Frm}
theorem deep_zero {gf : Fn} {gb ga : Int} {s0 : Nat} {sr rest : List Nat} (hg : pend ⟨gf, gb, ga, s0 :: sr⟩ = some callI) (hn : n + 10 < 5000) (m : Nat) :
    vRunN .none (deepIm d s) (m + 2) ⟨5000, 0, st, [], [], hp, ⟨fnD s, 0, 0, wImm 0 :: rest⟩ :: ⟨gf, gb, ga, s0 :: sr⟩ :: gs, w, 0, 0, out, ⟨#[]⟩, n, 0⟩ =
    vRunN .none (deepIm d s) m ⟨5000, 0, st, [], [], hp, ⟨gf, gb, ga, wImm 0 :: sr⟩ :: gs, w - ((s : Int) + 2 + 2), 0, 0, out, ⟨#[]⟩, n + 2, 0⟩ := by
  have k3 : ((n : Int) = 5000) = False := by simp only [eq_iff_iff, iff_false]; omega
  have k4 : ((n : Int) + 1 = 5000) = False := by simp only [eq_iff_iff, iff_false]; omega
  have i1 : wInt (wImm 0) = 0 := rfl
  have hg2 : pend { fn := gf, block := gb, at_ := ga, slots := s0 :: sr } = some { op := 17, d := 0, a := 1, b := -1, c := 0, n := 0, l := [0], m := [], live := [] } := hg
  simp [vRunN, fnD, callI, k3, k4, ins, vbind, VM.bind, vMust, VM.ret, VM.of, VM.get, VM.upd, vStep, vTop, Frm.code, vInstr, vSetInt, vSet, vSlot, vNumber, vGet, vLast, vPop, vJump, wIsImm_imm, i1, hg2]
theorem deep_ret {gf : Fn} {gb ga : Int} {s0 : Nat} {sr rest : List Nat} (hg : pend ⟨gf, gb, ga, s0 :: sr⟩ = some callI) (hn : n + 10 < 5000) (m : Nat) :
    vRunN .none (deepIm d s) (m + 1) ⟨5000, 0, st, [], [], hp, ⟨fnD s, 1, 3, wImm 0 :: rest⟩ :: ⟨gf, gb, ga, s0 :: sr⟩ :: gs, w, 0, 0, out, ⟨#[]⟩, n, 0⟩ =
    vRunN .none (deepIm d s) m ⟨5000, 0, st, [], [], hp, ⟨gf, gb, ga, wImm 0 :: sr⟩ :: gs, w - ((s : Int) + 2 + 2), 0, 0, out, ⟨#[]⟩, n + 1, 0⟩ := by
  have k3 : ((n : Int) = 5000) = False := by simp only [eq_iff_iff, iff_false]; omega
  have hg2 : pend { fn := gf, block := gb, at_ := ga, slots := s0 :: sr } = some { op := 17, d := 0, a := 1, b := -1, c := 0, n := 0, l := [0], m := [], live := [] } := hg
  simp [vRunN, fnD, callI, k3, ins, vbind, VM.bind, vMust, VM.ret, VM.of, VM.get, VM.upd, vStep, vTop, Frm.code, vInstr, vSetInt, vSet, vSlot, vNumber, vGet, vLast, vPop, vJump, wIsImm_imm, hg2]
theorem deep_step {k r : Nat} {rr : List Nat} (hk : k < 1000) (hl : rr.length = s) (hn : n + 10 < 5000) (hst : ¬ st < w + ((s : Int) + 2) + 2) (m : Nat) :
    vRunN .none (deepIm d s) (m + 4) ⟨5000, 0, st, [], [], hp, ⟨fnD s, 0, 0, wImm ((k : Int) + 1) :: r :: rr⟩ :: gs, w, 0, 0, out, ⟨#[]⟩, n, 0⟩ =
    vRunN .none (deepIm d s) m ⟨5000, 0, st, [], [], hp, ⟨fnD s, 0, 0, wImm (k : Int) :: 1 :: List.replicate s 1⟩ :: ⟨fnD s, 1, 3, 1 :: 1 :: List.replicate s 1⟩ :: gs, w + ((s : Int) + 2 + 2), 0, 0, out, ⟨#[]⟩, n + 4, 0⟩ := by
  have k3 : ((n : Int) = 5000) = False := by simp only [eq_iff_iff, iff_false]; omega
  have k4 : ((n : Int) + 1 = 5000) = False := by simp only [eq_iff_iff, iff_false]; omega
  have k5 : ((n : Int) + 1 + 1 = 5000) = False := by simp only [eq_iff_iff, iff_false]; omega
  have k6 : ((n : Int) + 1 + 1 + 1 = 5000) = False := by simp only [eq_iff_iff, iff_false]; omega
  have i1 : wInt (wImm ((k : Int) + 1)) = (k : Int) + 1 := wInt_imm _ (by omega)
  have i2 : wInt (wImm 1) = 1 := rfl
  have i3 : ((k : Int) + 1 = 0) = False := by simp only [eq_iff_iff, iff_false]; omega
  have i4 : wWrap (k : Int) = k := by unfold wWrap; omega
  have i5 : ((s : Int) + 2).toNat - 1 = s + 1 := by omega
  have i6 : ((s : Int) + 2).toNat = s + 2 := by omega
  have i7 : (1 : Int) < (s : Int) + 1 + 1 := by omega
  have i8 : (0 : Int) < (s : Int) + 1 + 1 := by omega
  have i9 : (1 : Int) ≤ (s : Int) + 2 := by omega
  simp [vRunN, fnD, callI, deepIm, k3, k4, k5, k6, ins, vbind, VM.bind, vMust, VM.ret, VM.of, VM.get, VM.upd, vStep, vTop, Frm.code, vInstr, vSetInt, vSet, vSlot, vNumber, vGet, vLast, vPop, vJump, vPrim, primF, vRead, vKeep, vKeepGo, vCall, Fn.frame, wIsImm_imm, hl, i1, i2, i3, i4, i5, i6, i7, i8, i9, hst, List.replicate_succ]
theorem deep_over {k r : Nat} {rr : List Nat} (hk : k < 1000) (hl : rr.length = s) (hn : n + 10 < 5000) (hst : st < w + ((s : Int) + 2) + 2) (m : Nat) :
    ∃ σ, vRunN .none (deepIm d s) (m + 4) ⟨5000, 0, st, [], [], hp, ⟨fnD s, 0, 0, wImm ((k : Int) + 1) :: r :: rr⟩ :: gs, w, 0, 0, out, ⟨#[]⟩, n, 0⟩ = some (.error 5, σ) ∧ σ.out = out := by
  have k3 : ((n : Int) = 5000) = False := by simp only [eq_iff_iff, iff_false]; omega
  have k4 : ((n : Int) + 1 = 5000) = False := by simp only [eq_iff_iff, iff_false]; omega
  have k5 : ((n : Int) + 1 + 1 = 5000) = False := by simp only [eq_iff_iff, iff_false]; omega
  have k6 : ((n : Int) + 1 + 1 + 1 = 5000) = False := by simp only [eq_iff_iff, iff_false]; omega
  have i1 : wInt (wImm ((k : Int) + 1)) = (k : Int) + 1 := wInt_imm _ (by omega)
  have i2 : wInt (wImm 1) = 1 := rfl
  have i3 : ((k : Int) + 1 = 0) = False := by simp only [eq_iff_iff, iff_false]; omega
  have i4 : wWrap (k : Int) = k := by unfold wWrap; omega
  have i5 : ((s : Int) + 2).toNat - 1 = s + 1 := by omega
  have i6 : ((s : Int) + 2).toNat = s + 2 := by omega
  have i7 : (1 : Int) < (s : Int) + 1 + 1 := by omega
  have i8 : (0 : Int) < (s : Int) + 1 + 1 := by omega
  have i9 : (1 : Int) ≤ (s : Int) + 2 := by omega
  simp [vRunN, fnD, callI, deepIm, k3, k4, k5, k6, ins, vbind, VM.bind, vMust, VM.ret, VM.of, VM.get, VM.upd, vStep, vTop, Frm.code, vInstr, vSetInt, vSet, vSlot, vNumber, vGet, vLast, vPop, vJump, vPrim, primF, vRead, vKeep, vKeepGo, vCall, vEnd, Fn.frame, wIsImm_imm, hl, i1, i2, i3, i4, i5, i6, i7, i8, i9, hst, List.replicate_succ]
theorem deep_run_ok (k : Nat) : ∀ {w : Int} {n : Nat} {gs : List Frm} {gf : Fn} {gb ga : Int} {s0 : Nat} {sr rest : List Nat} (_ : rest.length = s + 1) (_ : pend ⟨gf, gb, ga, s0 :: sr⟩ = some callI) (_ : k ≤ 300) (_ : n + 5 * k + 20 < 5000) (_ : w + k * ((s : Int) + 2 + 2) ≤ st) (m : Nat),
    vRunN .none (deepIm d s) (m + (5 * k + 2)) ⟨5000, 0, st, [], [], hp, ⟨fnD s, 0, 0, wImm (k : Int) :: rest⟩ :: ⟨gf, gb, ga, s0 :: sr⟩ :: gs, w, 0, 0, out, ⟨#[]⟩, n, 0⟩ =
    vRunN .none (deepIm d s) m ⟨5000, 0, st, [], [], hp, ⟨gf, gb, ga, wImm 0 :: sr⟩ :: gs, w - ((s : Int) + 2 + 2), 0, 0, out, ⟨#[]⟩, n + (5 * k + 2), 0⟩ := by
  induction k with
  | zero =>
    intro w n gs gf gb ga s0 sr rest hr hg hk hn hst m
    exact deep_zero hg (by omega) m
  | succ k ih =>
    intro w n gs gf gb ga s0 sr rest hr hg hk hn hst m
    obtain ⟨r, rr, rfl⟩ : ∃ r rr, rest = r :: rr := by
      cases rest with
      | nil => simp at hr
      | cons r rr => exact ⟨r, rr, rfl⟩
    have hkc : ((k + 1 : Nat) : Int) = (k : Int) + 1 := by omega
    rw [hkc] at hst ⊢
    have hmul : ((k : Int) + 1) * ((s : Int) + 2 + 2) = k * ((s : Int) + 2 + 2) + ((s : Int) + 2 + 2) := by rw [Int.add_mul, Int.one_mul]
    rw [hmul] at hst
    have hnn : (0 : Int) ≤ k * ((s : Int) + 2 + 2) := Int.mul_nonneg (by omega) (by omega)
    rw [show m + (5 * (k + 1) + 2) = (m + 1 + (5 * k + 2)) + 4 by omega, deep_step (by omega) (by simpa using hr) (by omega) (by omega)]
    rw [ih (rest := 1 :: List.replicate s 1) (by simp) (by rfl) (by omega) (by omega) (by omega) (m + 1)]
    rw [deep_ret hg (by omega)]
    congr 2 <;> omega
theorem deep_run_bad (k : Nat) : ∀ {w : Int} {n : Nat} {gs : List Frm} {rest : List Nat} (_ : rest.length = s + 1) (_ : k ≤ 300) (_ : n + 5 * k + 20 < 5000) (_ : w ≤ st) (_ : st < w + k * ((s : Int) + 2 + 2)) (m : Nat),
    ∃ σ, vRunN .none (deepIm d s) (m + (5 * k + 2)) ⟨5000, 0, st, [], [], hp, ⟨fnD s, 0, 0, wImm (k : Int) :: rest⟩ :: gs, w, 0, 0, out, ⟨#[]⟩, n, 0⟩ = some (.error 5, σ) ∧ σ.out = out := by
  induction k with
  | zero => intro w n gs rest hr hk hn hw hst m; simp at hst; omega
  | succ k ih =>
    intro w n gs rest hr hk hn hw hst m
    obtain ⟨r, rr, rfl⟩ : ∃ r rr, rest = r :: rr := by
      cases rest with
      | nil => simp at hr
      | cons r rr => exact ⟨r, rr, rfl⟩
    have hkc : ((k + 1 : Nat) : Int) = (k : Int) + 1 := by omega
    rw [hkc] at hst ⊢
    have hmul : ((k : Int) + 1) * ((s : Int) + 2 + 2) = k * ((s : Int) + 2 + 2) + ((s : Int) + 2 + 2) := by rw [Int.add_mul, Int.one_mul]
    rw [hmul] at hst
    by_cases ho : st < w + ((s : Int) + 2) + 2
    · rw [show m + (5 * (k + 1) + 2) = (m + 5 * k + 3) + 4 by omega]
      exact deep_over (by omega) (by simpa using hr) (by omega) ho _
    · rw [show m + (5 * (k + 1) + 2) = (m + 1 + (5 * k + 2)) + 4 by omega, deep_step (by omega) (by simpa using hr) (by omega) ho]
      exact ih (rest := 1 :: List.replicate s 1) (by simp) (by omega) (by omega) (by omega) (by omega) (m + 1)
theorem deep_main0 (m : Nat) : vRunN .none (deepIm d s) (m + 2) ⟨5000, 0, st, [], [], hp, [⟨fnM d, 0, 0, [1]⟩], 3, 0, 0, [], ⟨#[]⟩, 0, 0⟩ =
    if st < 3 + ((s : Int) + 2) + 2 then some (.error 5, ⟨5000, 0, st, [], [], hp, [⟨fnM d, 0, 2, [1]⟩], 3, 0, 0, [], ⟨#[]⟩, 2, 0⟩)
    else vRunN .none (deepIm d s) m ⟨5000, 0, st, [], [], hp, [⟨fnD s, 0, 0, wImm d :: 1 :: List.replicate s 1⟩, ⟨fnM d, 0, 2, [1]⟩], 3 + ((s : Int) + 2 + 2), 0, 0, [], ⟨#[]⟩, 2, 0⟩ := by
  have i5 : ((s : Int) + 2).toNat - 1 = s + 1 := by omega
  have i9 : (1 : Int) ≤ (s : Int) + 2 := by omega
  by_cases hst : st < 3 + ((s : Int) + 2) + 2
  · simp [vRunN, fnD, fnM, callI, deepIm, ins, vbind, VM.bind, vMust, VM.ret, VM.of, VM.get, VM.upd, vStep, vTop, Frm.code, vInstr, vSetInt, vSet, vSlot, vNumber, vGet, vRead, vKeep, vKeepGo, vCall, vEnd, Fn.frame, i5, i9, hst, List.replicate_succ]
  · simp [vRunN, fnD, fnM, callI, deepIm, ins, vbind, VM.bind, vMust, VM.ret, VM.of, VM.get, VM.upd, vStep, vTop, Frm.code, vInstr, vSetInt, vSet, vSlot, vNumber, vGet, vRead, vKeep, vKeepGo, vCall, vEnd, Fn.frame, i5, i9, hst, List.replicate_succ]
theorem deep_main2 (hn : n + 10 < 5000) (m : Nat) : vRunN .none (deepIm d s) (m + 2) ⟨5000, 0, st, [], [], hp, [⟨fnM d, 0, 2, [wImm 0]⟩], 3, 0, 0, [], ⟨#[]⟩, n, 0⟩ =
    if st < 3 + ((s : Int) + 2) + 2 then some (.error 5, ⟨5000, 0, st, [], [], hp, [⟨fnM d, 0, 4, [1]⟩], 3, 0, 0, [], ⟨#[]⟩, n + 2, 0⟩)
    else vRunN .none (deepIm d s) m ⟨5000, 0, st, [], [], hp, [⟨fnD s, 0, 0, wImm 2 :: 1 :: List.replicate s 1⟩, ⟨fnM d, 0, 4, [1]⟩], 3 + ((s : Int) + 2 + 2), 0, 0, [], ⟨#[]⟩, n + 2, 0⟩ := by
  have i5 : ((s : Int) + 2).toNat - 1 = s + 1 := by omega
  have i9 : (1 : Int) ≤ (s : Int) + 2 := by omega
  have k3 : ((n : Int) = 5000) = False := by simp only [eq_iff_iff, iff_false]; omega
  have k4 : ((n : Int) + 1 = 5000) = False := by simp only [eq_iff_iff, iff_false]; omega
  by_cases hst : st < 3 + ((s : Int) + 2) + 2
  · simp [vRunN, fnD, fnM, callI, deepIm, ins, vbind, VM.bind, vMust, VM.ret, VM.of, VM.get, VM.upd, vStep, vTop, Frm.code, vInstr, vSetInt, vSet, vSlot, vNumber, vGet, vRead, vKeep, vKeepGo, vCall, vEnd, Fn.frame, i5, i9, hst, k3, k4, List.replicate_succ]
  · simp [vRunN, fnD, fnM, callI, deepIm, ins, vbind, VM.bind, vMust, VM.ret, VM.of, VM.get, VM.upd, vStep, vTop, Frm.code, vInstr, vSetInt, vSet, vSlot, vNumber, vGet, vRead, vKeep, vKeepGo, vCall, vEnd, Fn.frame, i5, i9, hst, k3, k4, List.replicate_succ]
theorem deep_main4 (hn : n + 10 < 5000) (m : Nat) : ∃ σ, vRunN .none (deepIm d s) (m + 2) ⟨5000, 0, st, [], [], hp, [⟨fnM d, 0, 4, [wImm 0]⟩], w, 0, 0, [], ⟨#[]⟩, n, 0⟩ = some (.error 1, σ) ∧ σ.out = [0] := by
  have k3 : ((n : Int) = 5000) = False := by simp only [eq_iff_iff, iff_false]; omega
  have k4 : ((n : Int) + 1 = 5000) = False := by simp only [eq_iff_iff, iff_false]; omega
  have i1 : wInt (wImm 0) = 0 := rfl
  simp [vRunN, fnM, callI, deepIm, ins, vbind, VM.bind, vMust, VM.ret, VM.of, VM.get, VM.upd, vStep, vTop, Frm.code, vInstr, vSetInt, vSet, vSlot, vNumber, vGet, vLast, vPop, vEnd, wIsImm_imm, i1, k3, k4]
end
/-- How deep it may go. -/
theorem deep_all (d s st : Nat) (hd : d ≤ 300) (hs : s ≤ 18) :
    (3 + (1 + max 2 d) * (s + 4) ≤ st → ∃ σ, runOut .none (deepIm d s) ⟨[], 5000, 0, st, []⟩ = some (1, σ) ∧ σ.out = [0]) ∧
    (st < 3 + (1 + max 2 d) * (s + 4) → ∃ σ, runOut .none (deepIm d s) ⟨[], 5000, 0, st, []⟩ = some (5, σ) ∧ σ.out = []) := by
  have hb := deep_begin d s hs
  obtain ⟨hp, hhp⟩ : ∃ hp, hp = Hp.new 0 ((deepIm d s).shapes.map Shp.ly) := ⟨_, rfl⟩
  have hv : vCall (deepIm d s) (deepIm d s).main [] ((deepIm d s).start ⟨[], 5000, 0, st, []⟩) =
      if (st : Int) < 3 then some (.error 5, ⟨5000, 0, st, [], [], hp, [], 0, 0, 0, [], ⟨#[]⟩, 0, 0⟩) else some (.ok (), ⟨5000, 0, st, [], [], hp, [⟨fnM d, 0, 0, [1]⟩], 3, 0, 0, [], ⟨#[]⟩, 0, 0⟩) := by
    rw [hhp]
    by_cases h3 : (st : Int) < 3
    · simp [deepIm, fnM, vCall, vbind, VM.bind, vMust, VM.ret, VM.of, VM.get, VM.upd, vEnd, Img.start, Fn.frame, h3]
    · simp [deepIm, fnM, vCall, vbind, VM.bind, vMust, VM.ret, VM.of, VM.get, VM.upd, vEnd, Img.start, Fn.frame, h3]
  have e1 : (1 + max 2 d) * (s + 4) = (s + 4) + max 2 d * (s + 4) := by rw [Nat.add_mul, Nat.one_mul]
  have e2 : 2 * (s + 4) ≤ max 2 d * (s + 4) := Nat.mul_le_mul_right _ (by omega)
  have e3 : d * (s + 4) ≤ max 2 d * (s + 4) := Nat.mul_le_mul_right _ (by omega)
  have c1 : (d : Int) * ((s : Int) + 2 + 2) = ((d * (s + 4) : Nat) : Int) := by rw [Int.natCast_mul]; congr 1 <;> omega
  have c2 : ((2 : Nat) : Int) * ((s : Int) + 2 + 2) = ((2 * (s + 4) : Nat) : Int) := by omega
  have hr : ∀ {k : Int} {σ : Mst}, ¬ (st : Int) < 3 → vRunN .none (deepIm d s) 5001 ⟨5000, 0, st, [], [], hp, [⟨fnM d, 0, 0, [1]⟩], 3, 0, 0, [], ⟨#[]⟩, 0, 0⟩ = some (.error k, σ) → runOut .none (deepIm d s) ⟨[], 5000, 0, st, []⟩ = some (k, σ) := by
    intro k σ h3 h
    unfold runOut
    rw [hb, if_neg (by simp), hv, if_neg h3]
    simp only [show (5000 : Nat) + 1 = 5001 by omega, h]
  refine ⟨fun h => ?_, fun h => ?_⟩
  · obtain ⟨σ, h1, h2⟩ := deep_main4 (d := (d : Int)) (s := s) (hp := hp) (st := st) (w := 3) (n := 2 + (5 * d + 2) + 2 + (5 * 2 + 2)) (by omega) (4999 - (5 * d + 2) - 2 - 12 - 2)
    refine ⟨σ, hr (by omega) ?_, h2⟩
    rw [show 5001 = 4999 - (5 * d + 2) + (5 * d + 2) + 2 by omega, deep_main0, if_neg (by omega), deep_run_ok d (by simp) (by rfl) hd (by omega) (by rw [c1]; omega)]
    rw [show 3 + ((s : Int) + 2 + 2) - ((s : Int) + 2 + 2) = 3 by omega, show 4999 - (5 * d + 2) = 4999 - (5 * d + 2) - 2 - 12 + (5 * 2 + 2) + 2 by omega, deep_main2 (by omega), if_neg (by omega)]
    have h4 := deep_run_ok (d := (d : Int)) (s := s) (hp := hp) (st := st) (out := []) 2 (w := 3 + ((s : Int) + 2 + 2)) (n := 2 + (5 * d + 2) + 2) (gs := []) (gf := fnM d) (gb := 0) (ga := 4) (s0 := 1) (sr := []) (rest := 1 :: List.replicate s 1) (by simp) (by rfl) (by omega) (by omega) (by rw [c2]; omega) (4999 - (5 * d + 2) - 2 - 12)
    rw [show ((2 : Nat) : Int) = 2 from rfl] at h4
    rw [h4, show 3 + ((s : Int) + 2 + 2) - ((s : Int) + 2 + 2) = 3 by omega, show 4999 - (5 * d + 2) - 2 - 12 = 4999 - (5 * d + 2) - 2 - 12 - 2 + 2 by omega]
    exact h1
  · by_cases h3 : (st : Int) < 3
    · refine ⟨⟨5000, 0, st, [], [], hp, [], 0, 0, 0, [], ⟨#[]⟩, 0, 0⟩, ?_, rfl⟩
      unfold runOut
      rw [hb, if_neg (by simp), hv, if_pos h3]
    · by_cases h4 : (st : Int) < 3 + ((s : Int) + 2) + 2
      · refine ⟨⟨5000, 0, st, [], [], hp, [⟨fnM d, 0, 2, [1]⟩], 3, 0, 0, [], ⟨#[]⟩, 2, 0⟩, hr h3 ?_, rfl⟩
        rw [show 5001 = 4999 + 2 by omega, deep_main0, if_pos h4]
      · by_cases h5 : (st : Int) < 3 + ((s : Int) + 2 + 2) + d * ((s : Int) + 2 + 2)
        · obtain ⟨σ, h6, h7⟩ := deep_run_bad (d := (d : Int)) (s := s) (hp := hp) (st := st) (out := []) d (w := 3 + ((s : Int) + 2 + 2)) (n := 2) (gs := [⟨fnM d, 0, 2, [1]⟩]) (rest := 1 :: List.replicate s 1) (by simp) hd (by omega) (by omega) h5 (4999 - (5 * d + 2))
          refine ⟨σ, hr h3 ?_, h7⟩
          rw [show 5001 = 4999 - (5 * d + 2) + (5 * d + 2) + 2 by omega, deep_main0, if_neg h4]
          exact h6
        · obtain ⟨σ, h6, h7⟩ := deep_run_bad (d := (d : Int)) (s := s) (hp := hp) (st := st) (out := []) 2 (w := 3 + ((s : Int) + 2 + 2)) (n := 2 + (5 * d + 2) + 2) (gs := [⟨fnM d, 0, 4, [1]⟩]) (rest := 1 :: List.replicate s 1) (by simp) (by omega) (by omega) (by omega) (by
            rw [c1] at h5
            rw [c2]
            rcases Nat.le_total 2 d with hd2 | hd2
            · rw [Nat.max_eq_right hd2] at e1 h
              omega
            · rw [Nat.max_eq_left hd2] at e1 h
              omega) (4999 - (5 * d + 2) - 2 - 12)
          refine ⟨σ, hr h3 ?_, h7⟩
          rw [show 5001 = 4999 - (5 * d + 2) + (5 * d + 2) + 2 by omega, deep_main0, if_neg h4, deep_run_ok d (by simp) (by rfl) hd (by omega) (by omega)]
          rw [show 3 + ((s : Int) + 2 + 2) - ((s : Int) + 2 + 2) = 3 by omega, show 4999 - (5 * d + 2) = 4999 - (5 * d + 2) - 2 - 12 + (5 * 2 + 2) + 2 by omega, deep_main2 (by omega), if_neg h4]
          exact h6
end Go.Proofs.YtchlbfmjnhgpgaaGreat.Idl
namespace Go.Proofs.YtchlbfmjnhgpgaaGreat.Idl
open Go
set_option maxHeartbeats 8000000
set_option maxRecDepth 100000
set_option linter.unusedSimpArgs false
def callC (b : Nat) : List Value := [.int .i64 17, .int .i64 0, .int .i64 1, .int .i64 (-1), .int .i64 0, .int .i64 0, .slice (some ⟨b, 0, none⟩) 1 1, .slice none 0 0, .slice none 0 0]
theorem di034 (op b c : Int) : ibuild J 30 [(0, .int .i64 op), (3, .int .i64 b), (4, .int .i64 c)] = some (.agg (insC (ins op 0 0 b c 0)).toArray) := by kernel_rfl
theorem di015 (op d n : Int) : ibuild J 30 [(0, .int .i64 op), (1, .int .i64 d), (5, .int .i64 n)] = some (.agg (insC (ins op d 0 0 0 n)).toArray) := by kernel_rfl
theorem di035 (op b n : Int) : ibuild J 30 [(0, .int .i64 op), (3, .int .i64 b), (5, .int .i64 n)] = some (.agg (insC (ins op 0 0 b 0 n)).toArray) := by kernel_rfl
theorem dicall (b : Nat) : ibuild J 30 [(0, .int .i64 17), (2, .int .i64 1), (3, .int .i64 (-1)), (6, .slice (some ⟨b, 0, none⟩) 1 1)] = some (.agg (callC b).toArray) := by kernel_rfl
theorem dsl1 (H : IH) (x : Ins) : ibuildSlice J 54 1 [(0, .agg (insC x).toArray)] H = some (.slice (some ⟨H.next, 0, none⟩) 1 1, H.push (.cells (insC x) 30 false)) := by kernel_rfl
theorem dsl4 (H : IH) (x y z : Ins) (b : Nat) : ibuildSlice J 54 4 [(0, .agg (insC x).toArray), (1, .agg (insC y).toArray), (2, .agg (callC b).toArray), (3, .agg (insC z).toArray)] H = some (.slice (some ⟨H.next, 0, none⟩) 4 4, H.push (.cells (insC x ++ (insC y ++ (callC b ++ insC z))) 30 false)) := by kernel_rfl
theorem dsl6 (H : IH) (x y z v : Ins) (b c : Nat) : ibuildSlice J 54 6 [(0, .agg (insC x).toArray), (1, .agg (callC b).toArray), (2, .agg (insC y).toArray), (3, .agg (callC c).toArray), (4, .agg (insC z).toArray), (5, .agg (insC v).toArray)] H = some (.slice (some ⟨H.next, 0, none⟩) 6 6, H.push (.cells (insC x ++ (callC b ++ (insC y ++ (callC c ++ (insC z ++ insC v))))) 30 false)) := by kernel_rfl
theorem dsb3 (H : IH) (a b a' b' a'' b'' : Option Addr) (n c m d n' c' m' d' n'' c'' m'' d'' : Nat) : ibuildSlice J 57 3 [(0, .agg #[.slice a n c, .slice b m d]), (1, .agg #[.slice a' n' c', .slice b' m' d']), (2, .agg #[.slice a'' n'' c'', .slice b'' m'' d''])] H = some (.slice (some ⟨H.next, 0, none⟩) 3 3, H.push (.cells [.slice a n c, .slice b m d, .slice a' n' c', .slice b' m' d', .slice a'' n'' c'', .slice b'' m'' d''] 56 false)) := by kernel_rfl
theorem dfn (s : Int) (a b : Option Addr) (n c m d : Nat) : ibuild J 59 [(0, .slice a n c), (2, .int .i64 s), (3, .slice b m d)] = some (.agg #[.slice a n c, .int .i64 0, .int .i64 s, .slice b m d]) := by kernel_rfl
theorem st_func : ST 25 59 4 64 := ⟨by simp, by simp, by simp, ⟨_, by simp; rfl, by simp [Value.cells]⟩, by decide, by decide⟩
/-- A row of numbers that began with one. -/
def InnAt (H : IH) (lo : Nat) (u : Value) (l : List Int) : Prop :=
  ∃ b, lo ≤ b ∧ b < H.next ∧ H.get b = some (.cells (intsC l) 3 false) ∧ ((u = .slice (some ⟨b, 0, none⟩) 1 1 ∧ l.length = 1) ∨ u = .slice (some ⟨b, 0, none⟩) l.length capU)
theorem InnAt.slice {H : IH} {lo : Nat} {u : Value} {l : List Int} (h : InnAt H lo u l) : ∃ b c, u = .slice (some ⟨b, 0, none⟩) l.length c ∧ lo ≤ b ∧ b < H.next ∧ H.get b = some (.cells (intsC l) 3 false) := by
  obtain ⟨b, b1, b2, b3, ⟨e, el⟩ | e⟩ := h
  · exact ⟨b, 1, by rw [el]; exact e, b1, b2, b3⟩
  · exact ⟨b, capU, e, b1, b2, b3⟩
theorem app_inn {H : IH} {lo : Nat} {u : Value} {l : List Int} (h : InnAt H lo u l) (hlo : lo ≤ H.next) (hl : l.length ≤ 1000000) (w : Int) :
    ∃ u' H', iappend J #[28, 28] u (.slice (some ⟨H.next, 0, none⟩) 1 1) (H.push (.cells [.int .i64 w] 3 false)) = some (u', H') ∧ InnAt H' lo u' (l ++ [w]) ∧ Fr lo H H' := by
  have h1 : icells (H.push (.cells [.int .i64 w] 3 false)) ⟨H.next, 0, none⟩ (1 * 1) = some [.int .i64 w] := by simp [IH.get_push]
  have hn : (H.push (.cells [.int .i64 w] 3 false)).next = H.next + 1 := by simp
  obtain ⟨b, b1, b2, b3, hu⟩ := h
  have hg : (H.push (.cells [.int .i64 w] 3 false)).get b = some (.cells (intsC l) 3 false) := by rw [IH.get_push_other _ _ _ b2]; exact b3
  have hwl : (intsC l).length = l.length := by simp [intsC]
  rcases hu with ⟨rfl, el⟩ | rfl
  · have := app_full st_int (c := 1) (len := 1) (cap := 1) h1 (by simp) (by omega) (by omega) hg (by rw [hwl]; omega) (by simp [plain1]) (by decide) (by omega)
    rw [hn] at this
    refine ⟨_, _, this, ⟨H.next + 1, by omega, by simp, ?_, .inr (by simp [el])⟩, ((Fr.refl _ _).push hlo _).push (by simp; omega) _⟩
    rw [show H.next + 1 = (H.push (.cells [.int .i64 w] 3 false)).next by simp, IH.get_push_same, List.take_of_length_le (by rw [hwl]; omega)]; simp [intsC, intV]
  · have := app_some st_int (c := 1) (len := l.length) h1 (by simp) (by omega) (by omega) hg (by rw [hwl]; omega) (by simp [plain1])
    rw [hn] at this
    refine ⟨_, _, this, ⟨H.next + 1, by omega, by simp, ?_, .inr (by simp)⟩, (((Fr.refl _ _).push hlo _).set b1 _).push (by simp; omega) _⟩
    rw [show H.next + 1 = ((H.push (.cells [.int .i64 w] 3 false)).set b .dead).next by simp, IH.get_push_same, List.take_of_length_le (by rw [hwl]; omega)]; simp [intsC, intV]
theorem loop13 (S : Nat) (hS : S ≤ 20) (G : IH) (K : Nat → Value) : ∀ (d i : Nat) (T : Regs) (H' : IH) (u : Value), i + 1 + d = S → Fr G.next G H' → InnAt H' G.next u (0 :: List.replicate i (-1)) →
    (∀ t, t < 22 → t ≠ 8 → T.at t = K t) → T.at 8 = u → K 2 = .int .i64 (S : Int) →
    ∃ T' H'' u', run J okAll (.loop L13_0) T H' = some (.exit 0, T', H'') ∧ Fr G.next G H'' ∧ InnAt H'' G.next u' (0 :: List.replicate (i + d) (-1)) ∧ (∀ t, t < 22 → t ≠ 8 → T'.at t = K t) ∧ T'.at 8 = u' := by
  intro d
  induction d with
  | zero =>
    intro i T H' u hd hf hc hK t8 k2
    have t2 := (hK 2 (by omega) (by omega)).trans k2
    obtain ⟨b, c, hu, _⟩ := hc.slice
    obtain ⟨T', key⟩ : ∃ T', run J okAll (.loop L13_0) T H' = some (.exit 0, T', H') ∧ (∀ t, t < 22 → T'.at t = T.at t) := by
      rw [r_loop]
      have e1 : ¬ ((i : Int) + 1 < (S : Int)) := by omega
      rw [hu] at t8
      simp [L13_0, t2, t8, e1]
      exact fun t ht => by simp (disch := omega) only [at_set_om]
    exact ⟨T', H', u, key.1, hf, hc, fun t h1 h2 => (key.2 t h1).trans (hK t h1 h2), (key.2 8 (by omega)).trans t8⟩
  | succ d ih =>
    intro i T H' u hd hf hc hK t8 k2
    have t2 := (hK 2 (by omega) (by omega)).trans k2
    have e1 : ((i : Int) + 1 < (S : Int)) := by omega
    obtain ⟨b, c, hu, _⟩ := hc.slice
    obtain ⟨u', H2, a1, a2, a3⟩ := app_inn hc hf.1 (by simp; omega) (-1)
    have hw : (0 :: List.replicate i (-1) : List Int) ++ [-1] = 0 :: List.replicate (i + 1) (-1) := by rw [List.cons_append, ← List.replicate_succ']
    rw [hw] at a2
    obtain ⟨vb, vc, hv, _⟩ := a2.slice
    obtain ⟨T1, s1, s2, s3⟩ : ∃ T1, run J okAll (.loop L13_0) T H' = run J okAll (.loop L13_0) T1 H2 ∧ (∀ t, t < 22 → t ≠ 8 → T1.at t = K t) ∧ T1.at 8 = u' := by
      rw [hu] at t8 a1
      rw [hv] at a1
      simp only [List.length_cons, List.length_replicate] at a1 t8
      rw [r_loop]
      simp [L13_0, t2, t8, e1, iparts, bsi1, a1]
      exact ⟨_, rfl, fun t ht h8 => by simp (disch := omega) only [at_set_om]; exact hK t ht h8, by simp [hv]⟩
    rw [s1]
    have := ih (i + 1) T1 H2 u' (by omega) (hf.trans a3) a2 s2 s3 k2
    rw [show i + (d + 1) = i + 1 + d by omega]
    exact this
theorem deep_sm (d s : Nat) (hd : d ≤ 300) : ImSm (deepIm d s) := by
  refine ⟨fun x hx y hy => ?_, fun x hx y hy z hz => ?_⟩
  · simp only [deepIm, List.mem_cons, List.not_mem_nil, or_false] at hx
    rcases hx with rfl | rfl
    · simp only [fnM, List.mem_singleton] at hy
      subst hy; simp
    · simp only [fnD, List.mem_cons, List.not_mem_nil, or_false] at hy
      rcases hy with rfl | rfl | rfl <;> simp
  · simp only [deepIm, List.mem_cons, List.not_mem_nil, or_false] at hx
    rcases hx with rfl | rfl
    · simp only [fnM, List.mem_singleton] at hy
      subst hy
      simp only [List.mem_cons, List.not_mem_nil, or_false] at hz
      rcases hz with rfl | rfl | rfl | rfl | rfl | rfl <;> simp [ins, callI] <;> omega
    · simp only [fnD, List.mem_cons, List.not_mem_nil, or_false] at hy
      rcases hy with rfl | rfl | rfl <;> simp only [List.mem_cons, List.not_mem_nil, or_false] at hz
      · subst hz; simp [ins]
      · rcases hz with rfl | rfl | rfl | rfl <;> simp [ins, callI]
      · subst hz; simp [ins]
end Go.Proofs.YtchlbfmjnhgpgaaGreat.Idl
namespace Go.Proofs.YtchlbfmjnhgpgaaGreat.Idl
open Go
set_option maxHeartbeats 8000000
set_option maxRecDepth 100000
set_option linter.unusedSimpArgs false
def deepU (m p : Nat) : ImV := ⟨.slice (some ⟨m + 2, 0, none⟩) 2 2, .slice (some ⟨m + 3, 0, none⟩) 1 1, .slice none 0 0, .slice none 0 0, .slice (some ⟨p + 7, 0, none⟩) 2 capU⟩
structure DeepAt (H : IH) (m p : Nat) (d : Int) (s : Nat) (ib ic : Nat) : Prop where
  ne : m + 9 < p ∧ p + 11 ≤ H.next ∧ ib < p
  g1 : H.get (m + 1) = some (.cells [.int .i64 0] 3 false)
  g2 : H.get (m + 2) = some (.cells [.bool true, .slice none 0 0, .bool false, .slice (some ⟨m + 1, 0, none⟩) 1 1] 88 false)
  g3 : H.get (m + 3) = some (.cells [.int .i64 3, .slice none 0 0, .string ⟨#[]⟩] 90 false)
  g4 : H.get (m + 4) = some (.cells [.int .i64 (-1)] 3 false)
  g6 : H.get (m + 6) = some (.cells [.slice (some ⟨m + 4, 0, none⟩) 1 1, .slice (some ⟨p + 10, 0, none⟩) 6 6] 56 false)
  gi : H.get ib = some (.cells (intsC (deepInn s)) 3 false)
  p0 : H.get p = some (.cells [.int .i64 0] 3 false)
  p1 : H.get (p + 1) = some (.cells (insC (ins 19 0 0 1 2 0)) 30 false)
  p2 : H.get (p + 2) = some (.cells [.int .i64 0] 3 false)
  p3 : H.get (p + 3) = some (.cells (insC (ins 1 1 0 0 0 1) ++ (insC (ins 4 0 0 1 0 2) ++ (callC (p + 2) ++ insC (ins 22 0 0 0 0 0)))) 30 false)
  p4 : H.get (p + 4) = some (.cells (insC (ins 22 0 0 0 0 0)) 30 false)
  p5 : H.get (p + 5) = some (.cells [.slice (some ⟨ib, 0, none⟩) (s + 2) ic, .slice (some ⟨p + 1, 0, none⟩) 1 1, .slice (some ⟨ib, 0, none⟩) (s + 2) ic, .slice (some ⟨p + 3, 0, none⟩) 4 4, .slice (some ⟨ib, 0, none⟩) (s + 2) ic, .slice (some ⟨p + 4, 0, none⟩) 1 1] 56 false)
  p7 : H.get (p + 7) = some (.cells [.slice none 0 0, .int .i64 0, .int .i64 1, .slice (some ⟨m + 6, 0, none⟩) 1 1, .slice (some ⟨p, 0, none⟩) 1 1, .int .i64 0, .int .i64 ((s : Int) + 2), .slice (some ⟨p + 5, 0, none⟩) 3 3] 59 false)
  p8 : H.get (p + 8) = some (.cells [.int .i64 0] 3 false)
  p9 : H.get (p + 9) = some (.cells [.int .i64 0] 3 false)
  p10 : H.get (p + 10) = some (.cells (insC (ins 1 0 0 0 0 d) ++ (callC (p + 8) ++ (insC (ins 1 0 0 0 0 2) ++ (callC (p + 9) ++ (insC (ins 16 0 0 0 0 0) ++ insC (ins 22 0 0 0 0 0)))))) 30 false)
section
variable {H : IH} {lo : Nat}
theorem ints1 {b c : Nat} (hb : b < lo) (hg : H.get b = some (.cells [.int .i64 0] 3 false)) : IntsAt H lo (.slice (some ⟨b, 0, none⟩) 1 c) [0] :=
  LAt.mk rfl hb fun i hi => by
    match i, hi with
    | 0, _ => exact CellAt.one hg rfl
theorem call_at {b o q : Nat} {cs : List Value} {pr : Bool} (hg : H.get b = some (.cells cs 30 pr)) (h : ∀ j, j < 9 → cs[o + j]? = (callC q)[j]?) (hq : q < lo) (hgq : H.get q = some (.cells [.int .i64 0] 3 false)) : InsAt H lo b o callI :=
  ⟨cs, pr, _, _, _, hg, by simpa [callC, callI] using h 0 (by omega), by simpa [callC, callI] using h 1 (by omega), by simpa [callC, callI] using h 2 (by omega), by simpa [callC, callI] using h 3 (by omega), by simpa [callC, callI] using h 4 (by omega), by simpa [callC, callI] using h 5 (by omega),
    by simpa [callC, callI] using h 6 (by omega), by simpa [callC, callI] using h 7 (by omega), by simpa [callC, callI] using h 8 (by omega), ints1 hq hgq, LAt.nil, LAt.nil⟩
theorem nine {P : Nat → Prop} (h0 : P 0) (h1 : P 1) (h2 : P 2) (h3 : P 3) (h4 : P 4) (h5 : P 5) (h6 : P 6) (h7 : P 7) (h8 : P 8) : ∀ j, j < 9 → P j := by
  intro j hj
  match j, hj with
  | 0, _ => exact h0
  | 1, _ => exact h1
  | 2, _ => exact h2
  | 3, _ => exact h3
  | 4, _ => exact h4
  | 5, _ => exact h5
  | 6, _ => exact h6
  | 7, _ => exact h7
  | 8, _ => exact h8
theorem deep_imv {m p : Nat} {d : Int} {s ib ic : Nat} (h : DeepAt H m p d s ib ic) : ImvAt H H.next (deepU m p) (deepIm d s) := by
  obtain ⟨n1, n2, n3⟩ := h.ne
  have hinn : IntsAt H H.next (.slice (some ⟨ib, 0, none⟩) (s + 2) ic) (deepInn s) := LAt.mk (by simp [deepInn]) (by omega) fun i hi => CellAt.one h.gi (by simp [intsC, hi])
  refine ⟨LAt.mk rfl (by omega) fun i hi => ?_, LAt.mk rfl (by omega) fun i hi => ?_, LAt.nil, LAt.nil, LAt.mk rfl (by omega) fun i hi => ?_⟩
  · match i, hi with
    | 0, _ => exact ⟨_, _, _, h.g2, rfl, rfl, LAt.nil⟩
    | 1, _ => exact ⟨_, _, _, h.g2, rfl, rfl, ints1 (by omega) h.g1⟩
  · match i, hi with
    | 0, _ => exact ⟨_, _, _, h.g3, rfl, rfl, rfl, LAt.nil⟩
  · match i, hi with
    | 0, _ => exact ⟨_, _, _, _, h.p7, rfl, rfl, rfl, rfl, LAt.nil, LAt.mk rfl (by omega) fun i hi => by
        match i, hi with
        | 0, _ => exact ⟨_, _, _, _, h.g6, rfl, rfl, LAt.mk rfl (by omega) fun i hi => by
            match i, hi with
            | 0, _ => exact CellAt.one h.g4 rfl, LAt.mk rfl (by omega) fun i hi => by
            match i, hi with
            | 0, _ => exact InsAt.plain h.p10 (nine rfl rfl rfl rfl rfl rfl rfl rfl rfl) rfl rfl rfl
            | 1, _ => exact call_at h.p10 (nine rfl rfl rfl rfl rfl rfl rfl rfl rfl) (by omega) h.p8
            | 2, _ => exact InsAt.plain h.p10 (nine rfl rfl rfl rfl rfl rfl rfl rfl rfl) rfl rfl rfl
            | 3, _ => exact call_at h.p10 (nine rfl rfl rfl rfl rfl rfl rfl rfl rfl) (by omega) h.p9
            | 4, _ => exact InsAt.plain h.p10 (nine rfl rfl rfl rfl rfl rfl rfl rfl rfl) rfl rfl rfl
            | 5, _ => exact InsAt.plain h.p10 (nine rfl rfl rfl rfl rfl rfl rfl rfl rfl) rfl rfl rfl⟩⟩
    | 1, _ => exact ⟨_, _, _, _, h.p7, rfl, rfl, rfl, rfl, ints1 (by omega) h.p0, LAt.mk rfl (by omega) fun i hi => by
        match i, hi with
        | 0, _ => exact ⟨_, _, _, _, h.p5, rfl, rfl, hinn, LAt.mk rfl (by omega) fun i hi => by
            match i, hi with
            | 0, _ => exact InsAt.plain h.p1 (nine rfl rfl rfl rfl rfl rfl rfl rfl rfl) rfl rfl rfl⟩
        | 1, _ => exact ⟨_, _, _, _, h.p5, rfl, rfl, hinn, LAt.mk rfl (by omega) fun i hi => by
            match i, hi with
            | 0, _ => exact InsAt.plain h.p3 (nine rfl rfl rfl rfl rfl rfl rfl rfl rfl) rfl rfl rfl
            | 1, _ => exact InsAt.plain h.p3 (nine rfl rfl rfl rfl rfl rfl rfl rfl rfl) rfl rfl rfl
            | 2, _ => exact call_at h.p3 (nine rfl rfl rfl rfl rfl rfl rfl rfl rfl) (by omega) h.p2
            | 3, _ => exact InsAt.plain h.p3 (nine rfl rfl rfl rfl rfl rfl rfl rfl rfl) rfl rfl rfl⟩
        | 2, _ => exact ⟨_, _, _, _, h.p5, rfl, rfl, hinn, LAt.mk rfl (by omega) fun i hi => by
            match i, hi with
            | 0, _ => exact InsAt.plain h.p4 (nine rfl rfl rfl rfl rfl rfl rfl rfl rfl) rfl rfl rfl⟩⟩
end
end Go.Proofs.YtchlbfmjnhgpgaaGreat.Idl
namespace Go.Proofs.YtchlbfmjnhgpgaaGreat.Idl
open Go
set_option maxHeartbeats 8000000
set_option maxRecDepth 100000
set_option linter.unusedSimpArgs false
theorem ltn {x p k n : Nat} (h : x < p) (e : n = p + k) : x < n := by omega
theorem ltk {p k j n : Nat} (e : n = p + j) (h : k < j) : p + k < n := by omega
theorem ltk0 {p j n : Nat} (e : n = p + j) (h : 0 < j) : p < n := by omega
theorem ltm {m p k : Nat} (h : m + 9 < p) (hk : k < 9) : m + k < p := by omega
theorem nem {m k j : Nat} (h : k ≠ j) : m + k ≠ m + j := by omega
theorem ltpk {x p k j : Nat} (h : x < p + j) (hk : j ≤ k) : x < p + k := by omega
theorem ltp0 {x p k : Nat} (h : x < p) : x < p + k := by omega
theorem nep {p m k j : Nat} (h : m + 9 < p) (hj : j ≤ 9) : p + k ≠ m + j := by omega
theorem lta {p k j : Nat} (h : k < j) : p + k < p + j := by omega
/-- The memories from the rows of numbers on. -/
structure DeepHeap (H2 : IH) (m p d S ib ic : Nat) (A1 A2 A3 A4 A5 A6 A7 A8 A9 B1 B2 B3 G : IH) : Prop where
  eA1 : A1 = H2.push (.cells [.int .i64 0] 3 false)
  nA1 : A1.next = p + 1
  eA2 : A2 = A1.push (.cells (insC (ins 19 0 0 1 2 0)) 30 false)
  nA2 : A2.next = p + 2
  eA3 : A3 = A2.push (.cells [.int .i64 0] 3 false)
  nA3 : A3.next = p + 3
  eA4 : A4 = A3.push (.cells (insC (ins 1 1 0 0 0 1) ++ (insC (ins 4 0 0 1 0 2) ++ (callC (p + 2) ++ insC (ins 22 0 0 0 0 0)))) 30 false)
  nA4 : A4.next = p + 4
  eA5 : A5 = A4.push (.cells (insC (ins 22 0 0 0 0 0)) 30 false)
  nA5 : A5.next = p + 5
  eA6 : A6 = A5.push (.cells [.slice (some ⟨ib, 0, none⟩) S ic, .slice (some ⟨p + 1, 0, none⟩) 1 1, .slice (some ⟨ib, 0, none⟩) S ic, .slice (some ⟨p + 3, 0, none⟩) 4 4, .slice (some ⟨ib, 0, none⟩) S ic, .slice (some ⟨p + 4, 0, none⟩) 1 1] 56 false)
  nA6 : A6.next = p + 6
  eA7 : A7 = A6.push (.cells [.slice (some ⟨p, 0, none⟩) 1 1, .int .i64 0, .int .i64 (S : Int), .slice (some ⟨p + 5, 0, none⟩) 3 3] 59 false)
  nA7 : A7.next = p + 7
  eA8 : A8 = A7.push (.cells [.slice none 0 0, .int .i64 0, .int .i64 1, .slice (some ⟨m + 6, 0, none⟩) 1 1, .slice (some ⟨p, 0, none⟩) 1 1, .int .i64 0, .int .i64 (S : Int), .slice (some ⟨p + 5, 0, none⟩) 3 3] 59 false)
  nA8 : A8.next = p + 8
  eA9 : A9 = A8.set (m + 8) (.cells [.slice (some ⟨m + 2, 0, none⟩) 2 2, .slice (some ⟨m + 3, 0, none⟩) 1 1, .slice none 0 0, .slice none 0 0, .slice (some ⟨p + 7, 0, none⟩) 2 capU, .int .i64 0, .int .i64 0] 27 false)
  nA9 : A9.next = p + 8
  eB1 : B1 = A9.push (.cells [.int .i64 0] 3 false)
  nB1 : B1.next = p + 9
  eB2 : B2 = B1.push (.cells [.int .i64 0] 3 false)
  nB2 : B2.next = p + 10
  eB3 : B3 = B2.push (.cells (insC (ins 1 0 0 0 0 (d : Int)) ++ (callC (p + 8) ++ (insC (ins 1 0 0 0 0 2) ++ (callC (p + 9) ++ (insC (ins 16 0 0 0 0 0) ++ insC (ins 22 0 0 0 0 0)))))) 30 false)
  nB3 : B3.next = p + 11
  eG : G = B3.set (m + 6) (.cells [.slice (some ⟨m + 4, 0, none⟩) 1 1, .slice (some ⟨p + 10, 0, none⟩) 6 6] 56 false)
  nG : G.next = p + 11
  g6A : A7.get (p + 6) = some (.cells [.slice (some ⟨p, 0, none⟩) 1 1, .int .i64 0, .int .i64 (S : Int), .slice (some ⟨p + 5, 0, none⟩) 3 3] 59 false)
  gA8 : A8.get (m + 8) = some (.cells [.slice (some ⟨m + 2, 0, none⟩) 2 2, .slice (some ⟨m + 3, 0, none⟩) 1 1, .slice none 0 0, .slice none 0 0, .slice (some ⟨m + 7, 0, none⟩) 1 1, .int .i64 0, .int .i64 0] 27 false)
  gA9 : A9.get (m + 8) = some (.cells [.slice (some ⟨m + 2, 0, none⟩) 2 2, .slice (some ⟨m + 3, 0, none⟩) 1 1, .slice none 0 0, .slice none 0 0, .slice (some ⟨p + 7, 0, none⟩) 2 capU, .int .i64 0, .int .i64 0] 27 false)
  gA97 : A9.get (p + 7) = some (.cells [.slice none 0 0, .int .i64 0, .int .i64 1, .slice (some ⟨m + 6, 0, none⟩) 1 1, .slice (some ⟨p, 0, none⟩) 1 1, .int .i64 0, .int .i64 (S : Int), .slice (some ⟨p + 5, 0, none⟩) 3 3] 59 false)
  gB6 : B3.get (m + 6) = some (.cells [.slice (some ⟨m + 4, 0, none⟩) 1 1, .slice (some ⟨m + 5, 0, none⟩) 2 2] 56 false)
  gG : G.get (m + 8) = some (.cells [.slice (some ⟨m + 2, 0, none⟩) 2 2, .slice (some ⟨m + 3, 0, none⟩) 1 1, .slice none 0 0, .slice none 0 0, .slice (some ⟨p + 7, 0, none⟩) 2 capU, .int .i64 0, .int .i64 0] 27 false)
  g7 : A7.get (m + 7) = some (.cells [.slice none 0 0, .int .i64 0, .int .i64 1, .slice (some ⟨m + 6, 0, none⟩) 1 1] 59 false)
  oG : ∀ x, x < p → x ≠ m + 6 → x ≠ m + 8 → G.get x = H2.get x
  oB : ∀ x, x < p + 8 → x ≠ m + 6 → G.get x = A9.get x
  oA : ∀ x, x < p + 7 → x ≠ m + 8 → A9.get x = A7.get x
theorem deep_heap {H2 : IH} {m p d S ib ic : Nat} (hp : H2.next = p) (npm : m + 9 < p) (l : LeastAt H2 m (some ⟨m + 5, 0, none⟩) 2 2)
    (gi : H2.get (m + 8) = some (.cells [.slice (some ⟨m + 2, 0, none⟩) 2 2, .slice (some ⟨m + 3, 0, none⟩) 1 1, .slice none 0 0, .slice none 0 0, .slice (some ⟨m + 7, 0, none⟩) 1 1, .int .i64 0, .int .i64 0] 27 false)) :
    ∃ A1 A2 A3 A4 A5 A6 A7 A8 A9 B1 B2 B3 G, DeepHeap H2 m p d S ib ic A1 A2 A3 A4 A5 A6 A7 A8 A9 B1 B2 B3 G := by
  obtain ⟨A1, hA1⟩ : ∃ A1, A1 = H2.push (.cells [.int .i64 0] 3 false) := ⟨_, rfl⟩
  have nA1 : A1.next = p + 1 := by rw [hA1]; simp [hp]
  obtain ⟨A2, hA2⟩ : ∃ A2, A2 = A1.push (.cells (insC (ins 19 0 0 1 2 0)) 30 false) := ⟨_, rfl⟩
  have nA2 : A2.next = p + 2 := by rw [hA2]; simp [nA1]
  obtain ⟨A3, hA3⟩ : ∃ A3, A3 = A2.push (.cells [.int .i64 0] 3 false) := ⟨_, rfl⟩
  have nA3 : A3.next = p + 3 := by rw [hA3]; simp [nA2]
  obtain ⟨A4, hA4⟩ : ∃ A4, A4 = A3.push (.cells (insC (ins 1 1 0 0 0 1) ++ (insC (ins 4 0 0 1 0 2) ++ (callC (p + 2) ++ insC (ins 22 0 0 0 0 0)))) 30 false) := ⟨_, rfl⟩
  have nA4 : A4.next = p + 4 := by rw [hA4]; simp [nA3]
  obtain ⟨A5, hA5⟩ : ∃ A5, A5 = A4.push (.cells (insC (ins 22 0 0 0 0 0)) 30 false) := ⟨_, rfl⟩
  have nA5 : A5.next = p + 5 := by rw [hA5]; simp [nA4]
  obtain ⟨A6, hA6⟩ : ∃ A6, A6 = A5.push (.cells [.slice (some ⟨ib, 0, none⟩) S ic, .slice (some ⟨p + 1, 0, none⟩) 1 1, .slice (some ⟨ib, 0, none⟩) S ic, .slice (some ⟨p + 3, 0, none⟩) 4 4, .slice (some ⟨ib, 0, none⟩) S ic, .slice (some ⟨p + 4, 0, none⟩) 1 1] 56 false) := ⟨_, rfl⟩
  have nA6 : A6.next = p + 6 := by rw [hA6]; simp [nA5]
  obtain ⟨A7, hA7⟩ : ∃ A7, A7 = A6.push (.cells [.slice (some ⟨p, 0, none⟩) 1 1, .int .i64 0, .int .i64 (S : Int), .slice (some ⟨p + 5, 0, none⟩) 3 3] 59 false) := ⟨_, rfl⟩
  have nA7 : A7.next = p + 7 := by rw [hA7]; simp [nA6]
  obtain ⟨A8, hA8⟩ : ∃ A8, A8 = A7.push (.cells [.slice none 0 0, .int .i64 0, .int .i64 1, .slice (some ⟨m + 6, 0, none⟩) 1 1, .slice (some ⟨p, 0, none⟩) 1 1, .int .i64 0, .int .i64 (S : Int), .slice (some ⟨p + 5, 0, none⟩) 3 3] 59 false) := ⟨_, rfl⟩
  have nA8 : A8.next = p + 8 := by rw [hA8]; simp [nA7]
  obtain ⟨A9, hA9⟩ : ∃ A9, A9 = A8.set (m + 8) (.cells [.slice (some ⟨m + 2, 0, none⟩) 2 2, .slice (some ⟨m + 3, 0, none⟩) 1 1, .slice none 0 0, .slice none 0 0, .slice (some ⟨p + 7, 0, none⟩) 2 capU, .int .i64 0, .int .i64 0] 27 false) := ⟨_, rfl⟩
  have nA9 : A9.next = p + 8 := by rw [hA9]; simp [nA8]
  obtain ⟨B1, hB1⟩ : ∃ B1, B1 = A9.push (.cells [.int .i64 0] 3 false) := ⟨_, rfl⟩
  have nB1 : B1.next = p + 9 := by rw [hB1]; simp [nA9]
  obtain ⟨B2, hB2⟩ : ∃ B2, B2 = B1.push (.cells [.int .i64 0] 3 false) := ⟨_, rfl⟩
  have nB2 : B2.next = p + 10 := by rw [hB2]; simp [nB1]
  obtain ⟨B3, hB3⟩ : ∃ B3, B3 = B2.push (.cells (insC (ins 1 0 0 0 0 (d : Int)) ++ (callC (p + 8) ++ (insC (ins 1 0 0 0 0 2) ++ (callC (p + 9) ++ (insC (ins 16 0 0 0 0 0) ++ insC (ins 22 0 0 0 0 0)))))) 30 false) := ⟨_, rfl⟩
  have nB3 : B3.next = p + 11 := by rw [hB3]; simp [nB2]
  obtain ⟨G, hG⟩ : ∃ G, G = B3.set (m + 6) (.cells [.slice (some ⟨m + 4, 0, none⟩) 1 1, .slice (some ⟨p + 10, 0, none⟩) 6 6] 56 false) := ⟨_, rfl⟩
  have nG : G.next = p + 11 := by rw [hG]; simp [nB3]
  have oA7 : ∀ x, x < p → A7.get x = H2.get x := fun x hx => by
    rw [hA7, IH.get_push_other _ _ _ (ltn hx nA6), hA6, IH.get_push_other _ _ _ (ltn hx nA5), hA5, IH.get_push_other _ _ _ (ltn hx nA4), hA4, IH.get_push_other _ _ _ (ltn hx nA3), hA3, IH.get_push_other _ _ _ (ltn hx nA2), hA2, IH.get_push_other _ _ _ (ltn hx nA1), hA1, IH.get_push_other _ _ _ (ltn (k := 0) hx hp)]
  have oA : ∀ x, x < p + 7 → x ≠ m + 8 → A9.get x = A7.get x := fun x hx hne => by rw [hA9, IH.get_set, if_neg hne, hA8, IH.get_push_other _ _ _ (ltn (k := 0) hx nA7)]
  have oB3 : ∀ x, x < p + 8 → B3.get x = A9.get x := fun x hx => by
    rw [hB3, IH.get_push_other _ _ _ (ltn (k := 2) hx nB2), hB2, IH.get_push_other _ _ _ (ltn (k := 1) hx nB1), hB1, IH.get_push_other _ _ _ (ltn (k := 0) hx nA9)]
  have oB : ∀ x, x < p + 8 → x ≠ m + 6 → G.get x = A9.get x := fun x hx hne => by rw [hG, IH.get_set, if_neg hne, oB3 x hx]
  have oG : ∀ x, x < p → x ≠ m + 6 → x ≠ m + 8 → G.get x = H2.get x := fun x hx h6 h8 => (oB x (ltp0 hx) h6).trans ((oA x (ltp0 hx) h8).trans (oA7 x hx))
  have g6A : A7.get (p + 6) = some (.cells [.slice (some ⟨p, 0, none⟩) 1 1, .int .i64 0, .int .i64 (S : Int), .slice (some ⟨p + 5, 0, none⟩) 3 3] 59 false) := by rw [hA7, ← nA6, IH.get_push_same]
  have l8 : m + 8 < p := ltm npm (by decide)
  have l6 : m + 6 < p := ltm npm (by decide)
  have l7 : m + 7 < p := ltm npm (by decide)
  have n86 : m + 8 ≠ m + 6 := nem (by decide)
  have n68 : m + 6 ≠ m + 8 := nem (by decide)
  have n78 : p + 7 ≠ m + 8 := nep npm (by decide)
  have gA8 : A8.get (m + 8) = some (.cells [.slice (some ⟨m + 2, 0, none⟩) 2 2, .slice (some ⟨m + 3, 0, none⟩) 1 1, .slice none 0 0, .slice none 0 0, .slice (some ⟨m + 7, 0, none⟩) 1 1, .int .i64 0, .int .i64 0] 27 false) := by rw [hA8, IH.get_push_other _ _ _ (ltn l8 nA7), oA7 _ l8]; exact gi
  have gA9 : A9.get (m + 8) = some (.cells [.slice (some ⟨m + 2, 0, none⟩) 2 2, .slice (some ⟨m + 3, 0, none⟩) 1 1, .slice none 0 0, .slice none 0 0, .slice (some ⟨p + 7, 0, none⟩) 2 capU, .int .i64 0, .int .i64 0] 27 false) := by rw [hA9, IH.get_set, if_pos rfl]
  have gA97 : A9.get (p + 7) = some (.cells [.slice none 0 0, .int .i64 0, .int .i64 1, .slice (some ⟨m + 6, 0, none⟩) 1 1, .slice (some ⟨p, 0, none⟩) 1 1, .int .i64 0, .int .i64 (S : Int), .slice (some ⟨p + 5, 0, none⟩) 3 3] 59 false) := by rw [hA9, IH.get_set, if_neg n78, hA8, ← nA7, IH.get_push_same]
  have gB6 : B3.get (m + 6) = some (.cells [.slice (some ⟨m + 4, 0, none⟩) 1 1, .slice (some ⟨m + 5, 0, none⟩) 2 2] 56 false) := by rw [oB3 _ (ltp0 l6), oA _ (ltp0 l6) n68, oA7 _ l6]; exact l.g6
  have gG : G.get (m + 8) = some (.cells [.slice (some ⟨m + 2, 0, none⟩) 2 2, .slice (some ⟨m + 3, 0, none⟩) 1 1, .slice none 0 0, .slice none 0 0, .slice (some ⟨p + 7, 0, none⟩) 2 capU, .int .i64 0, .int .i64 0] 27 false) := (oB (m + 8) (ltp0 l8) n86).trans gA9
  have g7 : A7.get (m + 7) = some (.cells [.slice none 0 0, .int .i64 0, .int .i64 1, .slice (some ⟨m + 6, 0, none⟩) 1 1] 59 false) := (oA7 _ l7).trans l.g7
  exact ⟨A1, A2, A3, A4, A5, A6, A7, A8, A9, B1, B2, B3, G, ⟨hA1, nA1, hA2, nA2, hA3, nA3, hA4, nA4, hA5, nA5, hA6, nA6, hA7, nA7, hA8, nA8, hA9, nA9, hB1, nB1, hB2, nB2, hB3, nB3, hG, nG, g6A, gA8, gA9, gA97, gB6, gG, g7, oG, oB, oA⟩⟩
theorem DeepHeap.at_ {H2 : IH} {m p d S s ib ic : Nat} {A1 A2 A3 A4 A5 A6 A7 A8 A9 B1 B2 B3 G : IH} (h : DeepHeap H2 m p d S ib ic A1 A2 A3 A4 A5 A6 A7 A8 A9 B1 B2 B3 G) (hp : H2.next = p) (npm : m + 9 < p) (l : LeastAt H2 m (some ⟨m + 5, 0, none⟩) 2 2)
    (hs : S = s + 2) (hib : ib < p) (hm : m + 9 ≤ ib) (gib : H2.get ib = some (.cells (intsC (deepInn s)) 3 false)) : DeepAt G m p (d : Int) s ib ic := by
  have q : ∀ k, k < 7 → G.get (p + k) = A7.get (p + k) := fun k hk => by rw [h.oB _ (lta (Nat.lt_succ_of_lt hk)) (nep npm (by decide)), h.oA _ (lta hk) (nep npm (by decide))]
  have hSs : (S : Int) = (s : Int) + 2 := by omega
  refine ⟨⟨npm, by rw [h.nG]; exact Nat.le_refl _, hib⟩, (h.oG (m + 1) (ltm npm (by decide)) (nem (by decide)) (nem (by decide))).trans l.g1, (h.oG (m + 2) (ltm npm (by decide)) (nem (by decide)) (nem (by decide))).trans l.g2, (h.oG (m + 3) (ltm npm (by decide)) (nem (by decide)) (nem (by decide))).trans l.g3, (h.oG (m + 4) (ltm npm (by decide)) (nem (by decide)) (nem (by decide))).trans l.g4, by rw [h.eG, IH.get_set, if_pos rfl], (h.oG ib hib (fun e => by omega) (fun e => by omega)).trans gib, ?_, ?_, ?_, ?_, ?_, ?_, ?_, ?_, ?_, ?_⟩
  · rw [show p = p + 0 from rfl, q 0 (by decide), h.eA7, IH.get_push_other _ _ _ (ltk h.nA6 (by decide)), h.eA6, IH.get_push_other _ _ _ (ltk h.nA5 (by decide)), h.eA5, IH.get_push_other _ _ _ (ltk h.nA4 (by decide)), h.eA4, IH.get_push_other _ _ _ (ltk h.nA3 (by decide)), h.eA3, IH.get_push_other _ _ _ (ltk h.nA2 (by decide)), h.eA2, IH.get_push_other _ _ _ (ltk h.nA1 (by decide)), h.eA1, show p + 0 = H2.next from hp.symm, IH.get_push_same]
  · rw [q 1 (by decide), h.eA7, IH.get_push_other _ _ _ (ltk h.nA6 (by decide)), h.eA6, IH.get_push_other _ _ _ (ltk h.nA5 (by decide)), h.eA5, IH.get_push_other _ _ _ (ltk h.nA4 (by decide)), h.eA4, IH.get_push_other _ _ _ (ltk h.nA3 (by decide)), h.eA3, IH.get_push_other _ _ _ (ltk h.nA2 (by decide)), h.eA2, ← h.nA1, IH.get_push_same]
  · rw [q 2 (by decide), h.eA7, IH.get_push_other _ _ _ (ltk h.nA6 (by decide)), h.eA6, IH.get_push_other _ _ _ (ltk h.nA5 (by decide)), h.eA5, IH.get_push_other _ _ _ (ltk h.nA4 (by decide)), h.eA4, IH.get_push_other _ _ _ (ltk h.nA3 (by decide)), h.eA3, ← h.nA2, IH.get_push_same]
  · rw [q 3 (by decide), h.eA7, IH.get_push_other _ _ _ (ltk h.nA6 (by decide)), h.eA6, IH.get_push_other _ _ _ (ltk h.nA5 (by decide)), h.eA5, IH.get_push_other _ _ _ (ltk h.nA4 (by decide)), h.eA4, ← h.nA3, IH.get_push_same]
  · rw [q 4 (by decide), h.eA7, IH.get_push_other _ _ _ (ltk h.nA6 (by decide)), h.eA6, IH.get_push_other _ _ _ (ltk h.nA5 (by decide)), h.eA5, ← h.nA4, IH.get_push_same]
  · rw [q 5 (by decide), h.eA7, IH.get_push_other _ _ _ (ltk h.nA6 (by decide)), h.eA6, ← h.nA5, IH.get_push_same, hs]
  · rw [h.oB _ (lta (by decide)) (nep npm (by decide)), h.gA97, hSs]
  · rw [h.eG, IH.get_set, if_neg (nep npm (by decide)), h.eB3, IH.get_push_other _ _ _ (ltk h.nB2 (by decide)), h.eB2, IH.get_push_other _ _ _ (ltk h.nB1 (by decide)), h.eB1, ← h.nA9, IH.get_push_same]
  · rw [h.eG, IH.get_set, if_neg (nep npm (by decide)), h.eB3, IH.get_push_other _ _ _ (ltk h.nB2 (by decide)), h.eB2, ← h.nB1, IH.get_push_same]
  · rw [h.eG, IH.get_set, if_neg (nep npm (by decide)), h.eB3, ← h.nB2, IH.get_push_same]
end Go.Proofs.YtchlbfmjnhgpgaaGreat.Idl
namespace Go.Proofs.YtchlbfmjnhgpgaaGreat.Idl
open Go
set_option maxHeartbeats 8000000
set_option maxRecDepth 100000
set_option linter.unusedSimpArgs false
/-- How deep it goes, by the need of stack. -/
theorem deep_key (d s st x P : Nat) (hd : d ≤ 300) (hs : s ≤ 18) (hx : x = max 2 d) (hP : P = (1 + x) * (s + 4)) :
    ∃ k σ, runOut .none (deepIm d s) ⟨[], 5000, 0, st, []⟩ = some (k, σ) ∧ ((3 + P ≤ st ∧ k = 1 ∧ σ.out = [0]) ∨ (st < 3 + P ∧ k = 5 ∧ σ.out = [])) := by
  obtain ⟨d1, d2⟩ := deep_all d s st hd hs
  rw [← hx, ← hP] at d1 d2
  by_cases h : 3 + P ≤ st
  · obtain ⟨σ, h1, h2⟩ := d1 h; exact ⟨1, σ, h1, .inl ⟨h, rfl, h2⟩⟩
  · obtain ⟨σ, h1, h2⟩ := d2 (by omega); exact ⟨5, σ, h1, .inr ⟨by omega, rfl, h2⟩⟩
theorem deep_run {G : IH} {m p d s st ib ic x P : Nat} (hAt : DeepAt G m p (d : Int) s ib ic) (hd : d ≤ 300) (hs : s ≤ 18) (hst : st ≤ 3000) (hx : x = max 2 d) (hP : P = (1 + x) * (s + 4)) :
    ∃ (k : Int) (R : IH) (oa : Option Addr) (on oc : Nat) (ex : ByteArray) (n1 n2 : Int), cal J okAll 19 #[(deepU m p).val (deepIm d s), scrV (none, 0, 0) 5000 0 (st : Int) (none, 0, 0)] G = some (.ret (.agg #[.int .i64 k, .slice oa on oc, .string ex, .int .i64 n1, .int .i64 n2]), R) ∧
      ∀ Q : IH, Fr R.next R Q → ((3 + P ≤ st ∧ k = 1 ∧ iconvert J 34 9 (.slice oa on oc) Q = some (.string ⟨#[0]⟩, Q)) ∨ (st < 3 + P ∧ k = 5 ∧ on = 0)) := by
  obtain ⟨k, σ, hr, hy⟩ := deep_key d s st x P hd hs hx hP
  have e3 : clampN (st : Int) 65536 = st := by simp [clampN]; omega
  obtain ⟨R, ov, r1, fr, o1, ob⟩ := c_Run (R := .none) (fun lo => Rest.none_ok lo _) (deep_imv hAt) (Nat.le_refl _) (deep_sm d s hd) (iv := (none, 0, 0)) (cv := (none, 0, 0)) (f := 5000) (h := 0) (st := (st : Int)) (s := ⟨[], 5000, 0, st, []⟩) LAt.nil LAt.nil ⟨by simp, by simp⟩ (by simp [clampN]) (by simp [clampN]) e3.symm hr
  obtain ⟨oa, on, oc, hov, hon⟩ : ∃ oa on oc, ov = .slice oa on oc ∧ on = σ.out.length := by
    rcases o1 with ⟨e, e2⟩ | ⟨b, e, _⟩
    · exact ⟨_, _, _, e, by rw [e2]; rfl⟩
    · exact ⟨_, _, _, e, rfl⟩
  subst hov
  refine ⟨k, R, oa, on, oc, σ.exn, σ.steps, σ.swept, r1, fun Q fQ => ?_⟩
  rcases hy with ⟨h1, h2, h3⟩ | ⟨h1, h2, h3⟩
  · have ov2 := o1.same (H' := Q) fun z hm => fQ.2 z (ob z hm).2
    have v1 := conv_out ov2 fun z hm => Nat.lt_of_lt_of_le (ob z hm).2 fQ.1
    rw [h3] at v1
    exact .inl ⟨h1, h2, v1⟩
  · exact .inr ⟨h1, h2, by rw [hon, h3]; rfl⟩
end Go.Proofs.YtchlbfmjnhgpgaaGreat.Idl
namespace Go.Proofs.YtchlbfmjnhgpgaaGreat.Idl
open Go
set_option maxHeartbeats 8000000
set_option maxRecDepth 100000
set_option linter.unusedSimpArgs false
section
variable {H : IH}
/-- The three parameters, brought into their bounds. -/
theorem deep_par (d0 st0 s0 : Int) : ∃ d st S s : Nat, (∃ A, (if 300 < d0 then (300 : Int) else d0) = A ∧ (if 0 < A then A else 0) = (d : Int)) ∧ (∃ A, (if 3000 < st0 then (3000 : Int) else st0) = A ∧ (if 0 < A then A else 0) = (st : Int)) ∧ (∃ A, (if 20 < s0 then (20 : Int) else s0) = A ∧ (if 2 < A then A else 2) = (S : Int)) ∧
    d ≤ 300 ∧ st ≤ 3000 ∧ S = s + 2 ∧ s ≤ 18 := by
  obtain ⟨d, h1, h2⟩ : ∃ d : Nat, (∃ A, (if 300 < d0 then (300 : Int) else d0) = A ∧ (if 0 < A then A else 0) = (d : Int)) ∧ d ≤ 300 := by
    refine ⟨(if 300 < d0 then (300 : Int) else d0).toNat, ⟨_, rfl, ?_⟩, ?_⟩ <;> split <;> omega
  obtain ⟨st, h3, h4⟩ : ∃ d : Nat, (∃ A, (if 3000 < st0 then (3000 : Int) else st0) = A ∧ (if 0 < A then A else 0) = (d : Int)) ∧ d ≤ 3000 := by
    refine ⟨(if 3000 < st0 then (3000 : Int) else st0).toNat, ⟨_, rfl, ?_⟩, ?_⟩ <;> split <;> omega
  obtain ⟨s, h5, h6⟩ : ∃ s : Nat, (∃ A, (if 20 < s0 then (20 : Int) else s0) = A ∧ (if 2 < A then A else 2) = ((s + 2 : Nat) : Int)) ∧ s ≤ 18 := by
    refine ⟨((if 20 < s0 then (20 : Int) else s0) - 2).toNat, ⟨_, rfl, ?_⟩, ?_⟩ <;> split <;> omega
  exact ⟨d, st, s + 2, s, h1, h3, h5, h2, h4, rfl, h6⟩
theorem c_VmDeep (d0 st0 s0 : Int) : ∃ H', cal J okAll 13 #[.int .i64 d0, .int .i64 st0, .int .i64 s0] H = some (.ret (.bool true), H') := by
  rw [cal13 _ _ (by simp)]
  obtain ⟨d, st, S, s, ⟨A, hA, hd⟩, ⟨B, hB, hst⟩, ⟨C, hC, hS⟩, hd3, hst3, hSs, hs18⟩ := deep_par d0 st0 s0
  obtain ⟨m, hmn⟩ : ∃ m, m = H.next := ⟨_, rfl⟩
  obtain ⟨H1, c1, f1, n1, l1⟩ := c_Least (H := H)
  rw [← hmn] at c1 n1 l1 f1
  obtain ⟨G1, hG1⟩ : ∃ G1, G1 = ((H1.push (.cells [.slice none 0 0, .slice none 0 0, .slice none 0 0, .slice none 0 0, .slice none 0 0, .int .i64 0, .int .i64 0] 27 false)).set (m + 8) (.cells ((leastU m).cells (leastIm [])) 27 false)) := ⟨_, rfl⟩
  have nG1 : G1.next = m + 9 := by rw [hG1]; simp [n1]
  have fG1 : Fr (m + 8) H1 G1 := by rw [hG1]; exact ((Fr.refl _ _).push (Nat.le_of_eq n1.symm) _).set (Nat.le_refl _) _
  have gi1 : G1.get (m + 8) = some (.cells ((leastU m).cells (leastIm [])) 27 false) := by rw [hG1, IH.get_set, if_pos rfl]
  have l2 := l1.fr fG1 (Nat.le_refl _)
  obtain ⟨G2, hG2⟩ : ∃ G2, G2 = G1.push (.cells [.int .i64 0] 3 false) := ⟨_, rfl⟩
  have nG2 : G2.next = m + 10 := by rw [hG2]; simp [nG1]
  have fG2 : Fr G1.next G1 G2 := by rw [hG2]; exact (Fr.refl _ _).push (Nat.le_refl _) _
  have in2 : InnAt G2 G1.next (.slice (some ⟨m + 9, 0, none⟩) 1 1) (0 :: List.replicate 0 (-1)) := ⟨m + 9, Nat.le_of_eq nG1, by rw [nG2]; exact Nat.lt_succ_self _, by rw [hG2, ← nG1, IH.get_push_same]; rfl, .inl ⟨rfl, rfl⟩⟩
  simp only [ImV.val, ImV.cells, leastU, leastIm, Int.cast_ofNat_Int] at c1 hG1 gi1
  simp [C13, regsOf, fin, iresult1, minV_int, maxV_int, hA, hd, hB, hst, hC, hS, c1, inew, n1, Value.cells, istore, plain1, overlay, IH.get_push, IH.get_set, ← hG1, iparts, bsi1, nG1, ← hG2]
  clear hA hd hB hst hC hS hmn c1 hG1 hG2
  generalize hX : run J okAll (.loop L13_0) _ _ = X
  obtain ⟨T1, hT, a0, a1, a2, a7, a8⟩ : ∃ T1, run J okAll (.loop L13_0) T1 G2 = X ∧ T1.at 0 = .int .i64 (d : Int) ∧ T1.at 1 = .int .i64 (st : Int) ∧ T1.at 2 = .int .i64 (S : Int) ∧ T1.at 7 = ptrV (m + 8) ∧ T1.at 8 = .slice (some ⟨m + 9, 0, none⟩) 1 1 := ⟨_, hX, by simp, by simp, by simp, by simp [ptrV], by simp⟩
  clear hX
  obtain ⟨T2, H2, u2, r2, f2, in3, k2, b8⟩ := loop13 S (by omega) G1 (fun t => T1.at t) (S - 1) 0 T1 G2 _ (by omega) fG2 in2 (fun t _ _ => rfl) a8 a2
  have r2 := hT.symm.trans r2
  subst r2
  rw [show (0 :: List.replicate (0 + (S - 1)) (-1) : List Int) = deepInn s by unfold deepInn; congr 2; omega] at in3
  obtain ⟨ib, ic, hu2, i1, i2, i3⟩ := in3.slice
  rw [show (deepInn s).length = S by simp [deepInn]; omega] at hu2
  rw [hu2] at b8
  have b0 := (k2 0 (by omega) (by omega)).trans a0
  have b1 := (k2 1 (by omega) (by omega)).trans a1
  have b2 := (k2 2 (by omega) (by omega)).trans a2
  have b7 := (k2 7 (by omega) (by omega)).trans a7
  clear k2 a0 a1 a2 a7 a8 hT in2 in3 fG2 hu2 fG1
  obtain ⟨p, hp⟩ : ∃ p, H2.next = p := ⟨_, rfl⟩
  rw [nG1] at f2 i1
  rw [hp] at i2
  have npm : m + 9 < p := by omega
  have l3 := l2.fr f2 (Nat.le_succ _)
  have gi2 := (f2.2 (m + 8) (Nat.lt_succ_self _)).trans gi1
  clear l1 l2 f1 n1 nG1 nG2 f2 gi1
  obtain ⟨A1, A2, A3, A4, A5, A6, A7, A8, A9, B1, B2, B3, G, h⟩ := deep_heap (d := d) (S := S) (ib := ib) (ic := ic) hp npm l3 gi2
  have hAt := h.at_ hp npm l3 hSs i2 i1 i3
  obtain ⟨x, hx⟩ : ∃ x : Nat, x = max 2 d := ⟨_, rfl⟩
  obtain ⟨P, hP⟩ : ∃ P : Nat, P = (1 + x) * (s + 4) := ⟨_, rfl⟩
  have hPb : P ≤ 301 * 22 := by rw [hP]; exact Nat.mul_le_mul (by omega) (by omega)
  obtain ⟨k, R, oa, on, oc, ex, n1, n2, r1, hq⟩ := deep_run hAt hd3 hs18 hst3 hx hP
  have afn := app_full st_func (H := A7) (xb := p + 6) (o := 0) (m := 1) (c := 1) (b := m + 7) (len := 1) (cap := 1) (new := [.slice (some ⟨p, 0, none⟩) 1 1, .int .i64 0, .int .i64 (S : Int), .slice (some ⟨p + 5, 0, none⟩) 3 3]) (by simp [h.g6A]) (by simp) (by omega) (by omega) h.g7 (by simp) (by simp [plain1]) (by decide) (by omega)
  rw [h.nA7] at afn
  obtain ⟨Q, hQ⟩ : ∃ Q, Q = (R.push (.cells [.int .i64 0, .slice none 0 0, .string ⟨#[]⟩, .int .i64 0, .int .i64 0] 44 false)).set R.next (.cells [.int .i64 k, .slice oa on oc, .string ex, .int .i64 n1, .int .i64 n2] 44 false) := ⟨_, rfl⟩
  have fQ : Fr R.next R Q := by rw [hQ]; exact ((Fr.refl _ _).push (Nat.le_refl _) _).set (Nat.le_refl _) _
  have gQ : Q.get R.next = some (.cells [.int .i64 k, .slice oa on oc, .string ex, .int .i64 n1, .int .i64 n2] 44 false) := by rw [hQ, IH.get_set, if_pos rfl]
  have hq := hq Q fQ
  obtain ⟨L, hl, _⟩ := c_lives (H := Q)
  have w0 : (if (2 : Int) < (d : Int) then (d : Int) else 2) = (x : Int) := by split <;> omega
  have w1 : IntKind.i64.wrap (1 + (x : Int)) = 1 + (x : Int) := by rw [wrapI]; omega
  have w2 : IntKind.i64.wrap ((S : Int) + 2) = (S : Int) + 2 := by rw [wrapI]; omega
  have w3 : IntKind.i64.wrap ((1 + (x : Int)) * ((S : Int) + 2)) = (P : Int) := by
    have e : (1 + (x : Int)) * ((S : Int) + 2) = (P : Int) := by rw [hP, Int.natCast_mul]; congr 1 <;> omega
    rw [e, wrapI]; omega
  have w4 : IntKind.i64.wrap (3 + (P : Int)) = 3 + (P : Int) := by rw [wrapI]; omega
  have hS2 : (s : Int) + 2 = (S : Int) := by omega
  simp only [deepU, deepIm, ImV.val, ImV.cells, Int.cast_ofNat_Int, scrV, slV] at r1
  simp only [ptrV] at b7
  clear hAt l3 hx hP hPb npm i1 i2 hd3 hst3 hSs hs18
  rcases hq with ⟨h1, rfl, v1⟩ | ⟨h1, rfl, rfl⟩
  · have w5 : ((st : Int) < 3 + (P : Int)) = False := by simp only [eq_iff_iff, iff_false]; omega
    simp [b0, b1, b2, b7, b8, gi2, loadT_agg, iparts, bsi1, di034, di015, di035, dicall, bi0, bi05, dsl1, dsl4, dsl6, dsb3, dfn, bsf1, hp, ← h.eA1, h.nA1, ← h.eA2, h.nA2, ← h.eA3, h.nA3, ← h.eA4, h.nA4, ← h.eA5, h.nA5, ← h.eA6, h.nA6, ← h.eA7, h.nA7, bbl, afn, ← h.eA8, h.nA8, istore, Value.cells, plain1, overlay, h.gA8, ← h.eA9, h.nA9, h.gA9, h.gA97, iindexAddr, ← h.eB1, h.nB1, ← h.eB2, h.nB2, ← h.eB3, h.nB3, h.gB6, ← h.eG, h.nG, h.gG, bscr, r1, inew, IH.get_push, IH.get_set, ← hQ, gQ, maxV_int, w0, w1, w2, w3, w4, w5, v1, hl, fin, iresult1]
    done
  · have w5 : ((st : Int) < 3 + (P : Int)) = True := by simp only [eq_iff_iff, iff_true]; omega
    simp [b0, b1, b2, b7, b8, gi2, loadT_agg, iparts, bsi1, di034, di015, di035, dicall, bi0, bi05, dsl1, dsl4, dsl6, dsb3, dfn, bsf1, hp, ← h.eA1, h.nA1, ← h.eA2, h.nA2, ← h.eA3, h.nA3, ← h.eA4, h.nA4, ← h.eA5, h.nA5, ← h.eA6, h.nA6, ← h.eA7, h.nA7, bbl, afn, ← h.eA8, h.nA8, istore, Value.cells, plain1, overlay, h.gA8, ← h.eA9, h.nA9, h.gA9, h.gA97, iindexAddr, ← h.eB1, h.nB1, ← h.eB2, h.nB2, ← h.eB3, h.nB3, h.gB6, ← h.eG, h.nG, h.gG, bscr, r1, inew, IH.get_push, IH.get_set, ← hQ, gQ, maxV_int, w0, w1, w2, w3, w4, w5, hl, fin, iresult1]
    done
end
end Go.Proofs.YtchlbfmjnhgpgaaGreat.Idl
namespace Go.Proofs.YtchlbfmjnhgpgaaGreat
open Go.ChangeShapes Go.WideShapes Go.ChangeAt Go.RowKit
set_option maxRecDepth 100000
theorem own : ownKnob Tryz.prog.godebug = .none := by kernel_rfl
theorem und4 : Tryz.prog.underlying 4 = some .bool := by kernel_rfl
theorem laidOut : laidOutB Tryz.prog = true := by kernel_rfl
namespace Idl
noncomputable def Hst : IH := ⟨Tryz.prog.globals.size, .leaf⟩
theorem start (W : World) : Sim J (Bd.at W.heap.size) (fun b => ⟨b, 0, 0, 0⟩) Hst W := by
  have hg : ∀ b, Hst.get b = none := fun b => rfl
  refine ⟨⟨Nat.le_refl _, fun x hx => by cases hx⟩, fun g h => ⟨h, rfl, rfl⟩, fun b x h => ?_, fun b cs e pr h => ?_, fun b cs e h => ?_, fun b es pr h => ?_, fun b s p h => ?_, fun _ _ => trivial, fun b b' x x' h => ?_, fun b x h => ?_⟩ <;> (rw [hg] at h; cases h)
theorem keptBut_of_below {w w' : World} (h : Go.RowKit.Below w.heap.size w w') (may : MemPlace → Prop) : w.keptBut w' may := by
  have hr := World.keptBut_refl w may
  refine ⟨h.os, h.output, fun i hi => ?_⟩
  rw [h.block i hi]
  exact hr.2.2 i hi
end Idl
end Go.Proofs.YtchlbfmjnhgpgaaGreat
namespace Go.Proofs.YtchlbfmjnhgpgaaGreat
open Go.ChangeShapes Go.WideShapes Go.ChangeAt Go.RowKit
set_option maxRecDepth 100000
theorem func13 : Tryz.prog.funcs[13]? = some Tryz.f13 := by kernel_rfl
theorem params13 : Tryz.f13.params = #[3, 3, 3] := by kernel_rfl
theorem readable13 : ([3, 3, 3].all fun t => Tryz.prog.readableRec t && decide (t < Tryz.prog.types.size)) = true := by kernel_rfl
namespace Idl
theorem law13 {K : Type} (H : IH) (vs : List Value) (ds : List (DataW K)) (h : DatAll J H [3, 3, 3] vs ds) : ∃ H', cal J okAll 13 vs.toArray H = some (.ret (.bool true), H') := by
  obtain ⟨v0, d0, v1, d1, v2, d2, rfl, rfl, h0, h1, h2⟩ := h.three
  obtain ⟨a0, rfl, _⟩ := h0.int (k := .i64) (by simp)
  obtain ⟨a1, rfl, _⟩ := h1.int (k := .i64) (by simp)
  obtain ⟨a2, rfl, _⟩ := h2.int (k := .i64) (by simp)
  exact c_VmDeep a0 a1 a2
end Idl
theorem lifted13 (os : Os) (started : os.Started) (H : Type) (enc : TypeId × Value → H) :
    ReturnsInHanded {} Tryz.checked os 13 .any (Rows.vmDeepSpec.pre6 enc Tryz.prog Tryz.f13 [] false) (Rows.vmDeepSpec.post enc Tryz.prog Tryz.f13 false true false false) := by
  refine returnsInHanded_of_change (C := Tryz.checked) own started (by kernel_rfl) func13
    (ChangeSpec.witness6 (enc := enc) (C := Tryz.checked) false ⟨#[], #[.int .i64 0, .int .i64 0, .int .i64 0], []⟩ 8 (by kernel_rfl) (by kernel_rfl) (by kernel_rfl) (by kernel_rfl)) ?_
  intro W base args ds gs before hval0 hW hcnd _
  have hval : ∀ (j : Nat) t v, Tryz.f13.params[j]? = some t → args[j]? = some v → Value.okWide Tryz.prog W .any base t v := hval0
  have hW' := hW
  have hlt := hW.lt
  obtain ⟨p, q, hA0, hV, rfl, _, _⟩ := hW
  have hA : DataW.TrodAll enc Tryz.prog W 0 (fun _ => true) true Tryz.f13.params.toList args.toList ds p := hA0
  rw [params13] at hA hval
  obtain ⟨d0, d1, d2, rfl⟩ := Idl.trod_ds3 hA
  obtain ⟨rfl, rfl⟩ := trodVars_none hV
  rw [List.append_nil] at hlt
  simp only [List.append_nil] at hW'
  refine (Idl.law_gen (J := Idl.J) Idl.sound (Idl.start W) (k := 12) (ts := [3, 3, 3]) (by kernel_rfl) (r := .any) (base := base) (args := args) (fun j t v h1 h2 => hval j t v (by simpa using h1) (by simpa using h2)) hA fun H vs hk hd => Idl.law13 H vs _ hd).mono fun e W' ⟨he, hB⟩ => ?_
  subst he
  refine ⟨_, rfl, _, _, _, [], p, [], hW', ?_, ?_, ?_, Idl.keptBut_of_below hB _, fun h => by cases h⟩
  · exact trodAll_mk1 (shut_bool und4 true)
  · refine Idl.stay_args laidOut hB (fun t ht => ?_) hA0 hlt
    rw [params13] at ht
    have := List.all_eq_true.1 readable13 t (by simpa using ht)
    simpa using this
  · rfl
theorem vmDeep_holds : Rows.VmDeepSaid :=
  OpenClaim.holds_of_wide 13 Tryz.f13 rfl rfl rfl rfl rfl rfl rfl ⟨rfl, rfl, rfl, rfl, rfl⟩ rfl rfl rfl rfl rfl (by kernel_rfl) func13 (by kernel_rfl)
    (of_decide_eq_true (by kernel_rfl)) (by unfold Func.isWrapper; first | (rw [if_pos (by decide +kernel)]; kernel_rfl) | (rw [if_neg (by decide +kernel)]; exact ⟨rfl, rfl⟩))
    (fun os started H enc _ => lifted13 os started H enc)
#print axioms vmDeep_holds
end Go.Proofs.YtchlbfmjnhgpgaaGreat
