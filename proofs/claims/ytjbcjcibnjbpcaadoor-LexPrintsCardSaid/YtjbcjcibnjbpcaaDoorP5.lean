/- LexPrints: any tokens as a text: for every row of tokens the law answers true: the row, and its card, tied to the program's text. Conditions: none but the row's own (the listed variables hold what the program's text lays). -/
import Derived.Test.YtjbcjcibnjbpcaaDoorP4
import Derived.Test.YtjbcjcibnjbpcaaDoorTie
import Derived.Lib.LaidTab
import Derived.ProofKit
import Derived.OpenShut
import Derived.LaidMore
import Derived.Lay
import Derived.SevenTiedAt
import Derived.Test.YtjbcjcibnjbpcaaDoorP1
import Derived.ChangeSame
import Derived.ChangeVars
import Derived.JoinedOf
import Derived.RowKitTokens
import Derived.LaidLaws
import Derived.Stop.Joined
import Derived.Test.YtjbcjcibnjbpcaaDoorCards
import Derived.ChangeMaps5
namespace Go.Proofs.YtjbcjcibnjbpcaaDoor.Idl
open Go
set_option maxHeartbeats 16000000
set_option linter.unusedSimpArgs false
theorem loop14 (s : ByteArray) (lo : Nat) (hs : s.size < 2 ^ 38) : ∀ (N p k : Nat) (acc : List (Nat × Tk)) (H : IH) (T : Regs) (v : Value),
    s.size - p < N → s.size < k + p → p ≤ s.size → acc.length ≤ 4000 → lo ≤ H.next → TksAt H v acc lo →
    T.at 0 = .string s → T.at 5 = v → T.at 6 = .int .i64 (p : Int) →
    (∃ T' H', run J okAll (.loop L14_0) T H = some (.exit 0, T', H') ∧ Fr lo H H' ∧ (∃ l, lexF s k p acc = .ok l ∧ TksAt H' (T'.at 5) l lo)) ∨
    ∃ T' H', run J okAll (.loop L14_0) T H = some (.ret, T', H') ∧ Fr lo H H' ∧ T'.at 3 = .int .i64 (lexF s k p acc).errno ∧ T'.at 4 = .int .i64 ((lexF s k p acc).pos : Int) ∧ TksAt H' (T'.at 2) (lexF s k p acc).toks lo := by
  intro N
  induction N with
  | zero => intro p k acc H T v h1; omega
  | succ N ih =>
    intro p k acc H T v h1 hk hp hac hlo hv t0 t5 t6
    have nil : ∀ H : IH, TksAt H (.slice none 0 0) [] lo := fun H => ⟨by simp, .inl ⟨rfl, rfl⟩⟩
    cases k with
    | zero => omega
    | succ k =>
    by_cases hlt : p < s.size
    · have i0 := idxS_bt s p hlt
      have w1 : IntKind.i64.wrap ((p : Int) + 1) = (p : Int) + 1 := wrap64 _ (by omega) (by omega)
      have hsl := sliceS_some s p s.size (by omega) (by omega)
      cases hb : blankB (bt s p) with
      | true =>
        have : ∃ T1, run J okAll (.loop L14_0) T H = run J okAll (.loop L14_0) T1 H ∧ T1.at 0 = .string s ∧ T1.at 5 = v ∧ T1.at 6 = .int .i64 ((p : Int) + 1) := by
          unfold blankB at hb
          rw [r_loop]
          cases c1 : decide (bt s p = 32) with
          | true =>
            have c1' := of_decide_eq_true c1
            simp [L14_0, t0, t5, t6, hlt, i0, w1, c1']
            exact ⟨_, rfl, by simp [t0], by simp [t5], by simp⟩
          | false =>
          cases c2 : decide (bt s p = 9) with
          | true =>
            have c2' := of_decide_eq_true c2
            simp [L14_0, t0, t5, t6, hlt, i0, w1, c2']
            exact ⟨_, rfl, by simp [t0], by simp [t5], by simp⟩
          | false =>
          cases c3 : decide (bt s p = 10) with
          | true =>
            have c3' := of_decide_eq_true c3
            simp [L14_0, t0, t5, t6, hlt, i0, w1, c3']
            exact ⟨_, rfl, by simp [t0], by simp [t5], by simp⟩
          | false =>
            rw [c1, c2, c3] at hb
            have c4' : bt s p = 13 := by simpa using hb
            simp [L14_0, t0, t5, t6, hlt, i0, w1, c4']
            exact ⟨_, rfl, by simp [t0], by simp [t5], by simp⟩
        obtain ⟨T1, e0, f0, f5, f6⟩ := this
        rw [e0, lexF_blank s p hlt hb]
        exact ih (p + 1) (k + 1) acc H T1 v (by omega) (by omega) (by omega) hac hlo hv f0 f5 (by rw [f6]; simp)
      | false =>
        have hb0 := hb
        unfold blankB at hb
        simp only [Bool.or_eq_false_iff] at hb
        obtain ⟨⟨⟨c1, c2⟩, c3⟩, c4⟩ := hb
        have k24 := fun H => c24 H (s.extract p s.size) (by rw [size_suf]; omega)
        have hrl := remL_suf s p (by omega) ((s.extract p s.size).size + 1) 0 0
        have hle := remL_le s ((s.extract p s.size).size + 1) p 0
        generalize hrr : remS (s.extract p s.size) = r at *
        cases hneg : decide (r < 0) with
        | true =>
          have hneg' := of_decide_eq_true hneg
          right
          rw [lexF_open s p hlt hb0 (by rw [hrr]; exact hneg')]
          have : ∃ T', run J okAll (.loop L14_0) T H = some (.ret, T', H) ∧ T'.at 3 = .int .i64 10 ∧ T'.at 4 = .int .i64 (p : Int) ∧ T'.at 2 = .slice none 0 0 := by
            rw [r_loop]
            simp [L14_0, t0, t5, t6, hlt, i0, w1, c1, c2, c3, c4, hsl, k24, hneg]
          obtain ⟨T', e, a3, a4, a2⟩ := this
          exact ⟨T', H, e, Fr.refl _ _, a3, a4, by rw [a2]; exact nil _⟩
        | false =>
        have hneg' := of_decide_eq_false hneg
        cases hpos : decide (0 < r) with
        | true =>
          have hpos' := of_decide_eq_true hpos
          have hpre := remS_pre (s.extract p s.size) (by omega)
          have hS : r = remL (s.extract p s.size) ((s.extract p s.size).size + 1) 0 0 := by rw [← hrr]; exact if_pos hpre
          rw [show p + 0 = p from rfl] at hrl
          rw [← hS, if_neg hneg'] at hrl
          have w2 : IntKind.i64.wrap ((p : Int) + r) = (p : Int) + r := wrap64 _ (by omega) (by omega)
          have : ∃ T1, run J okAll (.loop L14_0) T H = run J okAll (.loop L14_0) T1 H ∧ T1.at 0 = .string s ∧ T1.at 5 = v ∧ T1.at 6 = .int .i64 ((p : Int) + r) := by
            rw [r_loop]
            simp [L14_0, t0, t5, t6, hlt, i0, w1, w2, c1, c2, c3, c4, hsl, k24, hneg, hpos]
            exact ⟨_, rfl, by simp [t0], by simp [t5], by simp⟩
          obtain ⟨T1, e0, f0, f5, f6⟩ := this
          rw [e0, lexF_remark s p hlt hb0 (by rw [hrr]; exact hpos'), hrr]
          exact ih (p + r.toNat) (k + 1) acc H T1 v (by omega) (by omega) (by omega) hac hlo hv f0 f5 (by rw [f6]; congr 1; omega)
        | false =>
          have hpos' := of_decide_eq_false hpos
          have hr0 : r = 0 := by omega
          subst hr0
          obtain ⟨H2, f2, e20⟩ := c20 H (s.extract p s.size) (by rw [size_suf]; omega) (by rw [size_suf]; omega)
          obtain ⟨so, ss⟩ := tokF_suf s p hlt
          have hlo2 : lo ≤ H2.next := by have := f2.1; omega
          have hv2 : TksAt H2 v acc lo := hv.mono f2.1 (fun x _ hx2 => f2.2 x hx2)
          have hf2 : Fr lo H H2 := (Fr.refl lo H).trans' f2 hlo
          rw [lexF_tok s p hlt hb0 hrr]
          have hte := tokF_end s p hlt
          have hvl : ∃ ba c, v = .slice ba acc.length c := by
            rcases hv.2 with ⟨h1, h⟩ | ⟨bb, _, _, h, _⟩
            · rw [List.map_eq_nil_iff] at h; subst h; exact ⟨_, _, h1⟩
            · rw [List.length_map] at h; exact ⟨_, _, h⟩
          obtain ⟨ba, cv, hvs⟩ := hvl
          subst hvs
          cases hok : (tokF s p).ok with
          | false =>
            rw [hok] at so
            have hrf : (tokF (s.extract p s.size) 0).ref = .tuple #[tokV 0 0 ⟨#[]⟩ 0, .int .i64 0] := by unfold Tk.ref; rw [← so]; rfl
            rw [hrf] at e20
            right
            rw [if_pos rfl]
            have : ∃ T' H', run J okAll (.loop L14_0) T H = some (.ret, T', H') ∧ Fr lo H H' ∧ T'.at 3 = .int .i64 10 ∧ T'.at 4 = .int .i64 (p : Int) ∧ T'.at 2 = .slice none 0 0 := by
              rw [r_loop]
              simp [L14_0, t0, t5, t6, hlt, i0, w1, c1, c2, c3, c4, hsl, k24, e20, tokV, inew, istore, Value.cells, plain1, overlay, IH.get_push]
              exact ⟨_, _, ⟨rfl, rfl⟩, by
                repeat (first | refine Fr.set ?_ (by omega) _ | refine Fr.push ?_ (by first | omega | (simp; omega)) _)
                exact hf2, by simp, by simp, by simp⟩
            obtain ⟨T', H', e, a1, a3, a4, a2⟩ := this
            exact ⟨T', H', e, a1, a3, a4, by rw [a2]; exact nil _⟩
          | true =>
            have hte := hte hok
            have ss := ss hok
            rw [hok] at so
            rw [if_neg (by simp)]
            generalize hTk : tokF (s.extract p s.size) 0 = tk at *
            rw [ss] at hte ⊢
            have hrf : tk.ref = .tuple #[tokV tk.kind 0 tk.text tk.n, .int .i64 (tk.fin : Int)] := by unfold Tk.ref; rw [← so]; rfl
            rw [hrf] at e20
            simp only at hte
            have hfn : ¬ tk.fin = 0 := by omega
            by_cases h4k : acc.length = 4000
            · right
              rw [if_pos h4k]
              have h4D : (4000 : Int) ≤ acc.length := by omega
              have : ∃ T' H', run J okAll (.loop L14_0) T H = some (.ret, T', H') ∧ Fr lo H H' ∧ T'.at 3 = .int .i64 2 ∧ T'.at 4 = .int .i64 (p : Int) ∧ T'.at 2 = .slice none 0 0 := by
                rw [r_loop]
                simp [L14_0, t0, t5, t6, hlt, i0, w1, c1, c2, c3, c4, hsl, k24, e20, tokV, inew, istore, Value.cells, plain1, overlay, IH.get_push, hfn, h4D]
                exact ⟨_, _, ⟨rfl, rfl⟩, by
                  repeat (first | refine Fr.set ?_ (by omega) _ | refine Fr.push ?_ (by first | omega | (simp; omega)) _)
                  exact hf2, by simp, by simp, by simp⟩
              obtain ⟨T', H', e, a1, a3, a4, a2⟩ := this
              exact ⟨T', H', e, a1, a3, a4, by rw [a2]; exact nil _⟩
            · rw [if_neg h4k]
              have h4D : ¬ (4000 : Int) ≤ acc.length := by omega
              have w3 : IntKind.i64.wrap ((p : Int) + tk.fin) = (p : Int) + tk.fin := wrap64 _ (by omega) (by omega)
              have hvp : TksAt (H2.push (.cells [.int .i64 tk.kind, .int .i64 (p : Int), .string tk.text, .int .i64 tk.n] 31 false)) (.slice ba acc.length cv) acc lo := hv2.mono (by simp) (fun x hx1 hx2 => IH.get_push_other _ _ _ hx2)
              obtain ⟨v', H3, ea, hv3, hn3, hf3⟩ := rsApp rt23 hvp (by simp; omega) (by simp; omega) (tkC (p, { tk with fin := tk.fin + p })) rfl (by simp [tkC, plain1])
              simp only [tkC, IH.next_push] at ea
              have : ∃ T1, run J okAll (.loop L14_0) T H = run J okAll (.loop L14_0) T1 H3 ∧ T1.at 0 = .string s ∧ T1.at 5 = v' ∧ T1.at 6 = .int .i64 ((p : Int) + tk.fin) := by
                rw [r_loop]
                simp [L14_0, t0, t5, t6, hlt, i0, w1, w3, c1, c2, c3, c4, hsl, k24, e20, tokV, inew, istore, Value.cells, plain1, overlay, IH.get_push, hfn, h4D, iparts, bs23, push_set, ea]
                exact ⟨_, rfl, by simp [t0], by simp, by simp⟩
              obtain ⟨T1, e0, f0, f5, f6⟩ := this
              rw [e0]
              have hn3' : H2.next + 1 ≤ H3.next := by simpa using hn3
              have hfa : Fr lo H H3 := by
                refine ⟨by have := hf2.1; omega, fun x hx => ?_⟩
                rw [hf3 x hx, IH.get_push_other _ _ _ (by omega)]
                exact hf2.2 x hx
              have := ih (tk.fin + p) k (acc ++ [(p, { tk with fin := tk.fin + p })]) H3 T1 v' (by omega) (by omega) (by omega) (by simp; omega) (by omega)
                (by unfold TksAt; rw [List.map_append]; exact hv3) f0 f5 (by rw [f6]; congr 1; omega)
              rcases this with ⟨T', H', r1, r2, r3⟩ | ⟨T', H', r1, r2, r3⟩
              · exact .inl ⟨T', H', r1, hfa.trans r2, r3⟩
              · exact .inr ⟨T', H', r1, hfa.trans r2, r3⟩
    · left
      rw [lexF_end s p (by omega) hp]
      have : ∃ T', run J okAll (.loop L14_0) T H = some (.exit 0, T', H) ∧ T'.at 5 = v := by
        rw [r_loop]
        simp [L14_0, t0, t5, t6, hlt]
      obtain ⟨T', e, a⟩ := this
      exact ⟨T', H, e, Fr.refl _ _, acc, rfl, by rw [a]; exact hv⟩
theorem c14 (H : IH) (s : ByteArray) (hs : s.size < 2 ^ 38) :
    ∃ H' v, Fr H.next H H' ∧ cal J okAll 14 #[.string s] H = some (.ret (.tuple #[v, .int .i64 (lexR s).errno, .int .i64 ((lexR s).pos : Int)]), H') ∧ TksAt H' v (lexR s).toks H.next := by
  unfold lexR
  rw [cal14 _ _ (by simp)]
  by_cases hbig : 16384 < s.size
  · rw [if_pos hbig]
    refine ⟨H, .slice none 0 0, Fr.refl _ _, ?_, ⟨by simp [LR.toks], .inl ⟨rfl, rfl⟩⟩⟩
    have hbD : decide ((16384 : Int) < s.size) = true := decide_eq_true (by omega)
    simp [C14, R14, regsOf, fin, iresult1, hbD, LR.errno, LR.pos]
  · rw [if_neg hbig]
    have hbD : decide ((16384 : Int) < s.size) = false := decide_eq_false (by omega)
    have key := fun T v => loop14 s H.next hs (s.size + 1) 0 (s.size + 1) [] H T v (by omega) (by omega) (by omega) (by simp) (Nat.le_refl _)
    simp [C14, R14, regsOf, fin, iresult1, hbD]
    generalize hX : run J okAll (.loop L14_0) _ _ = X
    obtain ⟨T1, e2, t0, t5, t6⟩ : ∃ T1, run J okAll (.loop L14_0) T1 H = X ∧ T1.at 0 = .string s ∧ T1.at 5 = .slice none 0 0 ∧ T1.at 6 = .int .i64 ((0 : Nat) : Int) :=
      ⟨_, hX, by simp, by simp, by simp⟩
    rw [← e2]
    rcases key T1 _ ⟨by simp, .inl ⟨rfl, rfl⟩⟩ t0 t5 t6 with ⟨T', H', r1, r2, l, r3, r4⟩ | ⟨T', H', r1, r2, r3, r4, r5⟩
    · rw [r1, r3]
      simp [LR.errno, LR.pos, LR.toks, fin, iresult1]
      exact ⟨_, r2, _, ⟨rfl, rfl⟩, r4⟩
    · rw [r1]
      simp [r3, r4, fin, iresult1]
      exact ⟨_, r2, _, ⟨rfl, rfl⟩, r5⟩
end Go.Proofs.YtjbcjcibnjbpcaaDoor.Idl
namespace Go.Proofs.YtjbcjcibnjbpcaaDoor.Idl
open Go
set_option maxHeartbeats 8000000
set_option linter.unusedSimpArgs false
theorem pu {t : TypeId} {d : TypeDesc} (h : J.und t = some d) : pureRun J.P (underlying t) = some d := by
  have := J.und_ok h
  unfold underlying
  rw [pureRun_bind]
  show Option.bind (some J.P) _ = _
  simp only [Option.bind_some, this]
  rfl
theorem pint (d : Nat) (t : TypeId) (k0 k : IntKind) (a b : Int) (h : J.und t = some (.int k0)) : pureRun J.P (Op.equalIn (d + 1) t (.int k a) (.int k b)) = some (a == b) := by
  unfold Op.equalIn
  rw [pureRun_bind, pu h]
  simp only [Option.bind_some, if_true]
  rfl
theorem pstr (d : Nat) (t : TypeId) (a b : ByteArray) (h : J.und t = some .string) : pureRun J.P (Op.equalIn (d + 1) t (.string a) (.string b)) = some (a == b) := by
  unfold Op.equalIn
  rw [pureRun_bind, pu h]
  rfl
theorem ppart (t : TypeId) (cs : Array Value) (off : Nat) (v : Value) (h : isAggT J t = some false) (hv : cs[off]? = some v) : pureRun J.P (part t cs off) = some v := by
  unfold part
  have : pureRun J.P (isAgg t) = some false := by
    unfold isAggT at h
    unfold isAgg
    cases hu : J.und t with
    | none => rw [hu] at h; cases h
    | some d => rw [hu] at h; rw [pureRun_bind, pu hu]; cases d <;> first | rfl | cases h
  rw [pureRun_bind, this]
  simp only [Option.bind_some, Bool.false_eq_true, if_false, hv]
  rfl
def fields31 : Array Field := #[{ name := "Kind", type := 3, offset := 0, embedded := false, tag := "", pkgPath := "", byteOffset := 0 }, { name := "At", type := 3, offset := 1, embedded := false, tag := "", pkgPath := "", byteOffset := 8 }, { name := "Text", type := 9, offset := 2, embedded := false, tag := "", pkgPath := "", byteOffset := 16 }, { name := "N", type := 2, offset := 3, embedded := false, tag := "", pkgPath := "", byteOffset := 32 }]
theorem und31 : J.und 31 = some (.struct fields31) := id rfl
theorem forIn_yield {α : Type} (body : α → Option Bool × Unit → Sem (ForInStep (Option Bool × Unit))) : ∀ l : List α, (∀ f ∈ l, pureRun J.P (body f (none, ())) = some (.yield (none, ()))) → pureRun J.P (forIn l (none, ()) body) = some (none, ()) := by
  intro l
  induction l with
  | nil => intro _; rfl
  | cons a l ih =>
    intro h
    rw [List.forIn_cons, pureRun_bind, h a (by simp)]
    exact ih (fun f hf => h f (by simp [hf]))
theorem pequal_struct (d : Nat) (t : TypeId) (fs : Array Field) (xs : Array Value) (hu : J.und t = some (.struct fs)) (hst : J.P.stoodInHeld t = false)
    (h : ∀ f ∈ fs.toList, ∃ v, pureRun J.P (part f.type xs f.offset) = some v ∧ pureRun J.P (Op.equalIn d f.type v v) = some true) : pureRun J.P (Op.equalIn (d + 1) t (.agg xs) (.agg xs)) = some true := by
  unfold Op.equalIn
  rw [pureRun_bind, pu hu]
  simp only [Option.bind_some]
  rw [pureRun_bind]
  show Option.bind (some J.P) _ = _
  simp only [Option.bind_some, hst, Bool.false_eq_true, if_false]
  rw [pureRun_bind, ← Array.forIn_toList, forIn_yield]
  · rfl
  · intro f hf
    obtain ⟨v, h1, h2⟩ := h f hf
    by_cases hn : f.name ≠ "_"
    · rw [if_pos hn, pureRun_bind, h1]
      simp only [Option.bind_some]
      rw [pureRun_bind, h1]
      simp only [Option.bind_some]
      rw [pureRun_bind, h2]
      rfl
    · rw [if_neg hn]; rfl
theorem pequal (d : Nat) (k p n : Int) (x : ByteArray) : pureRun J.P (Op.equalIn (d + 2) 31 (.agg #[.int .i64 k, .int .i64 p, .string x, .int .i64 n]) (.agg #[.int .i64 k, .int .i64 p, .string x, .int .i64 n])) = some true := by
  refine pequal_struct (d + 1) 31 fields31 _ und31 (by kernel_rfl) (fun f hf => ?_)
  have e3 : ∀ a : Int, pureRun J.P (Op.equalIn (d + 1) 3 (.int .i64 a) (.int .i64 a)) = some true := fun a => by rw [pint d 3 .i64 .i64 a a (by simp)]; simp
  have e2 : ∀ a : Int, pureRun J.P (Op.equalIn (d + 1) 2 (.int .i64 a) (.int .i64 a)) = some true := fun a => by rw [pint d 2 .i64 .i64 a a (by simp)]; simp
  have e9 : pureRun J.P (Op.equalIn (d + 1) 9 (.string x) (.string x)) = some true := by rw [pstr d 9 x x (by simp), ba_self]
  simp only [fields31, List.mem_cons, List.not_mem_nil, or_false] at hf
  rcases hf with rfl | rfl | rfl | rfl
  · exact ⟨_, ppart 3 _ 0 _ (by simp) rfl, e3 k⟩
  · exact ⟨_, ppart 3 _ 1 _ (by simp) rfl, e3 p⟩
  · exact ⟨_, ppart 9 _ 2 _ (by simp) rfl, e9⟩
  · exact ⟨_, ppart 2 _ 3 _ (by simp) rfl, e2 n⟩
theorem guard31 (op : BinOp) (x y : Operand) (a b : Array Value) (ho : op = .eql ∨ op = .neq) : pureRun J.P (eqGuard op 31 x y (.agg a) (.agg b)) = some () := by
  have h : J.P.eqGuardType J.P.depth 31 = false := by kernel_rfl
  unfold eqGuard
  rcases ho with rfl | rfl
  all_goals
    simp only [Bool.not_true, Bool.false_eq_true, if_false]
    rw [pureRun_bind]
    show Option.bind (some J.P) _ = _
    simp only [Option.bind_some]
    rw [pureRun_bind]
    show Option.bind (some J.P) _ = _
    simp only [Option.bind_some, h]
    rfl
theorem binR_pure2 {op : BinOp} {t : TypeId} {x y : Operand} {a b v : Value} {H : IH} (hn : nilEq a b = none) (hf : (flat a && flat b) = true) (hg : pureRun J.P (eqGuard op t x y a b) = some ()) (hb : pureRun J.P (binOp op t a b) = some v) (hv : flat v = true) :
    binR J op t x y a b H = some (.val v H) := by
  have : pureR (pureRun J.P (do eqGuard op t x y a b; binOp op t a b)) H = some (.val v H) := by
    rw [pureRun_bind, hg]
    simp only [Option.bind_some, hb, pureR, hv, if_true]
  unfold binR
  rw [hn]
  cases op <;> simp only [hf, if_true] <;> exact this
@[simp] theorem neq31 (x y : Operand) (k p n : Int) (s : ByteArray) (H : IH) : binR J .neq 31 x y (.agg #[.int .i64 k, .int .i64 p, .string s, .int .i64 n]) (.agg #[.int .i64 k, .int .i64 p, .string s, .int .i64 n]) H = some (.val (.bool false) H) := by
  refine binR_pure2 rfl (by simp [flat, flatN]) (guard31 .neq x y _ _ (.inr rfl)) ?_ rfl
  show pureRun J.P (do pure (Value.bool (!(← Op.equal 31 _ _))) : Sem Value) = _
  rw [pureRun_bind]
  have := pequal 9998 k p n s
  unfold Op.equal Op.maxDepth
  rw [this]; rfl
@[simp] theorem eql31 (x y : Operand) (k p n : Int) (s : ByteArray) (H : IH) : binR J .eql 31 x y (.agg #[.int .i64 k, .int .i64 p, .string s, .int .i64 n]) (.agg #[.int .i64 k, .int .i64 p, .string s, .int .i64 n]) H = some (.val (.bool true) H) := by
  refine binR_pure2 rfl (by simp [flat, flatN]) (guard31 .eql x y _ _ (.inl rfl)) ?_ rfl
  show pureRun J.P (do pure (Value.bool (← Op.equal 31 _ _)) : Sem Value) = _
  rw [pureRun_bind]
  have := pequal 9998 k p n s
  unfold Op.equal Op.maxDepth
  rw [this]; rfl
end Go.Proofs.YtjbcjcibnjbpcaaDoor.Idl
namespace Go.Proofs.YtjbcjcibnjbpcaaDoor.Idl
open Go
set_option maxHeartbeats 8000000
set_option linter.unusedSimpArgs false
def cutF (s : ByteArray) : ByteArray := if 3000 < s.size then s.extract 0 3000 else s
theorem c12 (H : IH) (s : ByteArray) : cal J okAll 12 #[.string s] H = some (.ret (.string (cutF s)), H) := by
  rw [cal12 _ _ (by simp)]
  unfold cutF
  by_cases h : 3000 < s.size
  · have hD : (3000 : Int) < s.size := by omega
    have hsl := sliceS_some s 0 3000 (by omega) (by omega)
    simp [C12, R12, regsOf, fin, iresult1, hD, h, hsl, bound_int]
  · have hD : ¬ (3000 : Int) < s.size := by omega
    simp [C12, R12, regsOf, fin, iresult1, hD, h]
theorem cutF_size (s : ByteArray) : (cutF s).size ≤ 3000 := by
  unfold cutF
  split
  · simp; omega
  · omega
theorem flatten_at (n : Nat) : ∀ (l : List (List Value)) (i : Nat) (x : List Value), (∀ x ∈ l, x.length = n) → l[i]? = some x → (l.flatten.drop (i * n)).take n = x ∧ i * n + n ≤ l.flatten.length := by
  intro l
  induction l with
  | nil => intro i x _ h; simp at h
  | cons a l ih =>
    intro i x h hx
    have ha := h a (by simp)
    cases i with
    | zero =>
      simp only [List.getElem?_cons_zero, Option.some.injEq] at hx
      subst hx
      simp only [Nat.zero_mul, List.drop_zero, List.flatten_cons, Nat.zero_add, List.length_append]
      exact ⟨by rw [List.take_append_of_le_length (by omega), List.take_of_length_le (by omega)], by omega⟩
    | succ i =>
      simp only [List.getElem?_cons_succ] at hx
      obtain ⟨e1, e2⟩ := ih i x (fun y hy => h y (by simp [hy])) hx
      rw [List.flatten_cons, Nat.add_mul, Nat.one_mul, List.length_append]
      refine ⟨?_, by omega⟩
      rw [← e1, Nat.add_comm, ← ha, ← List.drop_drop, List.drop_left]
theorem tks_cell {H : IH} {b c : Nat} {l : List (Nat × Tk)} {lo : Nat} (hv : TksAt H (.slice (some ⟨b, 0, none⟩) l.length c) l lo) {i : Nat} (hi : i < l.length) : cellsOf (H.get b) (i * 4) 4 = some (tkC l[i]) := by
  rcases hv.2 with ⟨h, _⟩ | ⟨b', _, _, h, hg⟩
  · cases h
  · have hb : b = b' := by simp only [Value.slice.injEq, Option.some.injEq, Addr.mk.injEq] at h; exact h.1.1
    subst hb
    have hl : (l.map tkC)[i]? = some (tkC l[i]) := by simp [hi]
    obtain ⟨e1, e2⟩ := flatten_at 4 (l.map tkC) i _ (fun x hx => (hv.1 x hx).1) hl
    rw [hg]
    simp only [cellsOf]
    rw [if_pos e2, e1]
theorem loop15 (H : IH) (b b' c c' lo : Nat) (l : List (Nat × Tk)) (hl : l.length < 2 ^ 39) (hv : TksAt H (.slice (some ⟨b, 0, none⟩) l.length c) l lo) (hv' : TksAt H (.slice (some ⟨b', 0, none⟩) l.length c') l lo) : ∀ (n i : Nat) (T : Regs), l.length - i = n → i ≤ l.length →
    T.at 0 = .slice (some ⟨b, 0, none⟩) l.length c → T.at 1 = .slice (some ⟨b', 0, none⟩) l.length c' → T.at 12 = .int .i64 (l.length : Int) → T.at 13 = .int .i64 (i : Int) →
    ∃ T', run J okAll (.loop L15_0) T H = some (.exit 0, T', H) := by
  intro n
  induction n with
  | zero =>
    intro i T hn hi t0 t1 t12 t13
    have hlt : ¬ ((i : Int) < l.length) := by omega
    rw [r_loop]
    simp [L15_0, t0, t1, t12, t13, hlt]
  | succ n ih =>
    intro i T hn hi t0 t1 t12 t13
    have hlt : i < l.length := by omega
    have w1 : IntKind.i64.wrap ((i : Int) + 1) = (i : Int) + 1 := wrap64 _ (by omega) (by omega)
    have k1 := tks_cell hv hlt
    have k2 := tks_cell hv' hlt
    have : ∃ T1, run J okAll (.loop L15_0) T H = run J okAll (.loop L15_0) T1 H ∧ T1.at 0 = .slice (some ⟨b, 0, none⟩) l.length c ∧ T1.at 1 = .slice (some ⟨b', 0, none⟩) l.length c' ∧ T1.at 12 = .int .i64 (l.length : Int) ∧ T1.at 13 = .int .i64 ((i : Int) + 1) := by
      rw [r_loop]
      simp [L15_0, t0, t1, t12, t13, hlt, iindexAddr, k1, k2, tkC, w1, isEff, oblig, veq]
      exact ⟨_, rfl, by simp [t0], by simp [t1], by simp [t12], by simp⟩
    obtain ⟨T1, e0, f0, f1, f12, f13⟩ := this
    rw [e0]
    exact ih (i + 1) T1 (by omega) (by omega) f0 f1 f12 (by rw [f13]; simp)
theorem c15 (H : IH) (v v' : Value) (l : List (Nat × Tk)) (lo : Nat) (hl : l.length < 2 ^ 39) (hv : TksAt H v l lo) (hv' : TksAt H v' l lo) : cal J okAll 15 #[v, v'] H = some (.ret (.bool true), H) := by
  rw [cal15 _ _ (by simp)]
  by_cases h0 : l = []
  · subst h0
    have a : v = .slice none 0 0 ∨ ∃ b, v = .slice (some ⟨b, 0, none⟩) 0 capU := by
      rcases hv.2 with ⟨h, _⟩ | ⟨b, _, _, h, _⟩
      · exact .inl h
      · exact .inr ⟨b, h⟩
    have a' : v' = .slice none 0 0 ∨ ∃ b, v' = .slice (some ⟨b, 0, none⟩) 0 capU := by
      rcases hv'.2 with ⟨h, _⟩ | ⟨b, _, _, h, _⟩
      · exact .inl h
      · exact .inr ⟨b, h⟩
    have e : ∀ T : Regs, T.at 12 = .int .i64 0 → T.at 13 = .int .i64 0 → ∃ T', run J okAll (.loop L15_0) T H = some (.exit 0, T', H) := fun T t12 t13 => by
      rw [r_loop]
      simp [L15_0, t12, t13]
    rcases a with rfl | ⟨b, rfl⟩ <;> rcases a' with rfl | ⟨b', rfl⟩
    all_goals
      simp [C15, R15, regsOf, fin, iresult1]
      generalize hX : run J okAll (.loop L15_0) _ _ = X
      obtain ⟨T1, e1, t12, t13⟩ : ∃ T1, run J okAll (.loop L15_0) T1 H = X ∧ T1.at 12 = .int .i64 0 ∧ T1.at 13 = .int .i64 0 := ⟨_, hX, by simp, by simp⟩
      obtain ⟨T', r⟩ := e T1 t12 t13
      rw [← e1, r]
      simp [fin, iresult1]
  · obtain ⟨b, rfl⟩ : ∃ b, v = .slice (some ⟨b, 0, none⟩) l.length capU := by
      rcases hv.2 with ⟨_, h⟩ | ⟨b, _, _, h, _⟩
      · rw [List.map_eq_nil_iff] at h; exact absurd h h0
      · rw [List.length_map] at h; exact ⟨b, h⟩
    obtain ⟨b', rfl⟩ : ∃ b, v' = .slice (some ⟨b, 0, none⟩) l.length capU := by
      rcases hv'.2 with ⟨_, h⟩ | ⟨b, _, _, h, _⟩
      · rw [List.map_eq_nil_iff] at h; exact absurd h h0
      · rw [List.length_map] at h; exact ⟨b, h⟩
    have key := fun T => loop15 H b b' capU capU lo l hl hv hv' _ 0 T rfl (by omega)
    simp [C15, R15, regsOf, fin, iresult1]
    generalize hX : run J okAll (.loop L15_0) _ _ = X
    obtain ⟨T1, e1, t0, t1, t12, t13⟩ : ∃ T1, run J okAll (.loop L15_0) T1 H = X ∧ T1.at 0 = .slice (some ⟨b, 0, none⟩) l.length capU ∧ T1.at 1 = .slice (some ⟨b', 0, none⟩) l.length capU ∧ T1.at 12 = .int .i64 (l.length : Int) ∧ T1.at 13 = .int .i64 ((0 : Nat) : Int) := ⟨_, hX, by simp, by simp, by simp, by simp⟩
    obtain ⟨T', r⟩ := key T1 t0 t1 t12 t13
    rw [← e1, r]
    simp [fin, iresult1]
end Go.Proofs.YtjbcjcibnjbpcaaDoor.Idl
namespace Go.Proofs.YtjbcjcibnjbpcaaDoor.Idl
open Go
set_option maxHeartbeats 8000000
set_option linter.unusedSimpArgs false
def bytesI (s : ByteArray) : List Int := s.data.toList.map fun b => ((b.toNat : Nat) : Int)
theorem bytesI_cells (s : ByteArray) : (bytesI s).map (Value.int .u8) = bytesCells s := by simp [bytesI, bytesCells]
theorem bytesI_length (s : ByteArray) : (bytesI s).length = s.size := by simp [bytesI]
theorem strOf_bytesI (s : ByteArray) : strOf (bytesI s) = s := by
  apply ByteArray.ext
  have : ∀ l : List UInt8, (l.map fun b => UInt8.ofNat ((b.toNat : Nat) : Int).toNat) = l := fun l => by
    induction l with
    | nil => rfl
    | cons a l ih => simp only [List.map_cons, ih, List.cons.injEq, and_true]; exact u8_round a
  simp only [strOf, bytesI, List.map_map]
  show ((List.map _ s.data.toList).toArray) = _
  rw [show ((fun n : Int => UInt8.ofNat n.toNat) ∘ fun b : UInt8 => ((b.toNat : Nat) : Int)) = fun b => UInt8.ofNat ((b.toNat : Nat) : Int).toNat from rfl, this]
theorem strOf_append (l m : List Int) : strOf (l ++ m) = strOf l ++ strOf m := by
  apply ByteArray.ext
  simp [strOf, ByteArray.data_append]
/-- v's row lies in block x. -/
def Own (v : Value) (x : Nat) : Prop := ∃ n k, v = .slice (some ⟨x, 0, none⟩) n k
theorem BsAt.own {H : IH} {v : Value} {l : List Int} {lo x : Nat} (h : BsAt J 5 H v l lo) (ho : Own v x) : lo ≤ x ∧ x < H.next := by
  obtain ⟨n, k, rfl⟩ := ho
  rcases h with ⟨h, _⟩ | ⟨b, h1, h2, h3, _⟩
  · cases h
  · simp only [Value.slice.injEq, Option.some.injEq, Addr.mk.injEq] at h3
    obtain ⟨⟨rfl, _⟩, _⟩ := h3
    exact ⟨h1, h2⟩
theorem app1' {H : IH} {v : Value} {l : List Int} {lo : Nat} (hv : BsAt J 5 H v l lo) (hlo : lo ≤ H.next) (hl : l.length < 2 ^ 40) (c : Int) :
    ∃ v' H', iappend J #[40, 40] v (.slice (some ⟨H.next, 0, none⟩) 1 1) (H.push (.cells [.int .u8 c] 5 false)) = some (v', H') ∧ BsAt J 5 H' v' (l ++ [c]) lo ∧ H.next ≤ H'.next ∧ (∀ x, x < H.next → ¬ Own v x → H'.get x = H.get x) ∧ ∀ x, Own v' x → H.next ≤ x := by
  rcases hv with ⟨rfl, rfl⟩ | ⟨b, h1, h2, rfl, h4⟩
  · refine ⟨.slice (some ⟨H.next + 1, 0, none⟩) 1 capU, (H.push (.cells [.int .u8 c] 5 false)).push (.cells [.int .u8 c] 5 false), ?_, .inr ⟨H.next + 1, by omega, by simp, by simp, ?_⟩, by simp; omega, fun x hx _ => ?_, fun x ho => ?_⟩
    · simp [iappend, ilenOf, ifirst, Value.cells]
    · have : H.next + 1 = (H.push (.cells [.int .u8 c] 5 false)).next := rfl
      rw [this, IH.get_push_same]; rfl
    · rw [IH.get_push_other _ _ _ (by simp; omega), IH.get_push_other _ _ _ (by omega)]
    · obtain ⟨n, k, e⟩ := ho
      simp only [Value.slice.injEq, Option.some.injEq, Addr.mk.injEq] at e
      omega
  · have hb : (H.push (.cells [.int .u8 c] 5 false)).get b = some (.cells (l.map (Value.int .u8)) 5 false) := by rw [IH.get_push_other _ _ _ h2]; exact h4
    have hcap : ((l.length + 1) * 3 ≤ 2 ^ 47) := by omega
    refine ⟨.slice (some ⟨H.next + 1, 0, none⟩) (l.length + 1) capU, ((H.push (.cells [.int .u8 c] 5 false)).set b .dead).push (.cells (l.map (Value.int .u8) ++ [.int .u8 c]) 5 false), ?_, .inr ⟨H.next + 1, by omega, by simp, by simp, ?_⟩, by simp; omega, fun x hx hno => ?_, fun x ho => ?_⟩
    · simp [iappend, ilenOf, ifirst, Value.cells, hb, plain1, hcap, capU, take_map]
    · have : H.next + 1 = ((H.push (.cells [.int .u8 c] 5 false)).set b .dead).next := rfl
      rw [this, IH.get_push_same]; simp
    · have hxb : x ≠ b := fun e => hno ⟨_, _, by rw [e]⟩
      rw [IH.get_push_other _ _ _ (by simp; omega), IH.get_set_other _ _ _ _ hxb, IH.get_push_other _ _ _ (by omega)]
    · obtain ⟨n, k, e⟩ := ho
      simp only [Value.slice.injEq, Option.some.injEq, Addr.mk.injEq] at e
      omega
theorem appS {H : IH} {v : Value} {l : List Int} {lo : Nat} (hv : BsAt J 5 H v l lo) (hlo : lo ≤ H.next) (s : ByteArray) (hl : l.length + s.size < 2 ^ 40) :
    ∃ v' H', iappend J #[40, 9] v (.string s) H = some (v', H') ∧ BsAt J 5 H' v' (l ++ bytesI s) lo ∧ H.next ≤ H'.next ∧ (∀ x, x < H.next → ¬ Own v x → H'.get x = H.get x) ∧ (s.size = 0 → v' = v) ∧ ∀ x, Own v' x → Own v x ∨ H.next ≤ x := by
  by_cases hz : s.size = 0
  · have hs0 : bytesI s = [] := List.length_eq_zero_iff.1 (by rw [bytesI_length]; exact hz)
    refine ⟨v, H, ?_, by rw [hs0, List.append_nil]; exact hv, Nat.le_refl _, fun _ _ _ => rfl, fun _ => rfl, fun _ h => .inl h⟩
    rcases hv with ⟨rfl, _⟩ | ⟨b, _, _, rfl, _⟩ <;> simp [iappend, ilenOf, hz]
  · have htk : (bytesCells s).take s.size = bytesCells s := List.take_of_length_le (by rw [bytesCells_length]; exact Nat.le_refl _)
    have hall : ∀ x ∈ bytesCells s, plain1 x = true := fun x hx => by
      unfold bytesCells at hx
      obtain ⟨b, _, rfl⟩ := List.mem_map.1 hx
      rfl
    rcases hv with ⟨rfl, rfl⟩ | ⟨b, h1, h2, rfl, h4⟩
    · have hcap : s.size * 3 ≤ 140737488355328 := by simp at hl; omega
      refine ⟨.slice (some ⟨H.next, 0, none⟩) s.size capU, H.push (.cells (bytesCells s) 5 false), ?_, .inr ⟨H.next, hlo, by simp, ?_, ?_⟩, by simp, fun x hx _ => IH.get_push_other _ _ _ hx, fun e => absurd e hz, fun x ho => ?_⟩
      · simp [iappend, ilenOf, ifirst, hz, htk, hcap, bytesCells_length, Value.cells]
      · simp [bytesI_length]
      · rw [IH.get_push_same, List.nil_append, bytesI_cells]
      · obtain ⟨n, k, e⟩ := ho
        simp only [Value.slice.injEq, Option.some.injEq, Addr.mk.injEq] at e
        right; omega
    · have hcap : (l.length + s.size) * 3 ≤ 140737488355328 := by omega
      refine ⟨.slice (some ⟨H.next, 0, none⟩) (l.length + s.size) capU, (H.set b .dead).push (.cells (l.map (Value.int .u8) ++ bytesCells s) 5 false), ?_, .inr ⟨H.next, hlo, by simp, ?_, ?_⟩, by simp, fun x hx hno => ?_, fun e => absurd e hz, fun x ho => ?_⟩
      · simp [iappend, ilenOf, ifirst, hz, htk, hcap, bytesCells_length, Value.cells, h4, take_map]
        exact hall
      · simp [bytesI_length]
      · have : H.next = (H.set b .dead).next := rfl
        rw [this, IH.get_push_same, List.map_append, bytesI_cells]
      · have hxb : x ≠ b := fun e => hno ⟨_, _, by rw [e]⟩
        rw [IH.get_push_other _ _ _ (by simpa using hx), IH.get_set_other _ _ _ _ hxb]
      · obtain ⟨n, k, e⟩ := ho
        simp only [Value.slice.injEq, Option.some.injEq, Addr.mk.injEq] at e
        right; omega
/-- A Builder in block b with the row v: what was written. -/
def Bd (H : IH) (b : Nat) (v : Value) (l : List Int) (lo : Nat) : Prop :=
  b < lo ∧ lo ≤ H.next ∧ ∃ a, H.get b = some (.cells [.pointer a, v] 53 false) ∧ (a = none ∨ a = some ⟨b, 0, none⟩) ∧ BsAt J 5 H v l lo ∧ (l = [] → v = .slice none 0 0)
theorem Bd.own {H : IH} {b x lo : Nat} {v : Value} {l : List Int} (h : Bd H b v l lo) (ho : Own v x) : lo ≤ x ∧ x < H.next := by
  obtain ⟨_, _, _, _, _, hv, _⟩ := h
  exact hv.own ho
theorem BsAt.set {H : IH} {v : Value} {l : List Int} {lo b : Nat} (h : BsAt J 5 H v l lo) (hb : b < lo) (x : Blk) : BsAt J 5 (H.set b x) v l lo := by
  rcases h with h | ⟨c, h1, h2, h3, h4⟩
  · exact .inl h
  · exact .inr ⟨c, h1, h2, h3, by rw [IH.get_set_other _ _ _ _ (by omega)]; exact h4⟩
@[simp] theorem bp51 (x y : Operand) (H : IH) : binR J .eql 51 x y (.pointer none) (.pointer none) H = some (.val (.bool true) H) := binR_pure J H rfl rfl rfl (by kernel_rfl) rfl
@[simp] theorem hb62 : hasBody J 62 = false := id rfl
@[simp] theorem id62 : J.ident 62 = true := id rfl
theorem c53 (H : IH) (b : Nat) (a : Option Addr) (v : Value) (h : H.get b = some (.cells [.pointer a, v] 53 false)) (ha : a = none ∨ a = some ⟨b, 0, none⟩) (_hp : plain1 v = true) :
    cal J okAll 53 #[.pointer (some ⟨b, 0, none⟩)] H = some (.ret (.tuple #[]), H.set b (.cells [.pointer (some ⟨b, 0, none⟩), v] 53 false)) := by
  rw [cal53 _ _ (by simp)]
  rcases ha with rfl | rfl
  · simp [C53, R53, regsOf, fin, h, fitsNil, nilEq, iconvert, istore, Value.cells, plain1, overlay]
  · have : H.set b (.cells [.pointer (some ⟨b, 0, none⟩), v] 53 false) = H := IH.set_same _ _ _ h
    rw [this]
    simp [C53, R53, regsOf, fin, h, fitsNil, nilEq]
/-- All that was there is as it was but block b and the row v. -/
def FrB (b : Nat) (v : Value) (H H' : IH) : Prop := H.next ≤ H'.next ∧ ∀ x, x < H.next → x ≠ b → ¬ Own v x → H'.get x = H.get x
theorem Bd.mono {H H' : IH} {b lo : Nat} {v : Value} {l : List Int} (h : Bd H b v l lo) (f : Fr H.next H H') : Bd H' b v l lo := by
  obtain ⟨hb, hlo, a, hg, ha, hv, hn⟩ := h
  refine ⟨hb, Nat.le_trans hlo f.1, a, by rw [f.2 b (by omega)]; exact hg, ha, ?_, hn⟩
  rcases hv with h | ⟨c, h1, h2, h3, h4⟩
  · exact .inl h
  · exact .inr ⟨c, h1, by have := f.1; omega, h3, by rw [f.2 c h2]; exact h4⟩
theorem BsAt.plain {H : IH} {v : Value} {l : List Int} {lo : Nat} (h : BsAt J 5 H v l lo) : plain1 v = true := by
  rcases h with ⟨rfl, _⟩ | ⟨c, h1, h2, rfl, h4⟩ <;> rfl
theorem BsAt.slice {H : IH} {v : Value} {l : List Int} {lo : Nat} (h : BsAt J 5 H v l lo) : ∃ a n c, v = .slice a n c := by
  rcases h with ⟨rfl, _⟩ | ⟨c, h1, h2, rfl, h4⟩ <;> exact ⟨_, _, _, rfl⟩
theorem c25 (H : IH) (b : Nat) (v : Value) (l : List Int) (lo : Nat) (c : Int) (hB : Bd H b v l lo) (hl : l.length < 2 ^ 39) :
    ∃ H' v', FrB b v H H' ∧ cal J okAll 25 #[.pointer (some ⟨b, 0, none⟩), .int .u8 c] H = some (.ret .nilIface, H') ∧ Bd H' b v' (l ++ [c]) lo ∧ ∀ x, Own v' x → H.next ≤ x := by
  obtain ⟨hb, hlo, a, hg, ha, hv, hnil⟩ := hB
  have k := c53 H b a v hg ha hv.plain
  have hv1 := hv.set hb (.cells [.pointer (some ⟨b, 0, none⟩), v] 53 false)
  obtain ⟨v', H2, e2, hv2, hn2, hf2, ho2⟩ := app1' hv1 (by simpa using hlo) (by omega) c
  have hb1 := build1 bt40 (H.set b (.cells [.pointer (some ⟨b, 0, none⟩), v] 53 false)) c
  have hnob : ¬ Own v b := fun ho => by have := hv.own ho; omega
  have hg2 : H2.get b = some (.cells [.pointer (some ⟨b, 0, none⟩), v] 53 false) := by rw [hf2 b (by simp; omega) hnob]; simp
  simp only [IH.next_set] at e2 hb1 hn2 hf2 ho2
  refine ⟨H2.set b (.cells [.pointer (some ⟨b, 0, none⟩), v'] 53 false), v', ⟨hn2, fun x hx hxb hno => ?_⟩, ?_, ⟨hb, by simpa using Nat.le_trans hlo hn2, _, IH.get_set_same _ _ _, .inr rfl, hv2.set hb _, fun e => by simp at e⟩, ho2⟩
  · rw [IH.get_set_other _ _ _ _ hxb, hf2 x hx hno, IH.get_set_other _ _ _ _ hxb]
  · obtain ⟨va, vn, vc, rfl⟩ := hv2.slice
    rw [cal25 _ _ (by simp)]
    simp [C25, R25, regsOf, fin, iresult1, k, iparts, hb1, e2, hg2, istore, Value.cells, overlay, plain1]
theorem c26 (H : IH) (b : Nat) (v : Value) (l : List Int) (lo : Nat) (s : ByteArray) (hB : Bd H b v l lo) (hl : l.length + s.size < 2 ^ 39) :
    ∃ H' v', FrB b v H H' ∧ cal J okAll 26 #[.pointer (some ⟨b, 0, none⟩), .string s] H = some (.ret (.tuple #[.int .i64 (s.size : Int), .nilIface]), H') ∧ Bd H' b v' (l ++ bytesI s) lo ∧ ∀ x, Own v' x → Own v x ∨ H.next ≤ x := by
  obtain ⟨hb, hlo, a, hg, ha, hv, hnil⟩ := hB
  have k := c53 H b a v hg ha hv.plain
  have hv1 := hv.set hb (.cells [.pointer (some ⟨b, 0, none⟩), v] 53 false)
  obtain ⟨v', H2, e2, hv2, hn2, hf2, hz2, ho2⟩ := appS hv1 (by simpa using hlo) s (by omega)
  have hnob : ¬ Own v b := fun ho => by have := hv.own ho; omega
  have hg2 : H2.get b = some (.cells [.pointer (some ⟨b, 0, none⟩), v] 53 false) := by rw [hf2 b (by simp; omega) hnob]; simp
  simp only [IH.next_set] at hn2 hf2 ho2
  refine ⟨H2.set b (.cells [.pointer (some ⟨b, 0, none⟩), v'] 53 false), v', ⟨hn2, fun x hx hxb hno => ?_⟩, ?_, ⟨hb, by simpa using Nat.le_trans hlo hn2, _, IH.get_set_same _ _ _, .inr rfl, hv2.set hb _, fun e => ?_⟩, ho2⟩
  · rw [IH.get_set_other _ _ _ _ hxb, hf2 x hx hno, IH.get_set_other _ _ _ _ hxb]
  rotate_left
  · rw [List.append_eq_nil_iff] at e
    have : s.size = 0 := by rw [← bytesI_length, e.2]; rfl
    rw [hz2 this]; exact hnil e.1
  · obtain ⟨va, vn, vc, rfl⟩ := hv2.slice
    rw [cal26 _ _ (by simp)]
    simp [C26, R26, regsOf, fin, iresult1, k, iparts, e2, hg2, istore, Value.cells, overlay, plain1]
theorem c29 (H : IH) (b : Nat) (v : Value) (l : List Int) (lo : Nat) (hB : Bd H b v l lo) (hl : l.length < 2 ^ 39) :
    ∃ H', FrB b v H H' ∧ cal J okAll 29 #[.pointer (some ⟨b, 0, none⟩)] H = some (.ret (.string (strOf l)), H') := by
  obtain ⟨hb, hlo, a, hg, ha, hv, hnil⟩ := hB
  rw [cal29 _ _ (by simp)]
  rcases hv with ⟨rfl, rfl⟩ | ⟨c, h1, h2, rfl, h4⟩
  · refine ⟨H, ⟨Nat.le_refl _, fun _ _ _ _ => rfl⟩, ?_⟩
    simp [C29, R29, regsOf, fin, iresult1, hg, isliceData, iunsafeString, isEff, oblig, veq]
    rfl
  · cases hz : l with
    | nil =>
      have := hnil hz
      cases this
    | cons x r =>
      have hlen : l.length = r.length + 1 := by rw [hz]; rfl
      refine ⟨H.set c (.cells (l.map (Value.int .u8)) 5 true), ⟨by simp, fun y hy hyb hno => IH.get_set_other _ _ _ _ (fun e => hno ⟨(x :: r).length, capU, by rw [e]⟩)⟩, ?_⟩
      rw [← hz]
      have hm := bytesOf_ints l
      have hn0 : 0 < l.length := by omega
      have hn1 : (l.length : Int) < 9223372036854775808 := by omega
      have hsd : isliceData (.slice (some ⟨c, 0, none⟩) l.length capU) = some (.pointer (some ⟨c, 0, none⟩)) := by rw [hlen]; rfl
      simp [C29, R29, regsOf, fin, iresult1, hg, hsd, iunsafeString, h4, hn0, hn1, take_map, hm, isEff, oblig, veq, strOf]
end Go.Proofs.YtjbcjcibnjbpcaaDoor.Idl
namespace Go.Proofs.YtjbcjcibnjbpcaaDoor.Idl
open Go
set_option maxHeartbeats 16000000
set_option linter.unusedSimpArgs false
/-- A number's digits. -/
def natD : Nat → Nat → List Int
  | 0, n => [48 + ((n % 10 : Nat) : Int)]
  | k + 1, n => if n < 10 then [48 + ((n : Nat) : Int)] else natD k (n / 10) ++ [48 + ((n % 10 : Nat) : Int)]
def fmtL (n : Int) : List Int := if n < 0 then 45 :: natD 20 n.natAbs else natD 20 n.toNat
/-- A text as it is quoted. -/
def quoC (c : Int) : List Int :=
  if c = 34 ∨ c = 92 then [92, c] else if c = 10 then [92, 110] else if c = 9 then [92, 116]
  else if c < 32 ∨ 126 < c then [92, 48 + c / 100, 48 + c / 10 % 10, 48 + c % 10] else [c]
def quoL (s : ByteArray) : List Int := 34 :: ((bytesI s).flatMap quoC ++ [34])
def FmtOk (n : Int) : Prop := ∀ H : IH, ∃ H', Fr H.next H H' ∧ cal J okAll 27 #[.int .i64 n, .int .i64 10] H = some (.ret (.string (strOf (fmtL n))), H')
def QuoOk (s : ByteArray) : Prop := ∀ H : IH, ∃ H', Fr H.next H H' ∧ cal J okAll 28 #[.string s] H = some (.ret (.string (strOf (quoL s))), H')
def TokOk (t : Tk) : Prop := (t.kind = 1 → FmtOk t.n) ∧ (t.kind = 2 → QuoOk t.text)
def tkS (t : Tk) : ByteArray := if t.kind = 1 then strOf (fmtL t.n) else if t.kind = 2 then strOf (quoL t.text) else t.text
def prF : Bool → List (Nat × Tk) → List Int
  | _, [] => []
  | first, t :: r => (if first then [] else [32]) ++ (bytesI (tkS t.2) ++ prF false r)
theorem natD_dec : ∀ (k u : Nat), u < 10 ^ (k + 1) → natD k u = (Lib.decDigits u).map fun b => ((b.toNat : Nat) : Int) := by
  have one : ∀ u : Nat, u < 10 → [48 + ((u : Nat) : Int)] = (Lib.decDigits u).map fun b => ((b.toNat : Nat) : Int) := fun u h => by
    rw [Lib.decDigits_one h]
    simp only [List.map_cons, List.map_nil, List.cons.injEq, and_true]
    rw [UInt8.toNat_ofNat']
    omega
  intro k
  induction k with
  | zero =>
    intro u h
    have h10 : u < 10 := by omega
    rw [← one u h10]
    unfold natD
    rw [Nat.mod_eq_of_lt h10]
  | succ k ih =>
    intro u h
    unfold natD
    by_cases h10 : u < 10
    · rw [if_pos h10]; exact one u h10
    · rw [if_neg h10, ih (u / 10) (by rw [Nat.pow_succ] at h; omega)]
      conv => rhs; rw [Lib.decDigits]
      rw [dif_neg h10, List.map_append]
      congr 1
      simp only [List.map_cons, List.map_nil, List.cons.injEq, and_true]
      rw [UInt8.toNat_ofNat']
      omega
theorem fmtL_itoa (n : Int) (h0 : -9223372036854775808 ≤ n) (h1 : n ≤ 9223372036854775807) : strOf (fmtL n) = ⟨(Lib.itoa n).toArray⟩ := by
  have key : fmtL n = (Lib.itoa n).map fun b => ((b.toNat : Nat) : Int) := by
    unfold fmtL Lib.itoa
    split
    · rw [natD_dec 20 n.natAbs (by omega)]; rfl
    · rw [natD_dec 20 n.toNat (by omega)]
  rw [key]
  have u8l : ∀ l : List UInt8, ((l.map fun b => ((b.toNat : Nat) : Int)).map fun n : Int => UInt8.ofNat n.toNat) = l := fun l => by
    induction l with
    | nil => rfl
    | cons a l ih => simp only [List.map_cons, ih, List.cons.injEq, and_true]; exact u8_round a
  unfold strOf
  rw [u8l]
theorem fmt_ok (n : Int) (h0 : -9223372036854775808 ≤ n) (h1 : n ≤ 9223372036854775807) : FmtOk n := fun H => by
  refine ⟨H, Fr.refl _ _, ?_⟩
  have hk : J.hook 27 (#[Value.int .i64 n, Value.int .i64 10] : Array Value).toList = some (.string ⟨(Lib.itoa n).toArray⟩) := by
    show hookT 27 [.int .i64 n, .int .i64 10] = _
    unfold hookT
    simp only [if_true]
    rw [if_pos ⟨trivial, h0, h1⟩]
  rw [cal_hook hk, fmtL_itoa n h0 h1]
end Go.Proofs.YtjbcjcibnjbpcaaDoor.Idl
namespace Go.Proofs.YtjbcjcibnjbpcaaDoor.Idl
open Go
set_option maxHeartbeats 16000000
set_option linter.unusedSimpArgs false
/-- Tokens in a row that is there. -/
def TkRow (H : IH) (tb : Nat) (l : List (Nat × Tk)) : Prop := ∀ i (h : i < l.length), cellsOf (H.get tb) (i * 4) 4 = some (tkC l[i])
/-- The same, wherever the tokens say that they stand. -/
def tkI (p : Int) (t : Tk) : List Value := [.int .i64 t.kind, .int .i64 p, .string t.text, .int .i64 t.n]
def TkRowI (H : IH) (tb : Nat) (l : List (Nat × Tk)) : Prop := ∀ i (h : i < l.length), ∃ p : Int, cellsOf (H.get tb) (i * 4) 4 = some (tkI p l[i].2)
theorem TkRow.toI {H : IH} {tb : Nat} {l : List (Nat × Tk)} (h : TkRow H tb l) : TkRowI H tb l := fun i hi => ⟨_, h i hi⟩
theorem loop17 (tb b lo c : Nat) (l : List (Nat × Tk)) (hl : l.length < 2 ^ 30) (htb : tb < lo) (hne : tb ≠ b) (hok : ∀ t ∈ l, TokOk t.2) : ∀ (n i : Nat) (acc : List Int) (H : IH) (v : Value) (T : Regs),
    l.length - i = n → i ≤ l.length → acc.length + (prF (decide (i = 0)) (l.drop i)).length < 2 ^ 39 → TkRowI H tb l → Bd H b v acc lo →
    T.at 3 = .pointer (some ⟨b, 0, none⟩) → T.at 6 = .slice (some ⟨tb, 0, none⟩) l.length c → T.at 7 = .int .i64 (l.length : Int) → T.at 8 = .int .i64 (i : Int) →
    ∃ T' H' v', run J okAll (.loop L17_0) T H = some (.exit 0, T', H') ∧ H.next ≤ H'.next ∧ (∀ x, x < lo → x ≠ b → H'.get x = H.get x) ∧ Bd H' b v' (acc ++ prF (decide (i = 0)) (l.drop i)) lo ∧ T'.at 3 = .pointer (some ⟨b, 0, none⟩) := by
  intro n
  induction n with
  | zero =>
    intro i acc H v T hn hi hsz hrow hB t3 t6 t7 t8
    have hlt : ¬ ((i : Int) < l.length) := by omega
    have hd : l.drop i = [] := List.drop_of_length_le (by omega)
    have : ∃ T', run J okAll (.loop L17_0) T H = some (.exit 0, T', H) ∧ T'.at 3 = .pointer (some ⟨b, 0, none⟩) := by
      rw [r_loop]
      simp [L17_0, t3, t6, t7, t8, hlt]
    obtain ⟨T', e, a⟩ := this
    refine ⟨T', H, v, e, Nat.le_refl _, fun _ _ _ => rfl, ?_, a⟩
    rw [hd]
    simpa [prF] using hB
  | succ n ih =>
    intro i acc H v T hn hi hsz hrow hB t3 t6 t7 t8
    have hlt : i < l.length := by omega
    have w1 : IntKind.i64.wrap ((i : Int) + 1) = (i : Int) + 1 := wrap64 _ (by omega) (by omega)
    have w0 : IntKind.i64.wrap 1 = 1 := rfl
    have hd : l.drop i = l[i] :: l.drop (i + 1) := List.drop_eq_getElem_cons hlt
    obtain ⟨p, hc⟩ := hrow i hlt
    have hto := hok l[i] (List.getElem_mem hlt)
    rw [hd] at hsz ⊢
    simp only [prF, List.length_append] at hsz ⊢
    have hdf : decide (i + 1 = 0) = false := decide_eq_false (by omega)
    generalize hte : l[i] = t at *
    -- the token's cell
    have hB1 : Bd (H.push (.cells (tkI p t.2) 31 false)) b v acc lo := hB.mono ((Fr.refl _ _).push (Nat.le_refl _) _)
    have hno1 : ¬ Own v H.next := fun ho => by have := hB.own ho; omega
    have hlo := hB.2.1
    have hb := hB.1
    -- the blank
    obtain ⟨H2, v2, hB2, hn2, hf2, hno2, hx2, e2⟩ : ∃ H2 v2, Bd H2 b v2 (acc ++ (if (decide (i = 0)) then [] else [32])) lo ∧ H.next + 1 ≤ H2.next ∧ (∀ x, x < lo → x ≠ b → H2.get x = H.get x) ∧ ¬ Own v2 H.next ∧
        H2.get H.next = some (.cells (tkI p t.2) 31 false) ∧ (0 < i → cal J okAll 25 #[.pointer (some ⟨b, 0, none⟩), .int .u8 32] (H.push (.cells (tkI p t.2) 31 false)) = some (.ret .nilIface, H2)) ∧ (i = 0 → H2 = H.push (.cells (tkI p t.2) 31 false)) := by
      by_cases hi0 : i = 0
      · refine ⟨H.push (.cells (tkI p t.2) 31 false), v, ?_, by simp, fun x hx _ => IH.get_push_other _ _ _ (by omega), hno1, IH.get_push_same _ _, fun h => by omega, fun _ => rfl⟩
        simpa [hi0] using hB1
      · obtain ⟨H2, v2, f, e, hB2, ho⟩ := c25 (H.push (.cells (tkI p t.2) 31 false)) b v acc lo 32 hB1 (by omega)
        refine ⟨H2, v2, by simpa [hi0] using hB2, f.1, fun x hx hxb => ?_, fun h => ?_, ?_, fun _ => e, fun h => absurd h hi0⟩
        · have hno : ¬ Own v x := fun ho => by have := hB.own ho; omega
          rw [f.2 x (by simp; omega) hxb hno, IH.get_push_other _ _ _ (by omega)]
        · have := ho _ h; simp at this; omega
        · rw [f.2 H.next (by simp) (by omega) hno1]; exact IH.get_push_same _ _
    -- the token's text
    have put : ∀ (H3 : IH) (x : ByteArray), Fr H2.next H2 H3 → (acc ++ (if (decide (i = 0)) then [] else [32])).length + x.size < 2 ^ 39 → ∃ H4 v4, cal J okAll 26 #[.pointer (some ⟨b, 0, none⟩), .string x] H3 = some (.ret (.tuple #[.int .i64 (x.size : Int), .nilIface]), H4) ∧
        Bd H4 b v4 (acc ++ ((if (decide (i = 0)) then [] else [32]) ++ bytesI x)) lo ∧ H.next ≤ H4.next ∧ (∀ y, y < lo → y ≠ b → H4.get y = H.get y) := fun H3 x f3 hx => by
      have hB3 := hB2.mono f3
      obtain ⟨H4, v4, f4, e4, hB4, ho4⟩ := c26 H3 b v2 _ lo x hB3 hx
      refine ⟨H4, v4, e4, by rw [← List.append_assoc]; exact hB4, by have := f3.1; have := f4.1; omega, fun y hy hyb => ?_⟩
      have hno : ¬ Own v2 y := fun ho => by have := hB2.own ho; omega
      rw [f4.2 y (by have := f3.1; omega) hyb hno, f3.2 y (by omega), hf2 y hy hyb]
    have hnb : ¬ H.next = b := by omega
    have hsz2 : (acc ++ (if (decide (i = 0)) then [] else [32])).length + (tkS t.2).size < 2 ^ 39 := by
      rw [← bytesI_length]
      simp only [List.length_append]
      omega
    have step : ∃ T1 H4 v4, run J okAll (.loop L17_0) T H = run J okAll (.loop L17_0) T1 H4 ∧ Bd H4 b v4 (acc ++ ((if (decide (i = 0)) then [] else [32]) ++ bytesI (tkS t.2))) lo ∧ H.next ≤ H4.next ∧ (∀ y, y < lo → y ≠ b → H4.get y = H.get y) ∧
        T1.at 3 = .pointer (some ⟨b, 0, none⟩) ∧ T1.at 6 = .slice (some ⟨tb, 0, none⟩) l.length c ∧ T1.at 7 = .int .i64 (l.length : Int) ∧ T1.at 8 = .int .i64 ((i : Int) + 1) := by
      simp only [tkI] at e2 hx2 hc
      by_cases k1 : t.2.kind = 1
      · have k1D : decide (t.2.kind = 1) = true := decide_eq_true k1
        obtain ⟨H3, f3, e3⟩ := hto.1 k1 H2
        have hts : tkS t.2 = strOf (fmtL t.2.n) := if_pos k1
        rw [hts] at hsz2 ⊢
        obtain ⟨H4, v4, e4, hB4, hn4, hf4⟩ := put H3 _ f3 hsz2
        have go : ∃ T1, run J okAll (.loop L17_0) T H = run J okAll (.loop L17_0) T1 H4 ∧ T1.at 3 = .pointer (some ⟨b, 0, none⟩) ∧ T1.at 6 = .slice (some ⟨tb, 0, none⟩) l.length c ∧ T1.at 7 = .int .i64 (l.length : Int) ∧ T1.at 8 = .int .i64 ((i : Int) + 1) := by
          by_cases hi0 : i = 0
          · have e2' := e2.2 hi0
            subst hi0
            subst e2'
            rw [r_loop]
            simp [L17_0, t3, t6, t7, t8, hlt, iindexAddr, hc, inew, istore, Value.cells, plain1, overlay, push_set, w1, w0, k1D, e3, e4]
            exact ⟨_, rfl, by simp [t3], by simp [t6], by simp [t7], by simp⟩
          · have e2' := e2.1 (by omega)
            have hi0' : 0 < i := by omega
            rw [r_loop]
            simp [L17_0, t3, t6, t7, t8, hlt, iindexAddr, hc, inew, istore, Value.cells, plain1, overlay, push_set, w1, w0, hi0', e2', hx2, k1D, e3, e4]
            exact ⟨_, rfl, by simp [t3], by simp [t6], by simp [t7], by simp⟩
        obtain ⟨T1, g0, g1⟩ := go
        exact ⟨T1, H4, v4, g0, hB4, hn4, hf4, g1⟩
      · have k1D : decide (t.2.kind = 1) = false := decide_eq_false k1
        by_cases k2 : t.2.kind = 2
        · have k2D : decide (t.2.kind = 2) = true := decide_eq_true k2
          obtain ⟨H3, f3, e3⟩ := hto.2 k2 H2
          have hts : tkS t.2 = strOf (quoL t.2.text) := by unfold tkS; rw [if_neg k1, if_pos k2]
          rw [hts] at hsz2 ⊢
          obtain ⟨H4, v4, e4, hB4, hn4, hf4⟩ := put H3 _ f3 hsz2
          have go : ∃ T1, run J okAll (.loop L17_0) T H = run J okAll (.loop L17_0) T1 H4 ∧ T1.at 3 = .pointer (some ⟨b, 0, none⟩) ∧ T1.at 6 = .slice (some ⟨tb, 0, none⟩) l.length c ∧ T1.at 7 = .int .i64 (l.length : Int) ∧ T1.at 8 = .int .i64 ((i : Int) + 1) := by
            by_cases hi0 : i = 0
            · have e2' := e2.2 hi0
              subst hi0
              subst e2'
              rw [r_loop]
              simp [L17_0, t3, t6, t7, t8, hlt, iindexAddr, hc, inew, istore, Value.cells, plain1, overlay, push_set, w1, w0, k1D, k2D, e3, e4]
              exact ⟨_, rfl, by simp [t3], by simp [t6], by simp [t7], by simp⟩
            · have e2' := e2.1 (by omega)
              have hi0' : 0 < i := by omega
              rw [r_loop]
              simp [L17_0, t3, t6, t7, t8, hlt, iindexAddr, hc, inew, istore, Value.cells, plain1, overlay, push_set, w1, w0, hi0', e2', hx2, k1D, k2D, e3, e4]
              exact ⟨_, rfl, by simp [t3], by simp [t6], by simp [t7], by simp⟩
          obtain ⟨T1, g0, g1⟩ := go
          exact ⟨T1, H4, v4, g0, hB4, hn4, hf4, g1⟩
        · have hts : tkS t.2 = t.2.text := by unfold tkS; rw [if_neg k1, if_neg k2]
          rw [hts] at hsz2 ⊢
          obtain ⟨H4, v4, e4, hB4, hn4, hf4⟩ := put H2 _ (Fr.refl _ _) hsz2
          have go : ∃ T1, run J okAll (.loop L17_0) T H = run J okAll (.loop L17_0) T1 H4 ∧ T1.at 3 = .pointer (some ⟨b, 0, none⟩) ∧ T1.at 6 = .slice (some ⟨tb, 0, none⟩) l.length c ∧ T1.at 7 = .int .i64 (l.length : Int) ∧ T1.at 8 = .int .i64 ((i : Int) + 1) := by
            by_cases hi0 : i = 0
            · have e2' := e2.2 hi0
              subst hi0
              subst e2'
              rw [r_loop]
              simp [L17_0, t3, t6, t7, t8, hlt, iindexAddr, hc, inew, istore, Value.cells, plain1, overlay, push_set, w1, w0, k1, k2, e4]
              exact ⟨_, rfl, by simp [t3], by simp [t6], by simp [t7], by simp⟩
            · have e2' := e2.1 (by omega)
              have hi0' : 0 < i := by omega
              rw [r_loop]
              simp [L17_0, t3, t6, t7, t8, hlt, iindexAddr, hc, inew, istore, Value.cells, plain1, overlay, push_set, w1, w0, hi0', e2', hx2, k1, k2, e4]
              exact ⟨_, rfl, by simp [t3], by simp [t6], by simp [t7], by simp⟩
          obtain ⟨T1, g0, g1⟩ := go
          exact ⟨T1, H4, v4, g0, hB4, hn4, hf4, g1⟩
    obtain ⟨T1, H4, v4, e0, hB4, hn4, hf4, f3, f6, f7, f8⟩ := step
    have hrow4 : TkRowI H4 tb l := fun j hj => by rw [hf4 tb htb hne]; exact hrow j hj
    obtain ⟨T', H', v', r1, r2, r3, r4, r5⟩ := ih (i + 1) _ H4 v4 T1 (by omega) (by omega) (by rw [hdf]; simp only [List.length_append]; omega) hrow4 hB4 f3 f6 f7 (by rw [f8]; simp)
    refine ⟨T', H', v', by rw [e0, r1], by omega, fun x hx hxb => by rw [r3 x hx hxb, hf4 x hx hxb], ?_, r5⟩
    rw [hdf] at r4
    simpa [List.append_assoc] using r4
end Go.Proofs.YtjbcjcibnjbpcaaDoor.Idl
namespace Go.Proofs.YtjbcjcibnjbpcaaDoor.Idl
open Go
set_option maxHeartbeats 16000000
set_option maxRecDepth 100000
set_option linter.unusedSimpArgs false
theorem c17I (H : IH) (v : Value) (l : List (Nat × Tk)) (hl : l.length < 2 ^ 30) (hok : ∀ t ∈ l, TokOk t.2) (hsz : (prF true l).length < 2 ^ 39)
    (hv : (v = .slice none 0 0 ∧ l = []) ∨ ∃ tb c, v = .slice (some ⟨tb, 0, none⟩) l.length c ∧ tb < H.next ∧ TkRowI H tb l) :
    ∃ H', Fr H.next H H' ∧ cal J okAll 17 #[v] H = some (.ret (.string (strOf (prF true l))), H') := by
  have hB : Bd (H.push (.cells [.pointer none, .slice none 0 0] 53 false)) H.next (.slice none 0 0) [] (H.next + 1) :=
    ⟨by omega, by simp, none, IH.get_push_same _ _, .inl rfl, .inl ⟨rfl, rfl⟩, fun _ => rfl⟩
  rw [cal17 _ _ (by simp)]
  rcases hv with ⟨rfl, rfl⟩ | ⟨tb, c, rfl, htb, hrow⟩
  · obtain ⟨H', f, e⟩ := c29 _ _ _ _ _ hB (by simp)
    refine ⟨H', ⟨by have := f.1; simp at this; omega, fun x hx => by rw [f.2 x (by simp; omega) (by omega) (fun ⟨n, k, ho⟩ => by cases ho), IH.get_push_other _ _ _ hx]⟩, ?_⟩
    simp [C17, R17, regsOf, fin, iresult1, inew, Value.cells]
    generalize hX : run J okAll (.loop L17_0) _ _ = X
    have : ∃ T', X = some (.exit 0, T', H.push (.cells [.pointer none, .slice none 0 0] 53 false)) ∧ T'.at 3 = .pointer (some ⟨H.next, 0, none⟩) := by
      rw [← hX, r_loop]
      simp [L17_0]
    obtain ⟨T', e1, e2⟩ := this
    rw [e1]
    simp [e2, e, fin, iresult1, prF]
  · have hne : tb ≠ H.next := by omega
    have hrow1 : TkRowI (H.push (.cells [.pointer none, .slice none 0 0] 53 false)) tb l := fun i hi => by rw [IH.get_push_other _ _ _ htb]; exact hrow i hi
    have key := fun T => loop17 tb H.next (H.next + 1) c l hl (by omega) hne hok _ 0 [] _ (.slice none 0 0) T rfl (by omega) (by simpa using hsz) hrow1 hB
    simp [C17, R17, regsOf, fin, iresult1, inew, Value.cells]
    generalize hX : run J okAll (.loop L17_0) _ _ = X
    obtain ⟨T1, e1, t3, t6, t7, t8⟩ : ∃ T1, run J okAll (.loop L17_0) T1 (H.push (.cells [.pointer none, .slice none 0 0] 53 false)) = X ∧ T1.at 3 = .pointer (some ⟨H.next, 0, none⟩) ∧ T1.at 6 = .slice (some ⟨tb, 0, none⟩) l.length c ∧ T1.at 7 = .int .i64 (l.length : Int) ∧ T1.at 8 = .int .i64 ((0 : Nat) : Int) :=
      ⟨_, hX, by simp, by simp, by simp, by simp⟩
    obtain ⟨T', H', v', r1, r2, r3, r4, r5⟩ := key T1 t3 t6 t7 t8
    simp only [List.drop_zero, List.nil_append, decide_true] at r4
    obtain ⟨H2, f, e⟩ := c29 _ _ _ _ _ r4 hsz
    rw [← e1, r1]
    refine ⟨H2, ⟨by have := f.1; simp at r2; omega, fun x hx => ?_⟩, ?_⟩
    · rw [f.2 x (by simp at r2; omega) (by omega) (fun ho => by have := r4.own ho; omega), r3 x (by omega) (by omega), IH.get_push_other _ _ _ hx]
    · simp [r5, e, fin, iresult1]
theorem c17 (H : IH) (v : Value) (l : List (Nat × Tk)) (hl : l.length < 2 ^ 30) (hok : ∀ t ∈ l, TokOk t.2) (hsz : (prF true l).length < 2 ^ 39)
    (hv : (v = .slice none 0 0 ∧ l = []) ∨ ∃ tb c, v = .slice (some ⟨tb, 0, none⟩) l.length c ∧ tb < H.next ∧ TkRow H tb l) :
    ∃ H', Fr H.next H H' ∧ cal J okAll 17 #[v] H = some (.ret (.string (strOf (prF true l))), H') :=
  c17I H v l hl hok hsz (hv.imp id fun ⟨tb, c, h1, h2, h3⟩ => ⟨tb, c, h1, h2, h3.toI⟩)
def exA : ByteArray := ⟨#[118, 97, 108, 32, 120, 61, 126, 49]⟩
def exB : ByteArray := ⟨#[40, 42, 32, 97, 32, 40, 42, 32, 98, 32, 42, 41, 32, 42, 41, 32, 99]⟩
def exC : ByteArray := ⟨#[52, 54, 49, 49, 54, 56, 54, 48, 49, 56, 52, 50, 55, 51, 56, 55, 57, 48, 52]⟩
def toksA : List (Nat × Tk) := [(0, ⟨6, ⟨#[118, 97, 108]⟩, 0, 3, true⟩), (4, ⟨3, ⟨#[120]⟩, 0, 5, true⟩), (5, ⟨6, ⟨#[61]⟩, 0, 6, true⟩), (6, ⟨6, ⟨#[126]⟩, 0, 7, true⟩), (7, ⟨1, ⟨#[]⟩, 1, 8, true⟩)]
def toksB : List (Nat × Tk) := [(16, ⟨3, ⟨#[99]⟩, 0, 17, true⟩)]
theorem lexA : lexR exA = .ok toksA := by kernel_rfl
theorem lexB : lexR exB = .ok toksB := by kernel_rfl
theorem lexC : lexR exC = .err 10 0 := by kernel_rfl
theorem okA : ∀ t ∈ toksA, TokOk t.2 := by
  intro t ht
  simp only [toksA, List.mem_cons, List.not_mem_nil, or_false] at ht
  rcases ht with rfl | rfl | rfl | rfl | rfl
  · exact ⟨fun h => absurd h (by decide), fun h => absurd h (by decide)⟩
  · exact ⟨fun h => absurd h (by decide), fun h => absurd h (by decide)⟩
  · exact ⟨fun h => absurd h (by decide), fun h => absurd h (by decide)⟩
  · exact ⟨fun h => absurd h (by decide), fun h => absurd h (by decide)⟩
  · exact ⟨fun _ => fmt_ok 1 (by omega) (by omega), fun h => absurd h (by decide)⟩
theorem prA : strOf (prF true toksA) = ⟨#[118, 97, 108, 32, 120, 32, 61, 32, 126, 32, 49]⟩ := by kernel_rfl
end Go.Proofs.YtjbcjcibnjbpcaaDoor.Idl
namespace Go.Proofs.YtjbcjcibnjbpcaaDoor.Idl
open Go
set_option maxHeartbeats 16000000
set_option maxRecDepth 100000
set_option linter.unusedSimpArgs false
theorem c16 (H : IH) (hG : Glob H) : ∃ H', Fr H.next H H' ∧ cal J okAll 16 #[] H = some (.ret (.bool true), H') := by
  have h9 := hG.2.2
  obtain ⟨H1, v1, f1, e1, hv1⟩ := c13 H exA hG (by decide)
  have hG1 := hG.mono h9 f1
  obtain ⟨H2, v2, f2, e2, hv2⟩ := c13 H1 exB hG1 (by decide)
  have f12 : Fr H.next H H2 := f1.trans' f2 f1.1
  have hG2 := hG.mono h9 f12
  obtain ⟨H3, v3, f3, e3, hv3⟩ := c13 H2 exC hG2 (by decide)
  have f13 : Fr H.next H H3 := f12.trans' f3 f12.1
  rw [lexA] at e1 hv1
  rw [lexB] at e2 hv2
  rw [lexC] at e3 hv3
  obtain ⟨b1, l1, rfl, g1⟩ : ∃ b1, b1 < H1.next ∧ v1 = .slice (some ⟨b1, 0, none⟩) 5 capU ∧ H1.get b1 = some (.cells (toksA.map tkC).flatten 31 false) := by
    rcases hv1.2 with ⟨_, h⟩ | ⟨b, _, h2, h3, h4⟩
    · cases h
    · exact ⟨b, h2, h3, h4⟩
  obtain ⟨b2, l2, rfl, g2⟩ : ∃ b2, b2 < H2.next ∧ v2 = .slice (some ⟨b2, 0, none⟩) 1 capU ∧ H2.get b2 = some (.cells (toksB.map tkC).flatten 31 false) := by
    rcases hv2.2 with ⟨_, h⟩ | ⟨b, _, h2, h3, h4⟩
    · cases h
    · exact ⟨b, h2, h3, h4⟩
  have g13 : H3.get b1 = some (.cells (toksA.map tkC).flatten 31 false) := by rw [f3.2 b1 (by have := f2.1; omega), f2.2 b1 l1]; exact g1
  have g23 : H3.get b2 = some (.cells (toksB.map tkC).flatten 31 false) := by rw [f3.2 b2 l2]; exact g2
  have hv13 : TksAt H3 (.slice (some ⟨b1, 0, none⟩) toksA.length capU) toksA H.next := ⟨hv1.1, .inr ⟨b1, by
    rcases hv1.2 with ⟨_, h⟩ | ⟨b, h1, h2, h3, h4⟩
    · cases h
    · simp only [Value.slice.injEq, Option.some.injEq, Addr.mk.injEq] at h3; omega, by have := f2.1; have := f3.1; omega, rfl, g13⟩⟩
  obtain ⟨H4, f4, e4⟩ := c17 H3 (.slice (some ⟨b1, 0, none⟩) 5 capU) toksA (by decide) okA (by decide) (.inr ⟨b1, capU, rfl, by have := f2.1; have := f3.1; omega, fun i hi => tks_cell hv13 hi⟩)
  rw [prA] at e4
  refine ⟨H4, f13.trans' f4 f13.1, ?_⟩
  unfold exA at e1
  unfold exB at e2
  unfold exC at e3
  have x1 : cellOf (H3.get b1) 19 = some (.int .i64 1) := by rw [g13]; rfl
  have x2 : cellOf (H3.get b1) 14 = some (.string ⟨#[126]⟩) := by rw [g13]; rfl
  have x3 : cellOf (H3.get b2) 1 = some (.int .i64 16) := by rw [g23]; rfl
  simp only [LR.errno, LR.pos] at e1 e2 e3
  rw [cal16 _ _ (by simp)]
  simp [C16, R16, regsOf, fin, iresult1, e1, e2, e3, e4, iindexAddr, x1, x2, x3]
theorem lexF_len (s : ByteArray) : ∀ (k p : Nat) (acc : List (Nat × Tk)), acc.length ≤ 4000 → (lexF s k p acc).toks.length ≤ 4000 := by
  intro k
  induction k with
  | zero => intro p acc _; simp [lexF, LR.toks]
  | succ k ih =>
    intro p acc h
    simp only [lexF]
    split
    · simp [LR.toks]
    · split
      · exact h
      · split
        · simp [LR.toks]
        · split
          · simp [LR.toks]
          · exact ih _ _ (by simp; omega)
theorem lexR_len (s : ByteArray) : (lexR s).toks.length ≤ 4000 := by
  unfold lexR
  split
  · simp [LR.toks]
  · exact lexF_len s _ _ [] (by simp)
theorem c3 (H : IH) (hG : Glob H) (s : ByteArray) : ∃ H', Fr H.next H H' ∧ cal J okAll 3 #[.string s] H = some (.ret (.bool true), H') := by
  have h9 := hG.2.2
  have hs := cutF_size s
  have k := c12 H s
  obtain ⟨H1, v1, f1, e1, hv1⟩ := c13 H (cutF s) hG (by omega)
  have hG1 := hG.mono h9 f1
  obtain ⟨H2, v2, f2, e2, hv2⟩ := c14 H1 (cutF s) (by omega)
  have f12 : Fr H.next H H2 := f1.trans' f2 f1.1
  have hG2 := hG.mono h9 f12
  have hlen : (lexR (cutF s)).toks.length < 2 ^ 39 := by
    have := lexR_len (cutF s)
    omega
  have hv1' : TksAt H2 v1 (lexR (cutF s)).toks H.next := hv1.mono f2.1 (fun x hx1 hx2 => f2.2 x hx2)
  have hv2' : TksAt H2 v2 (lexR (cutF s)).toks H.next := hv2.low f1.1
  have e15 := c15 H2 v1 v2 _ H.next hlen hv1' hv2'
  obtain ⟨H3, f3, e16⟩ := c16 H2 hG2
  refine ⟨H3, f12.trans' f3 f12.1, ?_⟩
  rw [cal3 _ _ (by simp)]
  simp [C3, R3, regsOf, fin, iresult1, k, e1, e2, e15, e16]
end Go.Proofs.YtjbcjcibnjbpcaaDoor.Idl
namespace Go.Proofs.YtjbcjcibnjbpcaaDoor.Idl
open Go Go.ChangeShapes Go.WideShapes Go.ChangeAt Go.RowKit
set_option maxRecDepth 100000
set_option linter.unusedSimpArgs false
theorem laid_mem {P : Program} {w : World} : ∀ (l : List (String × DataW Unit)) (ps : List MemPlace), DataW.LaidVars P w l ps → ∀ x ∈ l, ∃ g t cs fuel p, P.globalNamed x.1 = some g ∧ (P.globals[g]?).map (·.type) = some t ∧ w.var? P x.1 = some cs ∧
    DataW.trod (fun _ => ()) P w 0 (fun _ => true) false fuel t cs.toList = some (x.2, p) ∧ ∀ y ∈ MemPlace.row ⟨g, 0, none⟩ cs.size, y ∈ ps := by
  intro l
  induction l with
  | nil => intro ps _ x hx; simp at hx
  | cons a l ih =>
    intro ps h x hx
    obtain ⟨n, d⟩ := a
    obtain ⟨g, t, cs, fuel, p, q, h1, h2, h3, h4, h5, h6⟩ := h
    rcases List.mem_cons.1 hx with rfl | hx
    · exact ⟨g, t, cs, fuel, p, h1, h2, h3, h4, fun y hy => by rw [h6]; simp [hy]⟩
    · obtain ⟨g', t', cs', fuel', p', k1, k2, k3, k4, k5⟩ := ih q h5 x hx
      exact ⟨g', t', cs', fuel', p', k1, k2, k3, k4, fun y hy => by rw [h6]; simp [k5 y hy]⟩
theorem var_heap {P : Program} {w : World} {n : String} {g : Nat} {cs : Array Value} (hg : P.globalNamed n = some g) (h : w.var? P n = some cs) : ∃ t fr, w.heap[g]? = some (.cells cs t fr) := by
  unfold World.var? at h
  rw [hg] at h
  simp only [Option.bind_some] at h
  split at h
  · rename_i e; cases h; exact ⟨_, _, e⟩
  · cases h
def aspD : List Int := (List.range 256).map fun c : Nat => spI (c : Int)
theorem ascii_heap {W : World} (h : laidMet Tryd.prog Rows.lexReadsRow.laid W) : ∃ rc re fr, W.heap[0]? = some (.cells rc re fr) ∧ rc.size = 256 ∧ ∀ c : Nat, c < 256 → rc[c]? = some (.int .u8 (spI c)) := by
  obtain ⟨ps, hv, _, _⟩ := h
  obtain ⟨g, t, cs, fuel, p, hg, ht, hvar, hd, _⟩ := laid_mem _ _ hv ("strings.asciiSpace", Rows.laid_strings_asciiSpace) (by simp [Rows.lexReadsRow])
  simp only at hg ht hvar hd
  obtain rfl := Option.some.inj ((show Tryd.prog.globalNamed "strings.asciiSpace" = some 0 by kernel_rfl).symm.trans hg)
  obtain rfl := Option.some.inj ((show (Tryd.prog.globals[0]?).map (·.type) = some 77 by kernel_rfl).symm.trans ht)
  obtain ⟨t', fr, hh⟩ := var_heap hg hvar
  have c5 : Tryd.prog.cellsOf 5 = 1 := by kernel_rfl
  have c77 : Tryd.prog.cellsOf 77 = 256 := by kernel_rfl
  have hu5 : Tryd.prog.underlying 5 = some (.int .u8) := by kernel_rfl
  have hlen : aspD.length = 256 := by kernel_rfl
  have hlay : (Rows.laid_strings_asciiSpace : DataW Unit) = .agg (aspD.map fun n => .lit (.int .u8 n)) := by kernel_rfl
  obtain ⟨xs, m, _, ex, hcl, hl, hel⟩ := DataW.trod_array (show Tryd.prog.underlying 77 = some (.array 256 5) by kernel_rfl) hd
  rw [c77] at hcl
  refine ⟨cs, t', fr, hh, by simpa using hcl, fun r hr => ?_⟩
  have hE := hel r hr
  rw [c5, Nat.mul_one, List.getElem?_eq_getElem (by omega)] at hE
  obtain ⟨z, e1, e2, _⟩ := DataW.trod_int hu5 hE
  rw [hlay] at ex
  have e3 : (xs.map (·.1)) = aspD.map fun n => .lit (.int .u8 n) := (DataW.agg.inj (Prod.mk.inj ex).1).symm
  have e4 : (xs.map (·.1))[r]? = (aspD.map fun n => (DataW.lit (.int .u8 n) : DataW Unit))[r]? := by rw [e3]
  rw [List.getElem?_map, List.getElem?_map, List.getElem?_eq_getElem (by omega : r < xs.length), List.getElem?_eq_getElem (by omega : r < aspD.length), e2] at e4
  have hz : z = spI (r : Int) := by
    simp only [Option.map_some, Option.some.injEq, DataW.lit.injEq, Lit.int.injEq, true_and] at e4
    rw [e4]
    simp [aspD]
  have : cs.toList[r]? = some (.int .u8 z) := by
    have h0 : ((cs.toList.drop r).take 1)[0]? = some (.int .u8 z) := by rw [e1]; rfl
    simpa using h0
  rw [← hz]
  simpa using this
theorem err_heap {W : World} (h : laidMet Tryd.prog Rows.lexReadsRow.laid W) : ∃ rc re fr a, W.heap[4]? = some (.cells rc re fr) ∧ rc[0]? = some (.iface 129 (.pointer (some a))) ∧ a.spot = none := by
  obtain ⟨ps, hv, _, hok⟩ := h
  obtain ⟨g, t, cs, fuel, p, hg, ht, hvar, hd, hps⟩ := laid_mem _ _ hv ("strconv.ErrRange", Rows.laid_strconv_ErrRange) (by simp [Rows.lexReadsRow])
  simp only at hg ht hvar hd
  obtain rfl := Option.some.inj ((show Tryd.prog.globalNamed "strconv.ErrRange" = some 4 by kernel_rfl).symm.trans hg)
  obtain rfl := Option.some.inj ((show (Tryd.prog.globals[4]?).map (·.type) = some 55 by kernel_rfl).symm.trans ht)
  obtain ⟨t', fr, hh⟩ := var_heap hg hvar
  have hu : Tryd.prog.underlying 55 = some (TypeDesc.interface #[("Error", 60)]) := by kernel_rfl
  cases fuel with
  | zero => simp [DataW.trod] at hd
  | succ fuel =>
  obtain ⟨L, hL⟩ : ∃ L, L = cs.toList := ⟨_, rfl⟩
  rw [← hL] at hd
  have key : ∃ u v y, L = [.iface u v] ∧ Tryd.prog.typeName? 3 u = some "*errors.errorString" ∧ DataW.trod (fun _ => ()) Tryd.prog W 0 (fun _ => true) false fuel u v.cells.toList = some y ∧ y.1 = .ptr (.agg [.lit (.string [118, 97, 108, 117, 101, 32, 111, 117, 116, 32, 111, 102, 32, 114, 97, 110, 103, 101])]) := by
    cases L with
    | nil => simp [DataW.trod, hu] at hd
    | cons x r => cases r with
      | cons y r => simp [DataW.trod, hu] at hd
      | nil =>
        cases x <;> try (simp [DataW.trod, hu] at hd; done)
        case nilIface => simp [DataW.trod, hu, Rows.laid_strconv_ErrRange] at hd
        case iface u v =>
          simp only [DataW.trod, hu] at hd
          cases hn : Tryd.prog.typeName? 3 u with
          | none => rw [hn] at hd; cases hd
          | some name =>
            rw [hn] at hd
            simp only at hd
            cases hq : DataW.trod (fun _ => ()) Tryd.prog W 0 (fun _ => true) false fuel u v.cells.toList with
            | none => rw [hq] at hd; cases hd
            | some y =>
              rw [hq] at hd
              simp only [Option.map_some, Option.some.injEq, Prod.mk.injEq, Rows.laid_strconv_ErrRange, DataW.iface.injEq] at hd
              exact ⟨u, v, y, rfl, by rw [hn, hd.1.1], hq, hd.1.2⟩
  obtain ⟨u, v, y, rfl, hname, htr, hy⟩ := key
  have hstar : "*" ++ "errors.errorString" = "*errors.errorString" := by decide
  have hu129 : u = 129 := typeName_ptr_named (nm := "errors.errorString") (tp := 129) (by rw [hstar]; kernel_rfl) (by kernel_rfl) (by decide) u (by rw [hstar]; exact hname)
  subst hu129
  have hu2 : Tryd.prog.underlying 129 = some (.pointer 131) := by kernel_rfl
  have hcs : cs[0]? = some (.iface 129 v) := by
    have : cs.toList[0]? = some (.iface 129 v) := by rw [← hL]; rfl
    simpa using this
  have hcell : W.cell? ⟨4, 0, none⟩ = some (.iface 129 v) := by rw [cell_at hh]; exact hcs
  have hsz : cs.size = 1 := by
    have := congrArg List.length hL
    simpa using this.symm
  obtain ⟨_, hwide⟩ := hok 4 0 (hps _ (by rw [hsz]; decide))
  obtain ⟨a, rfl⟩ := okWide_pointer hu2 (hwide _ _ hcell)
  rcases DataW.trod_pointer hu2 htr with ⟨h1, h2⟩ | ⟨a', cs', y', n, _, h1, _, h3, _⟩
  · rw [h2] at hy; cases hy
  · have ha : a = some a' := by
      have : [Value.pointer a] = [.pointer (some a')] := h1
      simpa using this
    subst ha
    refine ⟨cs, t', fr, a', hh, hcs, ?_⟩
    have c131 : Tryd.prog.cellsOf 131 = 1 := by kernel_rfl
    rw [c131] at h3
    unfold World.cells? at h3
    simp only [Nat.zero_le, if_true] at h3
    have : ∃ v0, W.cell? (a'.add 0) = some v0 := by
      rw [show List.range 1 = [0] from rfl] at h3
      cases hq : W.cell? (a'.add 0) with
      | some v0 => exact ⟨v0, rfl⟩
      | none => simp [hq] at h3
    obtain ⟨v0, hv0⟩ := this
    have hs := World.cell?_spot hv0
    simpa [Addr.add] using hs
theorem pow_tab {W : World} (h : laidMet Tryd.prog Rows.lexReadsRow.laid W) : Lib.TabIs Tryd.prog W "internal/strconv.uint64pow10" .u64 Lib.pow10Tab := by
  obtain ⟨ps, hv, _, _⟩ := h
  obtain ⟨g, t, cs, fuel, p, hg, ht, hvar, hd, _⟩ := laid_mem _ _ hv ("internal/strconv.uint64pow10", Rows.laid_internal_strconv_uint64pow10) (by simp [Rows.lexReadsRow])
  simp only at hg ht hvar hd
  obtain rfl := Option.some.inj ((show Tryd.prog.globalNamed "internal/strconv.uint64pow10" = some 2 by kernel_rfl).symm.trans hg)
  obtain rfl := Option.some.inj ((show (Tryd.prog.globals[2]?).map (·.type) = some 107 by kernel_rfl).symm.trans ht)
  rw [show (Rows.laid_internal_strconv_uint64pow10 : DataW Unit) = Lib.tabData .u64 Lib.pow10Tab by kernel_rfl] at hd
  unfold Lib.TabIs
  rw [hvar, ← Lib.cells_of_tab (show Tryd.prog.underlying 107 = some (.array 20 87) by kernel_rfl) (by kernel_rfl) (by kernel_rfl) (by kernel_rfl) hd]
theorem keep0 {W : World} (h : laidMet Tryd.prog Rows.lexReadsRow.laid W) : J.keep W.heap.size W := fun w' hw => by
  have hp := pow_tab h
  show Lib.TabIs Tryd.prog w' _ _ _
  have hg : Tryd.prog.globalNamed "internal/strconv.uint64pow10" = some 2 := by kernel_rfl
  obtain ⟨t, fr, hh⟩ := var_heap hg hp
  unfold Lib.TabIs at hp ⊢
  rw [← hp]
  unfold World.var?
  rw [hg]
  simp only [Option.bind_some]
  rw [hw 2 (heap_lt hh)]
end Go.Proofs.YtjbcjcibnjbpcaaDoor.Idl
namespace Go.Proofs.YtjbcjcibnjbpcaaDoor.Idl
open Go Go.ChangeShapes Go.WideShapes Go.ChangeAt Go.RowKit
set_option maxRecDepth 100000
set_option linter.unusedSimpArgs false
def aspB : Blk := .cells (aspD.map (Value.int .u8)) 77 true
theorem aspB_ok : AspB aspB := by
  refine ⟨_, true, rfl, by kernel_rfl, fun c hc => ?_⟩
  simp [aspD, hc]
def H0 : IH := { next := 10, t := (Tr.leaf.set 0 aspB).set 4 (.cells [.iface 129 (.pointer (some ⟨9, 0, none⟩))] 55 true) }
theorem H0_get (b : Nat) (x : Blk) (h : H0.get b = some x) : (b = 0 ∧ x = aspB) ∨ (b = 4 ∧ x = .cells [.iface 129 (.pointer (some ⟨9, 0, none⟩))] 55 true) := by
  unfold H0 IH.get at h
  simp only [Tr.get_set] at h
  split at h
  · rename_i e; exact .inr ⟨e, (Option.some.inj h).symm⟩
  · split at h
    · rename_i e; exact .inl ⟨e, (Option.some.inj h).symm⟩
    · simp [Tr.get_leaf] at h
theorem H0_glob : Glob H0 := by
  refine ⟨⟨aspB, aspB_ok, ?_⟩, ⟨_, ⟨129, ⟨9, 0, none⟩, true, rfl⟩, ?_⟩, ?_⟩
  · unfold H0 IH.get; simp only [Tr.get_set]; rfl
  · unfold H0 IH.get; simp only [Tr.get_set]; rfl
  · decide
theorem start {W : World} (h : laidMet Tryd.prog Rows.lexReadsRow.laid W) : ∃ ι, Sim J W.heap.size ι H0 W := by
  obtain ⟨rc, re, fr, h1, h2, h3⟩ := ascii_heap h
  obtain ⟨rc4, re4, fr4, a, k1, k2, k3⟩ := err_heap h
  have hJ : J.P = Tryd.prog := rfl
  have hsz : Tryd.prog.globals.size = 9 := by kernel_rfl
  refine ⟨fun b => if b = 9 then ⟨a.block, a.off, 0, 0⟩ else if b = 0 then ⟨0, 0, 256, rc.size⟩ else if b = 4 then ⟨4, 0, 1, rc4.size⟩ else ⟨b, 0, 0, 0⟩, ⟨Nat.le_refl _, fun g hg => ?_, fun b x hb => ?_, fun b cs e pr hb => ?_, fun b cs e hb => ?_, fun b es pr hb => ?_, fun b s p hb => ?_, keep0 h, fun b b' x x' hb hb' _ _ _ hw => ?_⟩⟩
  · rw [hJ, hsz] at hg
    have hn : H0.next = 10 := rfl
    refine ⟨by omega, ?_, ?_⟩
    all_goals
      rw [if_neg (by omega)]
      split
      · rename_i e; first | exact e.symm | rfl
      · split
        · rename_i e; first | exact e.symm | rfl
        · rfl
  · have hn : H0.next = 10 := rfl
    rcases H0_get b x hb with ⟨rfl, _⟩ | ⟨rfl, _⟩ <;> omega
  · rcases H0_get b _ hb with ⟨rfl, hx⟩ | ⟨rfl, hx⟩
    · unfold aspB at hx
      cases hx
      refine ⟨rc, re, fr, h1, fun i v hv => ?_, rfl, by simp, fun hf => by cases hf⟩
      rw [List.getElem?_map] at hv
      cases hq : aspD[i]? with
      | none => rw [hq] at hv; cases hv
      | some n =>
        rw [hq] at hv
        cases hv
        have hlen : aspD.length = 256 := by kernel_rfl
        have hi : i < 256 := by rw [← hlen]; exact (List.getElem?_eq_some_iff.1 hq).1
        have hn : n = spI (i : Int) := by
          have : aspD[i]? = some (spI (i : Int)) := by simp [aspD, hi]
          rw [hq] at this; exact Option.some.inj this
        subst hn
        exact ⟨_, by simpa using h3 i hi, .int _ _⟩
    · cases hx
      refine ⟨rc4, re4, fr4, k1, fun i v hv => ?_, rfl, by simp, fun hf => by cases hf⟩
      cases i with
      | zero =>
        cases hv
        refine ⟨_, by simpa using k2, .iface _ (.ptr ⟨rfl, by decide, ?_⟩)⟩
        obtain ⟨ab, ao, asp⟩ := a
        simp only at k3
        subst k3
        simp
      | succ i => simp at hv
  · rcases H0_get b _ hb with ⟨rfl, hx⟩ | ⟨rfl, hx⟩
    · unfold aspB at hx; cases hx
    · cases hx
  · rcases H0_get b _ hb with ⟨rfl, hx⟩ | ⟨rfl, hx⟩
    · unfold aspB at hx; cases hx
    · cases hx
  · rcases H0_get b _ hb with ⟨rfl, hx⟩ | ⟨rfl, hx⟩
    · unfold aspB at hx; cases hx
    · cases hx
  · exfalso
    rcases H0_get b _ hb with ⟨rfl, rfl⟩ | ⟨rfl, rfl⟩ <;> rcases H0_get b' _ hb' with ⟨rfl, rfl⟩ | ⟨rfl, rfl⟩ <;> simp [writable, aspB] at hw
theorem glob_keeps {H : IH} (h : Keeps H0 H) : Glob H := by
  obtain ⟨⟨x, a, b⟩, ⟨y, c, d⟩, e⟩ := H0_glob
  exact ⟨⟨x, a, h.2 0 x b⟩, ⟨y, c, h.2 4 y d⟩, Nat.le_trans e h.1⟩
theorem keptBut_of_below {w w' : World} (h : Below w.heap.size w w') (may : MemPlace → Prop) : w.keptBut w' may := by
  have hr := World.keptBut_refl w may
  refine ⟨h.os, h.output, fun i hi => ?_⟩
  rw [h.block i hi]
  exact hr.2.2 i hi
/-- A law that the ideal machine shows to answer true is true. -/
theorem law_calls {W : World} (hL : laidMet Tryd.prog Rows.lexReadsRow.laid W) {f : FuncId} {args : Array Value} {H' : IH} (hf : args.toList.all flat = true) (hc : cal J okAll f args H0 = some (.ret (.bool true), H')) :
    Calls Tryd.prog f args W fun e W' => e = .returned (.bool true) ∧ Below W.heap.size W W' := by
  obtain ⟨ι, hS⟩ := start hL
  obtain ⟨k, hk⟩ := of_cal hc
  have hl : LRel ι H0.next args.toList args.toList := ⟨rfl, fun i x y hx hy => by
    rw [hx] at hy
    cases hy
    have := List.all_eq_true.1 hf x (List.mem_of_getElem? hx)
    exact VRel.ofFlat this⟩
  refine (sound W.heap.size k f args args H0 ι W _ _ hS hl (hk k (Nat.le_refl _))).mono fun e W' hp => ?_
  obtain ⟨ι', _, _, hB, v', rfl, hv⟩ := hp
  cases hv
  exact ⟨rfl, hB⟩
end Go.Proofs.YtjbcjcibnjbpcaaDoor.Idl
namespace Go.Proofs.YtjbcjcibnjbpcaaDoor.Idl
open Go
set_option maxHeartbeats 8000000
set_option maxRecDepth 100000
set_option linter.unusedSimpArgs false
/-- A row of bytes. -/
def ByL (l : List Int) : Prop := ∀ x ∈ l, 0 ≤ x ∧ x < 256
theorem ByL.append {l m : List Int} (h : ByL l) (h' : ByL m) : ByL (l ++ m) := fun x hx => by
  rcases List.mem_append.1 hx with a | a
  · exact h x a
  · exact h' x a
theorem bt_strOf (l : List Int) (h : ByL l) (i : Nat) (hi : i < l.length) : bt (strOf l) i = l[i] := by
  have hx := h l[i] (List.getElem_mem hi)
  unfold bt
  simp only [strOf, List.getElem?_map, List.getElem?_eq_getElem hi, Option.map_some, Option.getD_some]
  have : (UInt8.ofNat (l[i]).toNat).toNat = (l[i]).toNat := by
    rw [UInt8.toNat_ofNat']
    omega
  rw [this]
  omega
theorem sadd (l m : List Int) (h : l.length + m.length < 2 ^ 40) (x y : Operand) (H : IH) : binR J .add 9 x y (.string (strOf l)) (.string (strOf m)) H = some (.val (.string (strOf (l ++ m))) H) := by
  rw [bin_sadd J H 9 x y _ _ (eq_false (by rw [strOf_size, strOf_size]; omega)), strOf_append]
theorem TksAt.slice {H : IH} {v : Value} {l : List (Nat × Tk)} {lo : Nat} (h : TksAt H v l lo) : ∃ a c, v = .slice a l.length c := by
  rcases h.2 with ⟨h1, h2⟩ | ⟨b, _, _, h1, _⟩
  · rw [List.map_eq_nil_iff] at h2; subst h2; exact ⟨_, _, h1⟩
  · rw [List.length_map] at h1; exact ⟨_, _, h1⟩
theorem TksAt.row {H : IH} {v : Value} {l : List (Nat × Tk)} {lo : Nat} (h : TksAt H v l lo) (hl : l ≠ []) : ∃ b, lo ≤ b ∧ b < H.next ∧ v = .slice (some ⟨b, 0, none⟩) l.length capU ∧ H.get b = some (.cells (l.map tkC).flatten 31 false) := by
  rcases h.2 with ⟨h1, h2⟩ | ⟨b, h0, h1, h2, h3⟩
  · rw [List.map_eq_nil_iff] at h2; exact absurd h2 hl
  · rw [List.length_map] at h2; exact ⟨b, h0, h1, h2, h3⟩
def DigL (l : List Int) : Prop := ∀ x ∈ l, 48 ≤ x ∧ x ≤ 57
theorem natD_dig : ∀ (k n : Nat), DigL (natD k n) ∧ 0 < (natD k n).length ∧ (natD k n).length ≤ k + 1 := by
  have one : ∀ c : Nat, c < 10 → DigL [48 + ((c : Nat) : Int)] := fun c hc x hx => by simp at hx; omega
  intro k
  induction k with
  | zero => intro n; exact ⟨one _ (by omega), by simp [natD], by simp [natD]⟩
  | succ k ih =>
    intro n
    unfold natD
    split
    · rename_i h; exact ⟨one _ h, by simp, by simp⟩
    · obtain ⟨h1, h2, h3⟩ := ih (n / 10)
      refine ⟨fun x hx => ?_, by rw [List.length_append]; omega, by rw [List.length_append]; simp; omega⟩
      rcases List.mem_append.1 hx with hx | hx
      · exact h1 x hx
      · exact one (n % 10) (by omega) x hx
def rowB (l : List Int) : Blk := .cells (l.map (Value.int .u8)) 5 false
theorem bytesCells_strOf (l : List Int) (h : ByL l) : bytesCells (strOf l) = l.map (Value.int .u8) := by
  unfold bytesCells
  simp only [strOf, List.map_map]
  apply List.map_congr_left
  intro x hx
  have := h x hx
  have e : (UInt8.ofNat x.toNat).toNat = x.toNat := by rw [UInt8.toNat_ofNat']; omega
  simp only [Function.comp, e]
  congr 1
  omega
theorem conv_row (H : IH) (b cap : Nat) (l : List Int) (pr : Bool) (h : H.get b = some (.cells (l.map (Value.int .u8)) 5 pr)) : iconvert J 40 9 (.slice (some ⟨b, 0, none⟩) l.length cap) H = some (.string (strOf l), H) := by
  simp [iconvert, h, take_map, bytesOf_ints, strOf]
theorem rowB_store (done rest : List Int) (x c : Int) : overlay ((done ++ x :: rest).map (Value.int .u8)) done.length [.int .u8 c] = (done ++ c :: rest).map (Value.int .u8) := by
  unfold overlay
  have e1 : (done.map (Value.int IntKind.u8)).length = done.length := by simp
  rw [List.map_append, List.take_append_of_le_length (by simp), List.take_of_length_le (by simp), ← e1]
  rw [show (done.map (Value.int IntKind.u8)).length + [Value.int IntKind.u8 c].length = (done.map (Value.int IntKind.u8)).length + 1 from rfl, ← List.drop_drop, List.drop_left]
  simp
theorem bytesI_get (s : ByteArray) (j : Nat) (h : j < (bytesI s).length) : (bytesI s)[j] = bt s j := by
  have hj : j < s.size := by rwa [bytesI_length] at h
  rw [← bt_eq s j hj]
  simp [bytesI]
  rfl
theorem fmtL_nat (n : Nat) : fmtL (n : Int) = natD 20 n := by unfold fmtL; rw [if_neg (by omega)]; simp
end Go.Proofs.YtjbcjcibnjbpcaaDoor.Idl
namespace Go.Proofs.YtjbcjcibnjbpcaaDoor.Idl
open Go
set_option maxHeartbeats 16000000
set_option maxRecDepth 100000
set_option linter.unusedSimpArgs false
/-- A row of bytes that append made, or a literal. -/
def BsE (H : IH) (v : Value) (l : List Int) (lo g : Nat) : Prop :=
  ∃ b c, (lo ≤ b ∧ b ≠ g) ∧ b < H.next ∧ v = .slice (some ⟨b, 0, none⟩) l.length c ∧ (c = capU ∨ c = l.length) ∧ H.get b = some (.cells (l.map (Value.int .u8)) 5 false)
theorem appK {H : IH} {v : Value} {l : List Int} {lo g : Nat} (hv : BsE H v l lo g) (hlo : lo ≤ H.next) (hg : g < H.next) (m : List Int) (hm : 0 < m.length) (hl : l.length + m.length < 2 ^ 40) :
    ∃ v' H', iappend J #[40, 40] v (.slice (some ⟨H.next, 0, none⟩) m.length m.length) (H.push (.cells (m.map (Value.int .u8)) 5 false)) = some (v', H') ∧ BsE H' v' (l ++ m) lo g ∧ H.next ≤ H'.next ∧ ∀ x, x < lo ∨ x = g → H'.get x = H.get x := by
  obtain ⟨b, c, h1, h2, rfl, h3, h4⟩ := hv
  have hb : (H.push (.cells (m.map (Value.int .u8)) 5 false)).get b = some (.cells (l.map (Value.int .u8)) 5 false) := by rw [IH.get_push_other _ _ _ h2]; exact h4
  have hcap : ((l.length + m.length) * 3 ≤ 140737488355328) := by omega
  have hmz : ¬ m.length = 0 := by omega
  have hmt := take_map m
  have hlt := take_map l
  have hcl : (List.map (Value.int IntKind.u8) l ++ List.map (Value.int IntKind.u8) m) = (l ++ m).map (Value.int .u8) := by rw [List.map_append]
  rcases h3 with rfl | rfl
  · refine ⟨.slice (some ⟨H.next + 1, 0, none⟩) (l.length + m.length) capU, ((H.push (.cells (m.map (Value.int .u8)) 5 false)).set b .dead).push (.cells ((l ++ m).map (Value.int .u8)) 5 false), ?_, ⟨H.next + 1, capU, ⟨by omega, by omega⟩, by simp, by simp, .inl rfl, ?_⟩, by simp; omega, fun x hx => ?_⟩
    · simp [iappend, ilenOf, ifirst, Value.cells, hb, plain1, hcap, capU, hmt, hlt, hmz]
    · have : H.next + 1 = ((H.push (.cells (m.map (Value.int .u8)) 5 false)).set b .dead).next := rfl
      rw [this, IH.get_push_same]
    · rw [IH.get_push_other _ _ _ (by simp; omega), IH.get_set_other _ _ _ _ (by omega), IH.get_push_other _ _ _ (by omega)]
  · have hne : ¬ l.length = capU := by unfold capU; omega
    have hgt : ¬ l.length + m.length ≤ l.length := by omega
    refine ⟨.slice (some ⟨H.next + 1, 0, none⟩) (l.length + m.length) capU, (H.push (.cells (m.map (Value.int .u8)) 5 false)).push (.cells ((l ++ m).map (Value.int .u8)) 5 false), ?_, ⟨H.next + 1, capU, ⟨by omega, by omega⟩, by simp, by simp, .inl rfl, ?_⟩, by simp; omega, fun x hx => ?_⟩
    · simp [iappend, ilenOf, ifirst, Value.cells, hb, plain1, hcap, hmt, hlt, hmz, hne]
      exact hm
    · have : H.next + 1 = (H.push (.cells (m.map (Value.int .u8)) 5 false)).next := rfl
      rw [this, IH.get_push_same]
    · rw [IH.get_push_other _ _ _ (by simp; omega), IH.get_push_other _ _ _ (by omega)]
theorem bld2 (H : IH) (a b : Int) : ibuildSlice J 40 2 [(0, .int .u8 a), (1, .int .u8 b)] H = some (.slice (some ⟨H.next, 0, none⟩) 2 2, H.push (.cells [.int .u8 a, .int .u8 b] 5 false)) := by kernel_rfl
theorem bld4 (H : IH) (a b c d : Int) : ibuildSlice J 40 4 [(0, .int .u8 a), (1, .int .u8 b), (2, .int .u8 c), (3, .int .u8 d)] H = some (.slice (some ⟨H.next, 0, none⟩) 4 4, H.push (.cells [.int .u8 a, .int .u8 b, .int .u8 c, .int .u8 d] 5 false)) := by kernel_rfl
theorem conv_bse {H : IH} {v : Value} {l : List Int} {lo g : Nat} (hv : BsE H v l lo g) : iconvert J 40 9 v H = some (.string (strOf l), H) := by
  obtain ⟨b, c, _, _, rfl, _, h4⟩ := hv
  exact conv_row H b c l false h4
theorem loop28 (g c lo : Nat) (s : ByteArray) (hs : s.size ≤ 100000) : ∀ (n i : Nat) (l : List Int) (H : IH) (v : Value) (T : Regs), s.size - i = n → i ≤ s.size → l.length ≤ 1 + 4 * i → lo ≤ H.next → g < H.next → BsE H v l lo g → H.get g = some (.cells (bytesCells s) 5 false) →
    T.at 3 = v → T.at 8 = .slice (some ⟨g, 0, none⟩) s.size c → T.at 9 = .int .i64 (s.size : Int) → T.at 10 = .int .i64 (i : Int) →
    ∃ T' H' v', run J okAll (.loop L28_0) T H = some (.exit 0, T', H') ∧ BsE H' v' (l ++ ((bytesI s).drop i).flatMap quoC) lo g ∧ H.next ≤ H'.next ∧ (∀ x, x < lo ∨ x = g → H'.get x = H.get x) ∧ T'.at 3 = v' := by
  intro n
  induction n with
  | zero =>
    intro i l H v T hn hi hl hlo hg hv hgg t3 t8 t9 t10
    have hlt : ¬ ((i : Int) < s.size) := by omega
    have hd : (bytesI s).drop i = [] := List.drop_of_length_le (by rw [bytesI_length]; omega)
    have : ∃ T', run J okAll (.loop L28_0) T H = some (.exit 0, T', H) ∧ T'.at 3 = v := by
      rw [r_loop]
      simp [L28_0, t3, t8, t9, t10, hlt]
    obtain ⟨T', e, a⟩ := this
    exact ⟨T', H, v, e, by rw [hd]; simpa using hv, Nat.le_refl _, fun _ _ => rfl, a⟩
  | succ n ih =>
    intro i l H v T hn hi hl hlo hg hv hgg t3 t8 t9 t10
    have hlt : i < s.size := by omega
    have w1 : IntKind.i64.wrap ((i : Int) + 1) = (i : Int) + 1 := wrap64 _ (by omega) (by omega)
    have hd : (bytesI s).drop i = bt s i :: (bytesI s).drop (i + 1) := by
      rw [List.drop_eq_getElem_cons (by rw [bytesI_length]; exact hlt)]
      congr 1
      have := bt_eq s i hlt
      rw [← this]
      simp [bytesI]
      rfl
    have hr := bt_range s i
    have hcell := bytesCells_get s i hlt
    rw [hd, List.flatMap_cons]
    generalize bt s i = ch at *
    have go : ∀ m : List Int, quoC ch = m → 0 < m.length → m.length ≤ 4 → (∀ v' H', iappend J #[40, 40] v (.slice (some ⟨H.next, 0, none⟩) m.length m.length) (H.push (.cells (m.map (Value.int .u8)) 5 false)) = some (v', H') → ∃ T1, run J okAll (.loop L28_0) T H = run J okAll (.loop L28_0) T1 H' ∧ T1.at 3 = v' ∧ T1.at 8 = .slice (some ⟨g, 0, none⟩) s.size c ∧ T1.at 9 = .int .i64 (s.size : Int) ∧ T1.at 10 = .int .i64 ((i : Int) + 1)) →
        ∃ T' H' v', run J okAll (.loop L28_0) T H = some (.exit 0, T', H') ∧ BsE H' v' (l ++ (quoC ch ++ ((bytesI s).drop (i + 1)).flatMap quoC)) lo g ∧ H.next ≤ H'.next ∧ (∀ x, x < lo ∨ x = g → H'.get x = H.get x) ∧ T'.at 3 = v' := by
      intro m hq hm0 hm4 hrun
      obtain ⟨v1, H1, ea, hv1, hn1, hf1⟩ := appK hv hlo hg m hm0 (by omega)
      obtain ⟨T1, e0, f3, f8, f9, f10⟩ := hrun v1 H1 ea
      obtain ⟨T', H', v', r1, r2, r3, r4, r5⟩ := ih (i + 1) (l ++ m) H1 v1 T1 (by omega) (by omega) (by rw [List.length_append]; omega) (by omega) (by omega) hv1 (by rw [hf1 g (.inr rfl)]; exact hgg) f3 f8 f9 (by rw [f10]; simp)
      refine ⟨T', H', v', by rw [e0, r1], ?_, by omega, fun x hx => by rw [r4 x hx, hf1 x hx], r5⟩
      rw [hq, ← List.append_assoc]; exact r2
    have fin : ∀ T0 : Regs, True := fun _ => trivial
    by_cases c1 : ch = 34 ∨ ch = 92
    · refine go [92, ch] (if_pos c1) (by simp) (by simp) (fun v' H' ea => ?_)
      simp only [List.map_cons, List.map_nil, List.length_cons, List.length_nil, Nat.zero_add] at ea
      rw [r_loop]
      rcases c1 with rfl | rfl
      · simp [L28_0, t3, t8, t9, t10, hlt, w1, iindexAddr, hgg, hcell, iparts, bld2, ea, guard_undef]
        exact ⟨_, rfl, by simp, by simp [t8], by simp [t9], by simp⟩
      · simp [L28_0, t3, t8, t9, t10, hlt, w1, iindexAddr, hgg, hcell, iparts, bld2, ea, guard_undef]
        exact ⟨_, rfl, by simp, by simp [t8], by simp [t9], by simp⟩
    · have d1 : decide (ch = 34) = false := decide_eq_false (fun e => c1 (.inl e))
      have d2 : decide (ch = 92) = false := decide_eq_false (fun e => c1 (.inr e))
      by_cases c3 : ch = 10
      · refine go [92, 110] (by unfold quoC; rw [if_neg c1, if_pos c3]) (by simp) (by simp) (fun v' H' ea => ?_)
        simp only [List.map_cons, List.map_nil, List.length_cons, List.length_nil, Nat.zero_add] at ea
        subst c3
        rw [r_loop]
        simp [L28_0, t3, t8, t9, t10, hlt, w1, iindexAddr, hgg, hcell, iparts, bld2, ea, guard_undef]
        exact ⟨_, rfl, by simp, by simp [t8], by simp [t9], by simp⟩
      · have d3 : decide (ch = 10) = false := decide_eq_false c3
        by_cases c4 : ch = 9
        · refine go [92, 116] (by unfold quoC; rw [if_neg c1, if_neg c3, if_pos c4]) (by simp) (by simp) (fun v' H' ea => ?_)
          simp only [List.map_cons, List.map_nil, List.length_cons, List.length_nil, Nat.zero_add] at ea
          subst c4
          rw [r_loop]
          simp [L28_0, t3, t8, t9, t10, hlt, w1, iindexAddr, hgg, hcell, iparts, bld2, ea, guard_undef]
          exact ⟨_, rfl, by simp, by simp [t8], by simp [t9], by simp⟩
        · have d4 : decide (ch = 9) = false := decide_eq_false c4
          by_cases c5 : ch < 32 ∨ 126 < ch
          · refine go [92, 48 + ch / 100, 48 + ch / 10 % 10, 48 + ch % 10] (by unfold quoC; rw [if_neg c1, if_neg c3, if_neg c4, if_pos c5]) (by simp) (by simp) (fun v' H' ea => ?_)
            simp only [List.map_cons, List.map_nil, List.length_cons, List.length_nil, Nat.zero_add] at ea
            have q1 : IntKind.u8.wrap (ch.tdiv 100) = ch / 100 := by rw [Int.tdiv_eq_ediv_of_nonneg hr.1]; exact wrap8 _ (by omega) (by omega)
            have q2 : IntKind.u8.wrap (ch.tdiv 10) = ch / 10 := by rw [Int.tdiv_eq_ediv_of_nonneg hr.1]; exact wrap8 _ (by omega) (by omega)
            have q3 : (ch / 10).tmod 10 = ch / 10 % 10 := Int.tmod_eq_emod_of_nonneg (by omega)
            have q4 : ch.tmod 10 = ch % 10 := Int.tmod_eq_emod_of_nonneg hr.1
            have q5 : IntKind.u8.wrap (48 + ch / 100) = 48 + ch / 100 := wrap8 _ (by omega) (by omega)
            have q6 : IntKind.u8.wrap (48 + ch / 10 % 10) = 48 + ch / 10 % 10 := wrap8 _ (by omega) (by omega)
            have q7 : IntKind.u8.wrap (48 + ch % 10) = 48 + ch % 10 := wrap8 _ (by omega) (by omega)
            rw [r_loop]
            by_cases c6 : ch < 32
            · have d5 : decide (ch < 32) = true := decide_eq_true c6
              simp [L28_0, t3, t8, t9, t10, hlt, w1, iindexAddr, hgg, hcell, iparts, bld4, ea, guard_undef, d1, d2, d3, d4, d5, q1, q2, q3, q4, q5, q6, q7]
              exact ⟨_, rfl, by simp, by simp [t8], by simp [t9], by simp⟩
            · have d5 : decide (ch < 32) = false := decide_eq_false c6
              have d6 : decide (126 < ch) = true := decide_eq_true (by omega)
              simp [L28_0, t3, t8, t9, t10, hlt, w1, iindexAddr, hgg, hcell, iparts, bld4, ea, guard_undef, d1, d2, d3, d4, d5, d6, q1, q2, q3, q4, q5, q6, q7]
              exact ⟨_, rfl, by simp, by simp [t8], by simp [t9], by simp⟩
          · refine go [ch] (by unfold quoC; rw [if_neg c1, if_neg c3, if_neg c4, if_neg c5]) (by simp) (by simp) (fun v' H' ea => ?_)
            simp only [List.map_cons, List.map_nil, List.length_cons, List.length_nil, Nat.zero_add] at ea
            have d5 : decide (ch < 32) = false := decide_eq_false (by omega)
            have d6 : decide (126 < ch) = false := decide_eq_false (by omega)
            have hb1 := build1 bt40 H ch
            rw [r_loop]
            simp [L28_0, t3, t8, t9, t10, hlt, w1, iindexAddr, hgg, hcell, iparts, hb1, ea, guard_undef, d1, d2, d3, d4, d5, d6]
            exact ⟨_, rfl, by simp, by simp [t8], by simp [t9], by simp⟩
end Go.Proofs.YtjbcjcibnjbpcaaDoor.Idl
namespace Go.Proofs.YtjbcjcibnjbpcaaDoor.Idl
open Go
set_option maxHeartbeats 16000000
set_option maxRecDepth 100000
set_option linter.unusedSimpArgs false
theorem quoC_len (c : Int) : (quoC c).length ≤ 4 := by unfold quoC; (repeat' split) <;> simp
theorem flat_len4 (l : List Int) : (l.flatMap quoC).length ≤ 4 * l.length := by
  induction l with
  | nil => simp
  | cons a l ih =>
    have := quoC_len a
    rw [List.flatMap_cons, List.length_append, List.length_cons]
    omega
theorem c28 (s : ByteArray) (hs : s.size ≤ 100000) : QuoOk s := fun H => by
  have hb1 := build1 bt40 H 34
  have hb2 := fun H => build1 bt40 H 34
  have hv0 : BsE ((H.push (.cells [.int .u8 34] 5 false)).push (.cells (bytesCells s) 5 false)) (.slice (some ⟨H.next, 0, none⟩) 1 1) [34] H.next (H.next + 1) :=
    ⟨H.next, 1, ⟨by omega, by omega⟩, by simp; omega, rfl, .inr rfl, by rw [IH.get_push_other _ _ _ (by simp)]; exact IH.get_push_same _ _⟩
  have hg1 : ((H.push (.cells [.int .u8 34] 5 false)).push (.cells (bytesCells s) 5 false)).get (H.next + 1) = some (.cells (bytesCells s) 5 false) := by
    have : H.next + 1 = (H.push (.cells [.int .u8 34] 5 false)).next := rfl
    rw [this]; exact IH.get_push_same _ _
  have key := fun c T => loop28 (H.next + 1) c H.next s hs s.size 0 [34] _ _ T (by omega) (by omega) (by simp) (by simp; omega) (by simp) hv0 hg1
  rw [cal28 _ _ (by simp)]
  simp [C28, R28, regsOf, fin, iresult1, iparts, hb1, iconvert_str]
  generalize hX : run J okAll (.loop L28_0) _ _ = X
  obtain ⟨T1, c, e1, t3, t8, t9, t10⟩ : ∃ T1 c, run J okAll (.loop L28_0) T1 ((H.push (.cells [.int .u8 34] 5 false)).push (.cells (bytesCells s) 5 false)) = X ∧ T1.at 3 = .slice (some ⟨H.next, 0, none⟩) 1 1 ∧ T1.at 8 = .slice (some ⟨H.next + 1, 0, none⟩) s.size c ∧ T1.at 9 = .int .i64 (s.size : Int) ∧ T1.at 10 = .int .i64 ((0 : Nat) : Int) :=
    ⟨_, _, hX, by simp, by simp; rfl, by simp, by simp⟩
  obtain ⟨T', H', v', r1, r2, r3, r4, r5⟩ := key c T1 t3 t8 t9 t10
  rw [← e1, r1]
  have hlen : ((bytesI s).drop 0).length = s.size := by rw [List.drop_zero, bytesI_length]
  have hq5 := flat_len4 ((bytesI s).drop 0)
  obtain ⟨v2, H2, a1, a2, a3, a4⟩ := appK r2 (by simp at r3; omega) (by simp at r3; omega) [34] (by simp) (by rw [List.length_append]; rw [hlen] at hq5; simp only [List.length_cons, List.length_nil]; omega)
  have hcv := conv_bse a2
  simp only [List.map_cons, List.map_nil, List.length_cons, List.length_nil, Nat.zero_add] at a1
  rw [List.drop_zero] at hcv
  refine ⟨H2, ⟨by simp at r3; omega, fun x hx => ?_⟩, ?_⟩
  · rw [a4 x (.inl hx), r4 x (.inl hx), IH.get_push_other _ _ _ (by simp; omega), IH.get_push_other _ _ _ (by omega)]
  · simp [r5, iparts, hb2, a1]
    simp [hcv, fin, iresult1, quoL]
end Go.Proofs.YtjbcjcibnjbpcaaDoor.Idl
namespace Go.Proofs.YtjbcjcibnjbpcaaDoor.Idl
open Go
set_option maxHeartbeats 16000000
set_option maxRecDepth 100000
set_option linter.unusedSimpArgs false
theorem c30 (H : IH) (n : Int) (h0 : -9223372036854775808 ≤ n) (h1 : n ≤ 9223372036854775807) : cal J okAll 30 #[.int .i64 n] H = some (.ret (.string (strOf (fmtL n))), H) := by
  have hk : J.hook 30 (#[Value.int .i64 n] : Array Value).toList = some (.string ⟨(Lib.itoa n).toArray⟩) := by
    show hookT 30 [.int .i64 n] = _
    unfold hookT
    rw [if_neg (by decide), if_pos rfl]
    simp only
    rw [if_pos ⟨h0, h1⟩]
  rw [cal_hook hk, fmtL_itoa n h0 h1]
theorem ext_byte (s : ByteArray) (i : Nat) (h : i < s.size) : s.extract i (i + 1) = strOf [bt s i] := by
  have hb := bt_range s i
  have hsz : (s.extract i (i + 1)).size = 1 := by rw [ByteArray.size_extract]; omega
  have hl : bytesI (s.extract i (i + 1)) = [bt s i] := by
    apply List.ext_getElem
    · rw [bytesI_length, hsz]; rfl
    · intro j h1 h2
      have hj : j = 0 := by simp at h2; exact h2
      subst hj
      rw [bytesI_get, bt_extract s i (i + 1) 0 (by omega) (by omega)]
      rfl
  rw [← hl, strOf_bytesI]
/-- Three digits of a byte. -/
def dig3 (c : Int) : List Int := [48 + c / 100, 48 + c / 10 % 10, 48 + c % 10]
theorem fmt_byte (c : Int) (h0 : 0 ≤ c) (h1 : c < 256) : ∃ k, k ≤ 2 ∧ dig3 c = List.replicate k 48 ++ fmtL c ∧ (fmtL c).length + k = 3 := by
  obtain ⟨n, rfl⟩ : ∃ n : Nat, c = n := ⟨c.toNat, by omega⟩
  rw [fmtL_nat]
  by_cases a : n < 10
  · refine ⟨2, by omega, ?_, ?_⟩
    · rw [natD, if_pos a]; simp [dig3]; omega
    · rw [natD, if_pos a]; rfl
  · by_cases b : n < 100
    · refine ⟨1, by omega, ?_, ?_⟩
      · rw [natD, if_neg a, natD, if_pos (by omega)]; simp [dig3]; omega
      · rw [natD, if_neg a, natD, if_pos (by omega)]; rfl
    · refine ⟨0, by omega, ?_, ?_⟩
      · rw [natD, if_neg a, natD, if_neg (by omega), natD, if_pos (by omega)]; simp [dig3]; omega
      · rw [natD, if_neg a, natD, if_neg (by omega), natD, if_pos (by omega)]; rfl
theorem loop31_0 (H : IH) (v0 v3 v4 v5 : Value) : ∀ (k : Nat) (l : List Int) (T : Regs), l.length + k = 3 → T.at 0 = v0 → T.at 3 = v3 → T.at 4 = v4 → T.at 5 = v5 → T.at 6 = .string (strOf l) →
    ∃ T', run J okAll (.loop L31_0) T H = some (.exit 3, T', H) ∧ T'.at 0 = v0 ∧ T'.at 3 = v3 ∧ T'.at 4 = v4 ∧ T'.at 5 = v5 ∧ T'.at 6 = .string (strOf (List.replicate k 48 ++ l)) := by
  intro k
  induction k with
  | zero =>
    intro l T hl t0 t3 t4 t5 t6
    have hsz : (strOf l).size = 3 := by rw [strOf_size]; omega
    rw [r_loop]
    simp [L31_0, t0, t3, t4, t5, t6, hsz]
  | succ k ih =>
    intro l T hl t0 t3 t4 t5 t6
    have hsz := strOf_size l
    have hlt : decide ((l.length : Int) < 3) = true := decide_eq_true (by omega)
    have ha := fun x y => sadd [48] l (by simp; omega) x y H
    have hc : (⟨#[48]⟩ : ByteArray) = strOf [48] := by kernel_rfl
    rw [← hc] at ha
    simp only [List.cons_append, List.nil_append] at ha
    have : ∃ T1, run J okAll (.loop L31_0) T H = run J okAll (.loop L31_0) T1 H ∧ T1.at 0 = v0 ∧ T1.at 3 = v3 ∧ T1.at 4 = v4 ∧ T1.at 5 = v5 ∧ T1.at 6 = .string (strOf (48 :: l)) := by
      rw [r_loop]
      simp [L31_0, t0, t3, t4, t5, t6, hsz, hlt, ha]
      exact ⟨_, rfl, by simp [t0], by simp [t3], by simp [t4], by simp [t5], by simp⟩
    obtain ⟨T1, e0, f0, f3, f4, f5, f6⟩ := this
    obtain ⟨T', g0, g1, g2, g3, g4, g5⟩ := ih ([48] ++ l) T1 (by rw [List.length_append]; simp; omega) f0 f3 f4 f5 f6
    refine ⟨T', by rw [e0, g0], g1, g2, g3, g4, ?_⟩
    rw [g5, ← List.append_assoc]
    congr 3
    rw [List.replicate_succ', List.append_cancel_right_eq] <;> rfl
theorem loop31_1 (H : IH) (s : ByteArray) (hs : s.size ≤ 100000) : ∀ (n i : Nat) (acc : List Int) (T : Regs), s.size - i = n → i ≤ s.size → acc.length ≤ 4 * i →
    T.at 0 = .string s → T.at 3 = .string (strOf acc) → T.at 4 = .int .i64 (i : Int) →
    ∃ T', run J okAll (.loop L31_1) T H = some (.exit 0, T', H) ∧ T'.at 3 = .string (strOf (acc ++ ((bytesI s).drop i).flatMap quoC)) := by
  intro n
  induction n with
  | zero =>
    intro i acc T hn hi hl t0 t3 t4
    have hlt : ¬ ((i : Int) < s.size) := by omega
    have hd : (bytesI s).drop i = [] := List.drop_of_length_le (by rw [bytesI_length]; omega)
    rw [r_loop, hd]
    simp [L31_1, t0, t3, t4, hlt]
  | succ n ih =>
    intro i acc T hn hi hl t0 t3 t4
    have hlt : i < s.size := by omega
    have w1 : IntKind.i64.wrap ((i : Int) + 1) = (i : Int) + 1 := wrap64 _ (by omega) (by omega)
    have hd : (bytesI s).drop i = bt s i :: (bytesI s).drop (i + 1) := by
      rw [List.drop_eq_getElem_cons (by rw [bytesI_length]; exact hlt), bytesI_get]
    have hr := bt_range s i
    have hix := idxS_bt s i hlt
    have sl := sliceS_some s i (i + 1) (by omega) (by omega)
    rw [ext_byte s i hlt] at sl
    have bn : ∀ d, ibound (some (.int .i64 ((i : Int) + 1))) d = some (i + 1) := fun d => by simp only [bound_int]; rw [if_pos (by omega)]; congr 1
    rw [hd, List.flatMap_cons]
    generalize bt s i = ch at *
    have go : ∀ m : List Int, quoC ch = m → m.length ≤ 4 → ((∀ x y, binR J .add 9 x y (.string (strOf acc)) (.string (strOf m)) H = some (.val (.string (strOf (acc ++ m))) H)) → ∃ T1, run J okAll (.loop L31_1) T H = run J okAll (.loop L31_1) T1 H ∧ T1.at 0 = .string s ∧ T1.at 3 = .string (strOf (acc ++ m)) ∧ T1.at 4 = .int .i64 ((i : Int) + 1)) →
        ∃ T', run J okAll (.loop L31_1) T H = some (.exit 0, T', H) ∧ T'.at 3 = .string (strOf (acc ++ (quoC ch ++ ((bytesI s).drop (i + 1)).flatMap quoC))) := by
      intro m hq hm4 hrun
      obtain ⟨T1, e0, f0, f3, f4⟩ := hrun (fun x y => sadd acc m (by omega) x y H)
      obtain ⟨T', r1, r2⟩ := ih (i + 1) (acc ++ m) T1 (by omega) (by omega) (by rw [List.length_append]; omega) f0 f3 (by rw [f4]; simp)
      refine ⟨T', by rw [e0, r1], ?_⟩
      rw [hq, ← List.append_assoc]; exact r2
    by_cases c1 : ch = 34 ∨ ch = 92
    · refine go [92, ch] (if_pos c1) (by simp) (fun ea => ?_)
      have ea2 := fun x y => sadd [92] [ch] (by simp) x y H
      have hc : (⟨#[92]⟩ : ByteArray) = strOf [92] := by kernel_rfl
      rw [← hc] at ea2
      simp only [List.cons_append, List.nil_append] at ea2
      rw [r_loop]
      rcases c1 with rfl | rfl
      · simp [L31_1, t0, t3, t4, hlt, w1, hix, bn, sl, ea2, ea, guard_undef]
        exact ⟨_, rfl, by simp [t0], by simp, by simp⟩
      · simp [L31_1, t0, t3, t4, hlt, w1, hix, bn, sl, ea2, ea, guard_undef]
        exact ⟨_, rfl, by simp [t0], by simp, by simp⟩
    · have d1 : decide (ch = 34) = false := decide_eq_false (fun e => c1 (.inl e))
      have d2 : decide (ch = 92) = false := decide_eq_false (fun e => c1 (.inr e))
      by_cases c3 : ch = 10
      · refine go [92, 110] (by unfold quoC; rw [if_neg c1, if_pos c3]) (by simp) (fun ea => ?_)
        have hc : (⟨#[92, 110]⟩ : ByteArray) = strOf [92, 110] := by kernel_rfl
        rw [← hc] at ea
        subst c3
        rw [r_loop]
        simp [L31_1, t0, t3, t4, hlt, w1, hix, ea, guard_undef]
        exact ⟨_, rfl, by simp [t0], by simp, by simp⟩
      · have d3 : decide (ch = 10) = false := decide_eq_false c3
        by_cases c4 : ch = 9
        · refine go [92, 116] (by unfold quoC; rw [if_neg c1, if_neg c3, if_pos c4]) (by simp) (fun ea => ?_)
          have hc : (⟨#[92, 116]⟩ : ByteArray) = strOf [92, 116] := by kernel_rfl
          rw [← hc] at ea
          subst c4
          rw [r_loop]
          simp [L31_1, t0, t3, t4, hlt, w1, hix, ea, guard_undef]
          exact ⟨_, rfl, by simp [t0], by simp, by simp⟩
        · have d4 : decide (ch = 9) = false := decide_eq_false c4
          by_cases c5 : ch < 32 ∨ 126 < ch
          · refine go (92 :: dig3 ch) (by unfold quoC; rw [if_neg c1, if_neg c3, if_neg c4, if_pos c5]; rfl) (by simp [dig3]) (fun ea => ?_)
            obtain ⟨k, hk, hk3, hkl⟩ := fmt_byte ch hr.1 hr.2
            have e30 := c30 H ch (by omega) (by omega)
            have ea2 := fun x y => sadd [92] (dig3 ch) (by simp [dig3]) x y H
            have hc : (⟨#[92]⟩ : ByteArray) = strOf [92] := by kernel_rfl
            rw [← hc] at ea2
            simp only [List.cons_append, List.nil_append] at ea2
            have w2 : IntKind.i64.wrap ch = ch := wrap64 _ (by omega) (by omega)
            have key := fun T v0 v3 v4 v5 => loop31_0 H v0 v3 v4 v5 k (fmtL ch) T hkl
            rw [← hk3] at key
            generalize dig3 ch = dl at *
            generalize 92 :: dl = m at *
            have fin1 : ∀ X, (∃ T1, run J okAll (.loop L31_0) T1 H = X ∧ T1.at 0 = .string s ∧ T1.at 3 = .string (strOf acc) ∧ T1.at 4 = .int .i64 (i : Int) ∧ T1.at 5 = .int .u8 ch ∧ T1.at 6 = .string (strOf (fmtL ch))) →
                ∃ T2, X = some (.exit 3, T2, H) ∧ T2.at 0 = .string s ∧ T2.at 3 = .string (strOf acc) ∧ T2.at 4 = .int .i64 (i : Int) ∧ T2.at 6 = .string (strOf dl) := fun X ⟨T1, e1, a0, a3, a4, a5, a6⟩ => by
              obtain ⟨T2, b, b0, b3, b4, b5, b6⟩ := key T1 _ _ _ _ a0 a3 a4 a5 a6
              exact ⟨T2, by rw [← e1, b], b0, b3, b4, b6⟩
            rw [r_loop]
            by_cases c6 : ch < 32
            · have d5 : decide (ch < 32) = true := decide_eq_true c6
              simp [L31_1, t0, t3, t4, hlt, w1, w2, hix, guard_undef, d1, d2, d3, d4, d5, e30]
              generalize hX : run J okAll (.loop L31_0) _ _ = X
              obtain ⟨T2, e1, b0, b3, b4, b6⟩ := fin1 X ⟨_, hX, by simp [t0], by simp [t3], by simp [t4], by simp, by simp⟩
              rw [e1]
              clear hX
              simp [b0, b3, b4, b6, ea2, ea, w1]
              exact ⟨_, rfl, by simp [b0], by simp, by simp⟩
            · have d5 : decide (ch < 32) = false := decide_eq_false c6
              have d6 : decide (127 ≤ ch) = true := decide_eq_true (by omega)
              simp [L31_1, t0, t3, t4, hlt, w1, w2, hix, guard_undef, d1, d2, d3, d4, d5, d6, e30]
              generalize hX : run J okAll (.loop L31_0) _ _ = X
              obtain ⟨T2, e1, b0, b3, b4, b6⟩ := fin1 X ⟨_, hX, by simp [t0], by simp [t3], by simp [t4], by simp, by simp⟩
              rw [e1]
              clear hX
              simp [b0, b3, b4, b6, ea2, ea, w1]
              exact ⟨_, rfl, by simp [b0], by simp, by simp⟩
          · refine go [ch] (by unfold quoC; rw [if_neg c1, if_neg c3, if_neg c4, if_neg c5]) (by simp) (fun ea => ?_)
            have d5 : decide (ch < 32) = false := decide_eq_false (by omega)
            have d6 : decide (127 ≤ ch) = false := decide_eq_false (by omega)
            rw [r_loop]
            simp [L31_1, t0, t3, t4, hlt, w1, hix, bn, sl, ea, guard_undef, d1, d2, d3, d4, d5, d6]
            exact ⟨_, rfl, by simp [t0], by simp, by simp⟩
theorem c31 (H : IH) (s : ByteArray) (hs : s.size ≤ 100000) : cal J okAll 31 #[.string s] H = some (.ret (.string (strOf (quoL s))), H) := by
  have key := fun T => loop31_1 H s hs s.size 0 [] T (by omega) (by omega) (by simp)
  have hq := flat_len4 (bytesI s)
  rw [bytesI_length] at hq
  have ha := fun x y => sadd [34] ((bytesI s).flatMap quoC) (by simp; simp at hq; omega) x y H
  have ha2 := fun x y => sadd ([34] ++ (bytesI s).flatMap quoC) [34] (by rw [List.length_append]; simp; simp at hq; omega) x y H
  have hc : (⟨#[34]⟩ : ByteArray) = strOf [34] := by kernel_rfl
  rw [← hc] at ha ha2
  have hql : [34] ++ (bytesI s).flatMap quoC ++ [34] = quoL s := by simp [quoL]
  rw [hql] at ha2
  rw [List.drop_zero, List.nil_append] at key
  generalize quoL s = ql at *
  generalize (bytesI s).flatMap quoC = fl at *
  generalize [34] ++ fl = f2 at *
  rw [cal31 _ _ (by simp)]
  simp [C31, R31, regsOf, fin, iresult1]
  generalize hX : run J okAll (.loop L31_1) _ _ = X
  obtain ⟨T1, e1, a0, a3, a4⟩ : ∃ T1, run J okAll (.loop L31_1) T1 H = X ∧ T1.at 0 = .string s ∧ T1.at 3 = .string (strOf []) ∧ T1.at 4 = .int .i64 ((0 : Nat) : Int) := ⟨_, hX, by simp, by simp; rfl, by simp⟩
  obtain ⟨T2, r1, r2⟩ := key T1 a0 a3 a4
  rw [← e1, r1]
  clear hX
  simp [r2, ha, ha2, fin, iresult1]
end Go.Proofs.YtjbcjcibnjbpcaaDoor.Idl
namespace Go.Proofs.YtjbcjcibnjbpcaaDoor.Idl
open Go
set_option maxHeartbeats 16000000
set_option maxRecDepth 100000
set_option linter.unusedSimpArgs false
/-- A token that both can print. -/
def PrOk (t : Tk) : Prop := -9223372036854775808 ≤ t.n ∧ t.n ≤ 9223372036854775807 ∧ t.text.size ≤ 3000
theorem PrOk.tok {t : Tk} (h : PrOk t) : TokOk t := ⟨fun _ => fmt_ok t.n h.1 h.2.1, fun _ => c28 _ (by have := h.2.2; omega)⟩
theorem fmtL_len (n : Int) : (fmtL n).length ≤ 22 := by
  unfold fmtL
  split
  · have := (natD_dig 20 n.natAbs).2.2; rw [List.length_cons]; omega
  · have := (natD_dig 20 n.toNat).2.2; omega
theorem tkS_len {t : Tk} (h : PrOk t) : (tkS t).size ≤ 12002 := by
  unfold tkS
  split
  · rw [strOf_size]; have := fmtL_len t.n; omega
  · split
    · rw [strOf_size]
      have := flat_len4 (bytesI t.text)
      rw [bytesI_length] at this
      have h3 := h.2.2
      simp only [quoL, List.length_cons, List.length_append, List.length_nil]
      omega
    · have := h.2.2; omega
theorem prF_len : ∀ (l : List (Nat × Tk)) (b : Bool), (∀ t ∈ l, PrOk t.2) → (prF b l).length ≤ 12003 * l.length := by
  intro l
  induction l with
  | nil => intro b _; simp [prF]
  | cons t r ih =>
    intro b h
    have h1 := tkS_len (h t (by simp))
    have h2 := ih false (fun x hx => h x (by simp [hx]))
    have h3 : (if b then ([] : List Int) else [32]).length ≤ 1 := by cases b <;> simp
    simp only [prF, List.length_append, bytesI_length, List.length_cons]
    omega
theorem loop18 (tb c lo : Nat) (l : List (Nat × Tk)) (hl : l.length ≤ 10000) (htb : tb < lo) (hok : ∀ t ∈ l, PrOk t.2) : ∀ (n i : Nat) (acc : List Int) (H : IH) (T : Regs),
    l.length - i = n → i ≤ l.length → acc.length ≤ 12003 * i → lo ≤ H.next → TkRowI H tb l →
    T.at 3 = .string (strOf acc) → T.at 6 = .slice (some ⟨tb, 0, none⟩) l.length c → T.at 7 = .int .i64 (l.length : Int) → T.at 8 = .int .i64 (i : Int) →
    ∃ T' H', run J okAll (.loop L18_0) T H = some (.exit 0, T', H') ∧ Fr lo H H' ∧ T'.at 3 = .string (strOf (acc ++ prF (decide (i = 0)) (l.drop i))) := by
  intro n
  induction n with
  | zero =>
    intro i acc H T hn hi hacc hlo hrow t3 t6 t7 t8
    have hlt : ¬ ((i : Int) < l.length) := by omega
    have hd : l.drop i = [] := List.drop_of_length_le (by omega)
    have : ∃ T', run J okAll (.loop L18_0) T H = some (.exit 0, T', H) ∧ T'.at 3 = .string (strOf acc) := by
      rw [r_loop]
      simp [L18_0, t3, t6, t7, t8, hlt]
    obtain ⟨T', e, a⟩ := this
    exact ⟨T', H, e, Fr.refl _ _, by rw [hd, a]; simp [prF]⟩
  | succ n ih =>
    intro i acc H T hn hi hacc hlo hrow t3 t6 t7 t8
    have hlt : i < l.length := by omega
    have w1 : IntKind.i64.wrap ((i : Int) + 1) = (i : Int) + 1 := wrap64 _ (by omega) (by omega)
    have hd : l.drop i = l[i] :: l.drop (i + 1) := List.drop_eq_getElem_cons hlt
    obtain ⟨p, hc⟩ := hrow i hlt
    have hto := hok l[i] (List.getElem_mem hlt)
    rw [hd]
    simp only [prF]
    have hdf : decide (i + 1 = 0) = false := decide_eq_false (by omega)
    generalize l[i] = t at *
    have htl := tkS_len hto
    simp only [tkI] at hc
    -- the blank
    obtain ⟨acc1, hacc1, hb1⟩ : ∃ acc1, acc1 = acc ++ (if decide (i = 0) then [] else [32]) ∧ acc1.length ≤ acc.length + 1 := ⟨_, rfl, by rw [List.length_append]; split <;> simp⟩
    have ha1 := fun (h : 0 < i) x y H => sadd acc [32] (by simp; omega) x y H
    have ha2 := fun x y H => sadd acc1 (bytesI (tkS t.2)) (by rw [bytesI_length]; omega) x y H
    rw [strOf_bytesI] at ha2
    have hc32 : (⟨#[32]⟩ : ByteArray) = strOf [32] := by kernel_rfl
    rw [← hc32] at ha1
    have e1 : acc ++ ((if decide (i = 0) then [] else [32]) ++ (bytesI (tkS t.2) ++ prF false (l.drop (i + 1)))) = (acc1 ++ bytesI (tkS t.2)) ++ prF false (l.drop (i + 1)) := by rw [hacc1]; simp only [List.append_assoc]
    rw [e1]
    obtain ⟨acc2, hacc2⟩ : ∃ acc2, acc2 = acc1 ++ bytesI (tkS t.2) := ⟨_, rfl⟩
    have hb2 : acc2.length ≤ 12003 * (i + 1) := by rw [hacc2, List.length_append, bytesI_length]; omega
    rw [← hacc2] at ha2 ⊢
    have step : ∃ T1 H1, run J okAll (.loop L18_0) T H = run J okAll (.loop L18_0) T1 H1 ∧ Fr lo H H1 ∧ T1.at 3 = .string (strOf acc2) ∧ T1.at 6 = .slice (some ⟨tb, 0, none⟩) l.length c ∧ T1.at 7 = .int .i64 (l.length : Int) ∧ T1.at 8 = .int .i64 ((i : Int) + 1) := by
      have hF : Fr lo H (H.push (.cells [.int .i64 t.2.kind, .int .i64 p, .string t.2.text, .int .i64 t.2.n] 31 false)) := (Fr.refl _ _).push hlo _
      have e30 := c30 (H.push (.cells [.int .i64 t.2.kind, .int .i64 p, .string t.2.text, .int .i64 t.2.n] 31 false)) t.2.n hto.1 hto.2.1
      have e31 := c31 (H.push (.cells [.int .i64 t.2.kind, .int .i64 p, .string t.2.text, .int .i64 t.2.n] 31 false)) t.2.text (by have := hto.2.2; omega)
      have w0 : IntKind.i64.wrap 1 = 1 := rfl
      suffices hs : ∃ T1, run J okAll (.loop L18_0) T H = run J okAll (.loop L18_0) T1 (H.push (.cells [.int .i64 t.2.kind, .int .i64 p, .string t.2.text, .int .i64 t.2.n] 31 false)) ∧ T1.at 3 = .string (strOf acc2) ∧ T1.at 6 = .slice (some ⟨tb, 0, none⟩) l.length c ∧ T1.at 7 = .int .i64 (l.length : Int) ∧ T1.at 8 = .int .i64 ((i : Int) + 1) by
        obtain ⟨T1, g0, g⟩ := hs
        exact ⟨T1, _, g0, hF, g⟩
      clear e1 hacc2 hb2
      by_cases k1 : t.2.kind = 1
      · have k1D : decide (t.2.kind = 1) = true := decide_eq_true k1
        have hts : tkS t.2 = strOf (fmtL t.2.n) := if_pos k1
        rw [hts] at ha2
        by_cases hi0 : i = 0
        · have ea : acc1 = acc := by rw [hacc1, decide_eq_true hi0]; simp
          subst hi0
          rw [ea] at ha2
          rw [r_loop]
          simp [L18_0, t3, t6, t7, t8, hlt, iindexAddr, hc, inew, istore, Value.cells, plain1, overlay, IH.get_push, IH.get_set, push_set, w1, w0, k1D, e30, ha2]
          exact ⟨_, rfl, by simp, by simp [t6], by simp [t7], by simp⟩
        · have ea : acc1 = acc ++ [32] := by rw [hacc1, decide_eq_false hi0]; simp
          have hi0' : 0 < i := by omega
          have ha1' := ha1 hi0'
          rw [ea] at ha2
          rw [r_loop]
          simp [L18_0, t3, t6, t7, t8, hlt, iindexAddr, hc, inew, istore, Value.cells, plain1, overlay, IH.get_push, IH.get_set, push_set, w1, w0, hi0', ha1', k1D, e30, ha2]
          exact ⟨_, rfl, by simp, by simp [t6], by simp [t7], by simp⟩
      · have k1D : decide (t.2.kind = 1) = false := decide_eq_false k1
        by_cases k2 : t.2.kind = 2
        · have k2D : decide (t.2.kind = 2) = true := decide_eq_true k2
          have hts : tkS t.2 = strOf (quoL t.2.text) := by unfold tkS; rw [if_neg k1, if_pos k2]
          rw [hts] at ha2
          by_cases hi0 : i = 0
          · have ea : acc1 = acc := by rw [hacc1, decide_eq_true hi0]; simp
            subst hi0
            rw [ea] at ha2
            rw [r_loop]
            simp [L18_0, t3, t6, t7, t8, hlt, iindexAddr, hc, inew, istore, Value.cells, plain1, overlay, IH.get_push, IH.get_set, push_set, w1, w0, k1D, k2D, e31, ha2]
            exact ⟨_, rfl, by simp, by simp [t6], by simp [t7], by simp⟩
          · have ea : acc1 = acc ++ [32] := by rw [hacc1, decide_eq_false hi0]; simp
            have hi0' : 0 < i := by omega
            have ha1' := ha1 hi0'
            rw [ea] at ha2
            rw [r_loop]
            simp [L18_0, t3, t6, t7, t8, hlt, iindexAddr, hc, inew, istore, Value.cells, plain1, overlay, IH.get_push, IH.get_set, push_set, w1, w0, hi0', ha1', k1D, k2D, e31, ha2]
            exact ⟨_, rfl, by simp, by simp [t6], by simp [t7], by simp⟩
        · have k2D : decide (t.2.kind = 2) = false := decide_eq_false k2
          have hts : tkS t.2 = t.2.text := by unfold tkS; rw [if_neg k1, if_neg k2]
          rw [hts] at ha2
          by_cases hi0 : i = 0
          · have ea : acc1 = acc := by rw [hacc1, decide_eq_true hi0]; simp
            subst hi0
            rw [ea] at ha2
            rw [r_loop]
            simp [L18_0, t3, t6, t7, t8, hlt, iindexAddr, hc, inew, istore, Value.cells, plain1, overlay, IH.get_push, IH.get_set, push_set, w1, w0, k1D, k2D, ha2]
            exact ⟨_, rfl, by simp, by simp [t6], by simp [t7], by simp⟩
          · have ea : acc1 = acc ++ [32] := by rw [hacc1, decide_eq_false hi0]; simp
            have hi0' : 0 < i := by omega
            have ha1' := ha1 hi0'
            rw [ea] at ha2
            rw [r_loop]
            simp [L18_0, t3, t6, t7, t8, hlt, iindexAddr, hc, inew, istore, Value.cells, plain1, overlay, IH.get_push, IH.get_set, push_set, w1, w0, hi0', ha1', k1D, k2D, ha2]
            exact ⟨_, rfl, by simp, by simp [t6], by simp [t7], by simp⟩
    obtain ⟨T1, H1, e0, f0, f3, f6, f7, f8⟩ := step
    obtain ⟨T', H', r1, r2, r3⟩ := ih (i + 1) acc2 H1 T1 (by omega) (by omega) hb2 (by have := f0.1; omega) (fun j hj => by obtain ⟨q, hq⟩ := hrow j hj; exact ⟨q, by rw [f0.2 tb htb]; exact hq⟩) f3 f6 f7 (by rw [f8]; simp)
    exact ⟨T', H', by rw [e0, r1], f0.trans r2, by rw [r3, hdf]⟩
theorem c18 (H : IH) (v : Value) (l : List (Nat × Tk)) (hl : l.length ≤ 10000) (hok : ∀ t ∈ l, PrOk t.2)
    (hv : (v = .slice none 0 0 ∧ l = []) ∨ ∃ tb c, v = .slice (some ⟨tb, 0, none⟩) l.length c ∧ tb < H.next ∧ TkRowI H tb l) :
    ∃ H', Fr H.next H H' ∧ cal J okAll 18 #[v] H = some (.ret (.string (strOf (prF true l))), H') := by
  rw [cal18 _ _ (by simp)]
  rcases hv with ⟨rfl, rfl⟩ | ⟨tb, c, rfl, htb, hrow⟩
  · refine ⟨H, Fr.refl _ _, ?_⟩
    simp [C18, R18, regsOf, fin, iresult1]
    generalize hX : run J okAll (.loop L18_0) _ _ = X
    have : ∃ T', X = some (.exit 0, T', H) ∧ T'.at 3 = .string (strOf []) := by
      rw [← hX, r_loop]
      simp [L18_0]
      rfl
    obtain ⟨T', e1, e2⟩ := this
    rw [e1]
    simp [e2, fin, iresult1, prF]
  · have key := fun T => loop18 tb c H.next l hl htb hok _ 0 [] H T rfl (by omega) (by simp) (Nat.le_refl _) hrow
    simp [C18, R18, regsOf, fin, iresult1]
    generalize hX : run J okAll (.loop L18_0) _ _ = X
    obtain ⟨T1, e1, t3, t6, t7, t8⟩ : ∃ T1, run J okAll (.loop L18_0) T1 H = X ∧ T1.at 3 = .string (strOf []) ∧ T1.at 6 = .slice (some ⟨tb, 0, none⟩) l.length c ∧ T1.at 7 = .int .i64 (l.length : Int) ∧ T1.at 8 = .int .i64 ((0 : Nat) : Int) :=
      ⟨_, hX, by simp; rfl, by simp, by simp, by simp⟩
    obtain ⟨T', H', r1, r2, r3⟩ := key T1 t3 t6 t7 t8
    simp only [List.drop_zero, List.nil_append, decide_true] at r3
    rw [← e1, r1]
    exact ⟨H', r2, by simp [fin, iresult1, r3]⟩
end Go.Proofs.YtjbcjcibnjbpcaaDoor.Idl
namespace Go.Proofs.YtjbcjcibnjbpcaaDoor.Idl
open Go
set_option maxHeartbeats 16000000
set_option maxRecDepth 100000
set_option linter.unusedSimpArgs false
/-- A row of tokens in a block, whole. -/
def TkIn (H : IH) (tb : Nat) (l : List (Nat × Tk)) : Prop := TkRowI H tb l ∧ ∃ cs pr, H.get tb = some (.cells cs 31 pr)
theorem loop4 (tb c : Nat) (l : List (Nat × Tk)) (hl : l.length ≤ 10000) (v0 : Value) : ∀ (n i : Nat) (H : IH) (T : Regs),
    l.length - i = n → i ≤ l.length → Glob H → tb < H.next → TkRowI H tb l →
    T.at 0 = v0 → T.at 10 = .slice (some ⟨tb, 0, none⟩) l.length c → T.at 11 = .int .i64 (l.length : Int) → T.at 12 = .int .i64 (i : Int) →
    (∃ T' H', run J okAll (.loop L4_0) T H = some (.exit 0, T', H') ∧ Fr H.next H H' ∧ T'.at 0 = v0 ∧ ∀ j (h : j < l.length), i ≤ j → l[j].2.text.size ≤ 3000) ∨
    (∃ T' H', run J okAll (.loop L4_0) T H = some (.ret, T', H') ∧ Fr H.next H H' ∧ T'.at 2 = .bool true) := by
  intro n
  induction n with
  | zero =>
    intro i H T hn hi hG htb hrow t0 t10 t11 t12
    have hlt : ¬ ((i : Int) < l.length) := by omega
    have : ∃ T', run J okAll (.loop L4_0) T H = some (.exit 0, T', H) ∧ T'.at 0 = v0 := by
      rw [r_loop]
      simp [L4_0, t0, t10, t11, t12, hlt]
    obtain ⟨T', e, a⟩ := this
    exact .inl ⟨T', H, e, Fr.refl _ _, a, fun j hj hij => by omega⟩
  | succ n ih =>
    intro i H T hn hi hG htb hrow t0 t10 t11 t12
    have hlt : i < l.length := by omega
    have w1 : IntKind.i64.wrap ((i : Int) + 1) = (i : Int) + 1 := wrap64 _ (by omega) (by omega)
    obtain ⟨p, hc⟩ := hrow i hlt
    have hti : ∀ (P : Nat → Prop), (∀ j (h : j < l.length), i + 1 ≤ j → P l[j].2.text.size) → P l[i].2.text.size → ∀ j (h : j < l.length), i ≤ j → P l[j].2.text.size := fun P h1 h2 j hj hij => by
      rcases Nat.lt_or_ge i j with h | h
      · exact h1 j hj h
      · have : j = i := by omega
        subst this; exact h2
    have hP := hti (· ≤ 3000)
    generalize l[i] = t at *
    simp only [tkI] at hc
    have hF : Fr H.next H (H.push (.cells [.int .i64 t.2.kind, .int .i64 p, .string t.2.text, .int .i64 t.2.n] 31 false)) := (Fr.refl _ _).push (Nat.le_refl _) _
    by_cases hbig : 3000 < t.2.text.size
    · have hbD : decide ((3000 : Int) < t.2.text.size) = true := decide_eq_true (by omega)
      obtain ⟨H2, f2, e2⟩ := c16 _ (hG.mono hG.2.2 hF)
      right
      have : ∃ T', run J okAll (.loop L4_0) T H = some (.ret, T', H2) ∧ T'.at 2 = .bool true := by
        rw [r_loop]
        simp [L4_0, t0, t10, t11, t12, hlt, iindexAddr, hc, inew, istore, Value.cells, plain1, overlay, IH.get_push, IH.get_set, push_set, hbD, e2]
      obtain ⟨T', e, a⟩ := this
      exact ⟨T', H2, e, hF.trans' f2 hF.1, a⟩
    · have hb2 : decide ((3000 : Int) < t.2.text.size) = false := decide_eq_false (by omega)
      have : ∃ T1, run J okAll (.loop L4_0) T H = run J okAll (.loop L4_0) T1 (H.push (.cells [.int .i64 t.2.kind, .int .i64 p, .string t.2.text, .int .i64 t.2.n] 31 false)) ∧ T1.at 0 = v0 ∧ T1.at 10 = .slice (some ⟨tb, 0, none⟩) l.length c ∧ T1.at 11 = .int .i64 (l.length : Int) ∧ T1.at 12 = .int .i64 ((i : Int) + 1) := by
        rw [r_loop]
        simp [L4_0, t0, t10, t11, t12, hlt, w1, iindexAddr, hc, inew, istore, Value.cells, plain1, overlay, IH.get_push, IH.get_set, push_set, hb2]
        exact ⟨_, rfl, by simp [t0], by simp [t10], by simp [t11], by simp⟩
      obtain ⟨T1, e0, f0, f10, f11, f12⟩ := this
      rcases ih (i + 1) _ T1 (by omega) (by omega) (hG.mono hG.2.2 hF) (by simp; omega) (fun j hj => by obtain ⟨q, hq⟩ := hrow j hj; exact ⟨q, by rw [IH.get_push_other _ _ _ htb]; exact hq⟩) f0 f10 f11 (by rw [f12]; simp) with ⟨T', H', r1, r2, r3, r4⟩ | ⟨T', H', r1, r2, r3⟩
      · exact .inl ⟨T', H', by rw [e0, r1], hF.trans' r2 hF.1, r3, hP r4 (by omega)⟩
      · exact .inr ⟨T', H', by rw [e0, r1], hF.trans' r2 hF.1, r3⟩
/-- What comes behind the loop. -/
theorem prints_same (H : IH) (hG : Glob H) (v : Value) (l : List (Nat × Tk)) (hl : l.length ≤ 10000) (hok : ∀ t ∈ l, PrOk t.2)
    (hv : (v = .slice none 0 0 ∧ l = []) ∨ ∃ tb c, v = .slice (some ⟨tb, 0, none⟩) l.length c ∧ tb < H.next ∧ TkRowI H tb l) :
    ∃ H1 H2 H3 s, Fr H.next H H3 ∧ cal J okAll 17 #[v] H = some (.ret (.string s), H1) ∧ cal J okAll 18 #[v] H1 = some (.ret (.string s), H2) ∧ cal J okAll 16 #[] H2 = some (.ret (.bool true), H3) := by
  have hp := prF_len l true hok
  obtain ⟨H1, f1, e1⟩ := c17I H v l (by omega) (fun t ht => (hok t ht).tok) (by omega) hv
  obtain ⟨H2, f2, e2⟩ := c18 H1 v l hl hok (hv.imp id fun ⟨tb, c, h1, h2, h3⟩ => ⟨tb, c, h1, Nat.lt_of_lt_of_le h2 f1.1, fun i hi => by obtain ⟨p, hp⟩ := h3 i hi; exact ⟨p, by rw [f1.2 tb h2]; exact hp⟩⟩)
  have f12 := f1.trans' f2 f1.1
  obtain ⟨H3, f3, e3⟩ := c16 H2 (hG.mono hG.2.2 f12)
  exact ⟨H1, H2, H3, _, f12.trans' f3 f12.1, e1, e2, e3⟩
theorem c4 (H : IH) (hG : Glob H) (v : Value) (l : List (Nat × Tk)) (hn : ∀ t ∈ l, -9223372036854775808 ≤ t.2.n ∧ t.2.n ≤ 9223372036854775807) (hll : l.length < 2 ^ 63)
    (hv : (v = .slice none 0 0 ∧ l = []) ∨ ∃ tb, v = .slice (some ⟨tb, 0, none⟩) l.length capU ∧ tb < H.next ∧ TkRowI H tb l ∧ (l = [] ∨ ∃ cs pr, H.get tb = some (.cells cs 31 pr))) :
    ∃ H', Fr H.next H H' ∧ cal J okAll 4 #[v] H = some (.ret (.bool true), H') := by
  have h9 := hG.2.2
  rcases hv with ⟨rfl, rfl⟩ | ⟨tb, rfl, htb, hrow, hblk⟩
  · obtain ⟨H1, H2, H3, s, f, e1, e2, e3⟩ := prints_same H hG (.slice none 0 0) [] (by simp) (by simp) (.inl ⟨rfl, rfl⟩)
    refine ⟨H3, f, ?_⟩
    rw [cal4 _ _ (by simp)]
    simp [C4, R4, regsOf, fin, iresult1]
    generalize hX : run J okAll (.loop L4_0) _ _ = X
    have : ∃ T', X = some (.exit 0, T', H) ∧ T'.at 0 = .slice none 0 0 := by
      rw [← hX, r_loop]
      simp [L4_0]
    obtain ⟨T', x1, x2⟩ := this
    rw [x1]
    simp [x2, e1, e2, e3, fin, iresult1]
  · -- the tokens that are looked at
    obtain ⟨m, hm⟩ : ∃ m, m = l.take 200 := ⟨_, rfl⟩
    have hml : m.length = min 200 l.length := by rw [hm, List.length_take]
    have hrowm : TkRowI H tb m := fun i hi => by
      obtain ⟨p, hp⟩ := hrow i (by omega)
      refine ⟨p, ?_⟩
      rw [hp]
      congr 2
      subst hm
      rw [List.getElem_take]
    have hnm : ∀ t ∈ m, -9223372036854775808 ≤ t.2.n ∧ t.2.n ≤ 9223372036854775807 := fun t ht => hn t (by rw [hm] at ht; exact List.mem_of_mem_take ht)
    have hadd : (⟨tb, 0, none⟩ : Addr).add 0 = ⟨tb, 0, none⟩ := rfl
    have tail : ∀ T : Regs, T.at 0 = .slice (some ⟨tb, 0, none⟩) m.length capU → T.at 10 = .slice (some ⟨tb, 0, none⟩) m.length capU → T.at 11 = .int .i64 (m.length : Int) → T.at 12 = .int .i64 ((0 : Nat) : Int) →
        (∃ T' H0 H1 H2 H3 s, run J okAll (.loop L4_0) T H = some (.exit 0, T', H0) ∧ T'.at 0 = .slice (some ⟨tb, 0, none⟩) m.length capU ∧ Fr H.next H H3 ∧ cal J okAll 17 #[.slice (some ⟨tb, 0, none⟩) m.length capU] H0 = some (.ret (.string s), H1) ∧
          cal J okAll 18 #[.slice (some ⟨tb, 0, none⟩) m.length capU] H1 = some (.ret (.string s), H2) ∧ cal J okAll 16 #[] H2 = some (.ret (.bool true), H3)) ∨
        (∃ T' H3, run J okAll (.loop L4_0) T H = some (.ret, T', H3) ∧ Fr H.next H H3 ∧ T'.at 2 = .bool true) := fun T t0 t10 t11 t12 => by
      rcases loop4 tb capU m (by omega) _ _ 0 H T rfl (by omega) hG htb hrowm t0 t10 t11 t12 with ⟨T', H0, r1, r2, r3, r4⟩ | ⟨T', H3, r1, r2, r3⟩
      · left
        have hok : ∀ t ∈ m, PrOk t.2 := fun t ht => by
          obtain ⟨j, hj, rfl⟩ := List.mem_iff_getElem.1 ht
          exact ⟨(hnm _ ht).1, (hnm _ ht).2, r4 j hj (by omega)⟩
        obtain ⟨H1, H2, H3, s, f, e1, e2, e3⟩ := prints_same H0 (hG.mono h9 r2) (.slice (some ⟨tb, 0, none⟩) m.length capU) m (by omega) hok
          (.inr ⟨tb, capU, rfl, Nat.lt_of_lt_of_le htb r2.1, fun i hi => by obtain ⟨p, hp⟩ := hrowm i hi; exact ⟨p, by rw [r2.2 tb htb]; exact hp⟩⟩)
        exact ⟨T', H0, H1, H2, H3, s, r1, r3, r2.trans' f r2.1, e1, e2, e3⟩
      · exact .inr ⟨T', H3, r1, r2, r3⟩
    have fin1 : ∀ X : Option (IX × Regs × IH), (∃ T1, run J okAll (.loop L4_0) T1 H = X ∧ T1.at 0 = .slice (some ⟨tb, 0, none⟩) m.length capU ∧ T1.at 10 = .slice (some ⟨tb, 0, none⟩) m.length capU ∧ T1.at 11 = .int .i64 (m.length : Int) ∧ T1.at 12 = .int .i64 ((0 : Nat) : Int)) →
        (∃ T' H0 H1 H2 H3 s, X = some (.exit 0, T', H0) ∧ T'.at 0 = .slice (some ⟨tb, 0, none⟩) m.length capU ∧ Fr H.next H H3 ∧ cal J okAll 17 #[.slice (some ⟨tb, 0, none⟩) m.length capU] H0 = some (.ret (.string s), H1) ∧
          cal J okAll 18 #[.slice (some ⟨tb, 0, none⟩) m.length capU] H1 = some (.ret (.string s), H2) ∧ cal J okAll 16 #[] H2 = some (.ret (.bool true), H3)) ∨
        (∃ T' H3, X = some (.ret, T', H3) ∧ Fr H.next H H3 ∧ T'.at 2 = .bool true) := fun X ⟨T1, x1, t0, t10, t11, t12⟩ => by
      rw [← x1]; exact tail T1 t0 t10 t11 t12
    rw [cal4 _ _ (by simp)]
    by_cases hbig : 200 < l.length
    · have hm200 : m.length = 200 := by omega
      have hbD : decide ((200 : Int) < l.length) = true := decide_eq_true (by omega)
      obtain ⟨cs, pr, hg⟩ := hblk.resolve_left (by intro h; subst h; simp at hbig)
      have hc31 : J.size 31 = some 4 := by simp
      have hu23 : J.und 23 = some (.slice 31) := by simp
      have hsl : islice J 23 (.slice (some ⟨tb, 0, none⟩) l.length capU) none (some (.int .i64 200)) none H = some (.slice (some ⟨tb, 0, none⟩) 200 capU) := by
        unfold islice
        rw [hu23]
        simp only [hc31]
        simp [ibound, hg, capU, Addr.add]
        omega
      rw [hm200] at fin1
      simp [C4, R4, regsOf, fin, iresult1, hbD, hsl]
      generalize hX : run J okAll (.loop L4_0) _ _ = X
      rcases fin1 X ⟨_, hX, by simp, by simp, by simp, by simp⟩ with ⟨T', H0, H1, H2, H3, s, r1, r2, f, e1, e2, e3⟩ | ⟨T', H3, r1, f, r2⟩
      · rw [r1]
        exact ⟨H3, f, by simp [r2, e1, e2, e3, fin, iresult1]⟩
      · rw [r1]
        exact ⟨H3, f, by simp [r2, fin, iresult1]⟩
    · have hbD : decide ((200 : Int) < l.length) = false := decide_eq_false (by omega)
      have hml2 : m.length = l.length := by omega
      rw [hml2] at fin1
      simp [C4, R4, regsOf, fin, iresult1, hbD]
      generalize hX : run J okAll (.loop L4_0) _ _ = X
      rcases fin1 X ⟨_, hX, by simp, by simp, by simp, by simp⟩ with ⟨T', H0, H1, H2, H3, s, r1, r2, f, e1, e2, e3⟩ | ⟨T', H3, r1, f, r2⟩
      · rw [r1]
        exact ⟨H3, f, by simp [r2, e1, e2, e3, fin, iresult1]⟩
      · rw [r1]
        exact ⟨H3, f, by simp [r2, fin, iresult1]⟩
end Go.Proofs.YtjbcjcibnjbpcaaDoor.Idl
namespace Go.Proofs.YtjbcjcibnjbpcaaDoor.Idl
open Go
set_option maxRecDepth 100000
def fs31 : Array Field := #[{ name := "Kind", type := 3, offset := 0, embedded := false, tag := "", pkgPath := "", byteOffset := 0 }, { name := "At", type := 3, offset := 1, embedded := false, tag := "", pkgPath := "", byteOffset := 8 }, { name := "Text", type := 9, offset := 2, embedded := false, tag := "", pkgPath := "", byteOffset := 16 }, { name := "N", type := 2, offset := 3, embedded := false, tag := "", pkgPath := "", byteOffset := 32 }]
theorem und31s : J.und 31 = some (.struct fs31) := by kernel_rfl
theorem dat_tok {K : Type} {H : IH} {cs : List Value} {d : DataW K} (h : Dat J H 31 cs d) : ∃ (t : Tk) (p : Int), cs = tkI p t ∧ -9223372036854775808 ≤ t.n ∧ t.n ≤ 9223372036854775807 := by
  obtain ⟨ds, rfl, h1, h2, h3⟩ := h.structI und31s
  rw [size31] at h1
  have hl : cs.length = 4 := (Option.some.inj h1).symm
  have hd : ds.length = 4 := h2
  match cs, hl, ds, hd with
  | [c0, c1, c2, c3], _, [d0, d1, d2, d3], _ =>
    obtain ⟨n0, e0, _, _⟩ := (h3 0 _ d0 1 rfl rfl (show J.size 3 = some 1 by simp)).intI (show J.und 3 = some (.int .i64) by simp)
    obtain ⟨n1, e1, _, _⟩ := (h3 1 _ d1 1 rfl rfl (show J.size 3 = some 1 by simp)).intI (show J.und 3 = some (.int .i64) by simp)
    obtain ⟨s, e2, _, _⟩ := (h3 2 _ d2 1 rfl rfl (show J.size 9 = some 1 by simp)).stringI (show J.und 9 = some .string by simp)
    obtain ⟨n3, e3, _, w3⟩ := (h3 3 _ d3 1 rfl rfl (show J.size 2 = some 1 by simp)).intI (show J.und 2 = some (.int .i64) by simp)
    simp [fs31] at e0 e1 e2 e3
    subst e0 e1 e2 e3
    exact ⟨⟨n0, s, n3, 0, true⟩, n1, rfl, wf_i64 w3⟩
theorem toks_of {f : Nat → List Value} : ∀ n : Nat, (∀ i, i < n → ∃ (t : Tk) (p : Int), f i = tkI p t ∧ -9223372036854775808 ≤ t.n ∧ t.n ≤ 9223372036854775807) →
    ∃ l : List (Nat × Tk), l.length = n ∧ (∀ t ∈ l, -9223372036854775808 ≤ t.2.n ∧ t.2.n ≤ 9223372036854775807) ∧ ∀ i (h : i < l.length), ∃ p : Int, f i = tkI p l[i].2 := by
  intro n
  induction n with
  | zero => intro _; exact ⟨[], rfl, by simp, fun i h => by simp at h⟩
  | succ n ih =>
    intro h
    obtain ⟨l, h1, h2, h3⟩ := ih fun i hi => h i (by omega)
    obtain ⟨t, p, h4, h5⟩ := h n (by omega)
    refine ⟨l ++ [(0, t)], by simp [h1], fun x hx => ?_, fun i hi => ?_⟩
    · rcases List.mem_append.1 hx with hx | hx
      · exact h2 x hx
      · obtain rfl : x = (0, t) := by simpa using hx
        exact h5
    · by_cases hl : i < l.length
      · obtain ⟨p, hp⟩ := h3 i hl
        exact ⟨p, by rw [hp, List.getElem_append_left hl]⟩
      · have : i = n := by simp at hi; omega
        subst this
        refine ⟨p, ?_⟩
        rw [h4]
        congr 1
        rw [List.getElem_append_right (by omega)]
        simp [h1]
theorem law4 {K : Type} (H : IH) (hG : Glob H) (vs : List Value) (ds : List (DataW K)) (h : DatAll J H [23] vs ds) : ∃ H', cal J okAll 4 vs.toArray H = some (.ret (.bool true), H') := by
  obtain ⟨v, d, rfl, rfl, hv⟩ := h.one
  rcases hv.slice (by simp : J.und 23 = some (.slice 31)) (by simp : J.size 31 = some 4) with ⟨rfl, rfl⟩ | ⟨b, len, ws, ds, rest, rfl, rfl, hb, hg, hw, hd, hm, hel⟩
  · obtain ⟨H', _, hc⟩ := c4 H hG (.slice none 0 0) [] (by simp) (by simp) (.inl ⟨rfl, rfl⟩)
    exact ⟨H', hc⟩
  · obtain ⟨l, h1, h2, h3⟩ := toks_of (f := fun i => (ws.drop (i * 4)).take 4) len fun i hi => dat_tok (hel i _ (List.getElem?_eq_getElem (by omega)))
    subst h1
    obtain ⟨H', _, hc⟩ := c4 H hG (.slice (some ⟨b, 0, none⟩) l.length capU) l h2 (by unfold maxLen at hm; omega) (.inr ⟨b, rfl, hb, fun i hi => by
        obtain ⟨p, hp⟩ := h3 i hi
        refine ⟨p, ?_⟩
        rw [hg (by omega), cellsOf_cells, if_pos (by omega), ← hp], by
        rcases Nat.eq_zero_or_pos l.length with h0 | h0
        · exact .inl (List.length_eq_zero_iff.1 h0)
        · exact .inr ⟨_, _, hg h0⟩⟩)
    exact ⟨H', hc⟩
end Go.Proofs.YtjbcjcibnjbpcaaDoor.Idl
namespace Go.Proofs.YtjbcjcibnjbpcaaDoor
open Go Go.ChangeShapes Go.WideShapes Go.ChangeAt Go.RowKit
set_option maxRecDepth 100000
theorem own : ownKnob Tryd.prog.godebug = .none := by kernel_rfl
theorem und4 : Tryd.prog.underlying 4 = some .bool := by kernel_rfl
theorem laidH (W : World) : laidMetH Tryd.prog Rows.lexPrintsRow.laid W = laidMet Tryd.prog Rows.lexPrintsRow.laid W := MakeChecks.laidMetH_plain _ _ _ (by kernel_rfl)
theorem func4 : Tryd.prog.funcs[4]? = some Tryd.f4 := by kernel_rfl
theorem params4 : Tryd.f4.params = #[23] := by kernel_rfl
theorem laidOut : laidOutB Tryd.prog = true := by kernel_rfl
theorem readable4 : ([23].all fun t => Tryd.prog.readableRec t && decide (t < Tryd.prog.types.size)) = true := by kernel_rfl
theorem lifted4 (os : Os) (started : os.Started) (H : Type) (enc : TypeId × Value → H) :
    ReturnsInHanded {} Tryd.checked os 4 .any (fun w args => (Rows.lexPrintsSpec.pre enc Tryd.prog Tryd.f4 [] false w args ∧ laidMetH Tryd.prog Rows.lexPrintsRow.laid w) ∧ sizedMet enc Tryd.prog Tryd.f4 (OpenSpec.ofChange Rows.lexPrintsSpec) false w args)
      (Rows.lexPrintsSpec.post enc Tryd.prog Tryd.f4 false true false false) := by
  refine returnsInHanded_of_change_and (C := Tryd.checked) (X := fun w _ => laidMetH Tryd.prog Rows.lexPrintsRow.laid w) (fun _ _ _ hh h => h.of_heap hh) own started (by kernel_rfl) func4
    (ChangeSpec.witness_shaped (enc := enc) (C := Tryd.checked) (os := os) (X := fun w _ => laidMetH Tryd.prog Rows.lexPrintsRow.laid w) false (World.laidAll Tryd.prog os Rows.lexPrintsRow.laid) #[((Tryd.prog.info? 23).bind (·.zero)).getD undef] 8 (World.laidAll_os _ _ _)
      (World.shaped_of_ZipB (by kernel_rfl) (by kernel_rfl)) (by kernel_rfl) (by kernel_rfl) (by kernel_rfl)
      (by rw [laidH]; exact laidMet_laidAll _ (by kernel_rfl) (by kernel_rfl))) ?_
  intro W base args ds gs before hval0 hW hc _ hL _
  have hval : ∀ (j : Nat) t v, Tryd.f4.params[j]? = some t → args[j]? = some v → Value.okWide Tryd.prog W .any base t v := hval0
  have hW' := hW
  have hlt := hW.lt
  obtain ⟨p, q, hA0, hV, rfl, _, _⟩ := hW
  have hA : DataW.TrodAll enc Tryd.prog W 0 (fun _ => true) true Tryd.f4.params.toList args.toList ds p := hA0
  rw [params4] at hA hval
  obtain ⟨d0, rfl⟩ := Idl.trod_ds1 hA
  obtain ⟨rfl, rfl⟩ := trodVars_none hV
  rw [List.append_nil] at hlt
  simp only [List.append_nil] at hW'
  rw [laidH] at hL
  obtain ⟨ι, hS⟩ := Idl.start hL
  refine (Idl.law_gen (J := Idl.J) Idl.sound hS (k := 12) (ts := [23]) (by kernel_rfl) (r := .any) (base := base) (args := args) (fun j t v h1 h2 => hval j t v (by simpa using h1) (by simpa using h2)) hA fun H vs hk hd => Idl.law4 H (Idl.glob_keeps hk) vs _ hd).mono fun e W' ⟨he, hB⟩ => ?_
  subst he
  refine ⟨_, rfl, _, _, _, [], p, [], hW', ?_, ?_, ?_, Idl.keptBut_of_below hB _, fun h => by cases h⟩
  · exact trodAll_mk1 (shut_bool und4 true)
  · refine Idl.stay_args laidOut hB (fun t ht => ?_) hA0 hlt
    rw [params4] at ht
    have := List.all_eq_true.1 readable4 t (by simpa using ht)
    simpa using this
  · rfl
theorem lexPrints_holds : Rows.LexPrintsSaid :=
  OpenClaim.holds_of_wide 4 Tryd.f4 rfl rfl rfl rfl rfl rfl rfl ⟨rfl, rfl, rfl, rfl, rfl⟩ rfl rfl rfl rfl rfl (by kernel_rfl) func4 (by kernel_rfl)
    (of_decide_eq_true (by kernel_rfl)) (by unfold Func.isWrapper; first | (rw [if_pos (by decide +kernel)]; kernel_rfl) | (rw [if_neg (by decide +kernel)]; exact ⟨rfl, rfl⟩))
    (fun os started H enc _ => lifted4 os started H enc)
theorem lexPrints_card : Rows.LexPrintsCardSaid :=
  Claim7.holds_tied_plain_at .later [] [.data, .data, .data, .sentinel, .sentinel, .listed, .data] true (true, "17391ddf44905ff62b8b72145bd5a67fc3f5c2f6327286b0eb46ce065c3c73e4") true
    lexPrints_holds (fun _ h => by cases h) (by kernel_rfl) (fun _ h => by cases h) lexPrints_row_tie rfl ⟨rfl, rfl⟩ (by kernel_rfl) rfl
    (fun f fn hf hfn => by
      obtain rfl : f = 4 := Option.some.inj ((show Tryd.prog.funcNamed "bellows/bellowslaw07.LexPrints" = some 4 by kernel_rfl).symm.trans hf) |>.symm
      obtain rfl : fn = Tryd.f4 := (Option.some.inj (func4.symm.trans hfn)).symm
      exact ⟨by kernel_rfl, fun j t ht => by
        rw [params4] at ht
        have hm : t ∈ [23] := by simpa using Array.mem_of_getElem? ht
        have hall : ([23].all fun u => !Tryd.prog.wantsStandIn u) = true := by kernel_rfl
        have := List.all_eq_true.1 hall t hm
        exact (show Tryd.prog.wantsStandIn t = false by simpa using this)⟩)
    (by kernel_rfl)
#print axioms lexPrints_card
end Go.Proofs.YtjbcjcibnjbpcaaDoor
